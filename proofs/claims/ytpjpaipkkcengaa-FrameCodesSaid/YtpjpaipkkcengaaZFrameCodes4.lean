/- The statement framecodes holds: its own theorem, over the walks in the files before. -/
import Derived.Test.YtpjpaipkkcengaaZFrameCodes3
set_option linter.unusedSimpArgs false
set_option linter.unusedVariables false
set_option linter.unusedSimpArgs false
set_option linter.unusedVariables false
set_option maxHeartbeats 800000
set_option maxRecDepth 100000
namespace Go.Proofs.Ytpjpaipkkcengaa
open Go.ChangeShapes Go.WideShapes Go.ChangeAt Go.RowKit
theorem FrameCodes_walk {H : Type} {enc : TypeId × Value → H} (W : World) (base : Nat) (args : Array Value) (ds : List (DataW H)) (ps : List MemPlace)
    (hval : ∀ (j : Nat) t v, Try.f12.params[j]? = some t → args[j]? = some v → Value.okWide Try.prog W .any base t v)
    (hA : DataW.TrodAll enc Try.prog W 0 (fun _ => true) true Try.f12.params.toList args.toList ds ps) (hwt : ∀ x ∈ DataW.weightsEach Try.prog Try.f12.params.toList ds, x ≤ reachBytes) :
    CallR Try.prog 12 args W fun v W' => v = .bool true ∧ Ext W W' := by
  rw [Try.params12] at hA hval hwt
  obtain ⟨v0, v1, v2, d0, d1, d2, p0, p1, p2, rfl, rfl, rfl, h0, h1, h2⟩ := trodAll_three hA
  replace hwt : ∀ x ∈ DataW.weightsEach Try.prog [90, 90, 3] [d0, d1, d2], x ≤ reachBytes := hwt
  obtain ⟨cs0, rfl, hk0⟩ := open_flat Try.underlying90 rfl fl90 (hval 0 90 v0 rfl rfl) h0
  replace hwt := rest_weight hwt
  obtain ⟨cs1, rfl, hk1⟩ := open_flat Try.underlying90 rfl fl90 (hval 1 90 v1 rfl rfl) h1
  replace hwt := rest_weight hwt
  obtain ⟨a2, rfl, rfl, rfl, wf2⟩ := open_int Try.underlying3 (hval 2 3 v2 rfl rfl) h2
  replace hwt := rest_weight hwt
  obtain ⟨fm, A, cp, rfl, hf, hrA, _⟩ := fm_open (show AllOk W fmKs cs0 from hk0)
  obtain ⟨gm, B, dp, rfl, hg, hrB, _⟩ := fm_open (show AllOk W fmKs cs1 from hk1)
  exact c_FrameCodes W fm gm hf hg A B cp dp hrA hrB a2 (bounds_i64 wf2).2
theorem FrameCodes_lifted (os : Os) (started : os.Started) (H : Type) (enc : TypeId × Value → H) :
    ReturnsInHanded {} Try.checked os 12 .any (Rows.frameCodesSpec.pre6 enc Try.prog Try.f12 Rows.frameCodesRow.domain false) (Rows.frameCodesSpec.post enc Try.prog Try.f12 false true false false) :=
  law_lifted (C := Try.checked) (tb := 4) own0 started (by kernel_rfl) Try.func12 ⟨#[], #[.agg #[.int .u8 0, .int .u8 0, .int .u8 0, .int .u32 0, .int .u32 0, .int .u8 0, .int .u32 0, .bool false, .slice none 0 0], .agg #[.int .u8 0, .int .u8 0, .int .u8 0, .int .u32 0, .int .u32 0, .int .u8 0, .int .u32 0, .bool false, .slice none 0 0], .int .i64 0], []⟩ 8 (by kernel_rfl) (by kernel_rfl) (by kernel_rfl) (by kernel_rfl) (by kernel_rfl) laidOut0 rfl (by kernel_rfl)
    (fun ds hds => by match ds, hds with | [d0, d1, d2], _ => rfl) rfl Try.underlying4 (fun W base args ds ps hval hA hwt => FrameCodes_walk W base args ds ps hval hA hwt)
theorem FrameCodes_place : Try.prog.inPlace 12 = Rows.frameCodesRow.inPlace := by kernel_rfl
theorem FrameCodes_unf : Try.prog.unfollowed 12 = Rows.frameCodesRow.unfollowed := by kernel_rfl
theorem FrameCodes_rec : Try.prog.recurses 12 = Rows.frameCodesRow.recurses := by kernel_rfl
theorem FrameCodes_named : Try.prog.varsNamed 12 = Rows.frameCodesRow.named := by kernel_rfl
theorem FrameCodes_closed : joinedFacts Try.prog 12 Try.f12 Rows.frameCodesSpec Rows.frameCodesRow = true :=
  closed_of p_make p_lifts p_enter laidOut0 p_rowed p_stops p_knobs p_keys p_heard FrameCodes_place FrameCodes_unf FrameCodes_rec FrameCodes_named (by kernel_rfl)
theorem FrameCodes_nm : Try.prog.funcNamed Rows.frameCodesRow.func = some 12 := by kernel_rfl
theorem FrameCodes_inst : Func.isInstance Try.prog Try.f12 Rows.frameCodesRow.origin Rows.frameCodesRow.targs := of_decide_eq_true (by kernel_rfl)
theorem FrameCodes_wrap : Func.isWrapper Try.prog Try.f12 Rows.frameCodesRow.wrapper Rows.frameCodesRow.mainSum := by unfold Func.isWrapper; (rw [if_neg (by decide +kernel)]; exact ⟨rfl, rfl⟩)
theorem FrameCodes_holds : Rows.FrameCodesSaid :=
  OpenClaim.holds_of_wide 12 Try.f12 rfl rfl rfl rfl rfl rfl rfl ⟨rfl, rfl, rfl, rfl, rfl⟩ rfl rfl rfl rfl rfl FrameCodes_nm Try.func12 FrameCodes_closed FrameCodes_inst FrameCodes_wrap
    (fun os started H enc _ => FrameCodes_lifted os started H enc)
end Go.Proofs.Ytpjpaipkkcengaa
