/- The statement frameturned holds: its own theorem, over the walks in the files before. -/
import Derived.Test.YtpjpaipkkcengaaZFrameTurned3
set_option linter.unusedSimpArgs false
set_option linter.unusedVariables false
set_option linter.unusedSimpArgs false
set_option linter.unusedVariables false
set_option maxHeartbeats 800000
set_option maxRecDepth 100000
namespace Go.Proofs.Ytpjpaipkkcengaa
open Go.ChangeShapes Go.WideShapes Go.ChangeAt Go.RowKit
theorem FrameTurned_walk {H : Type} {enc : TypeId × Value → H} (W : World) (base : Nat) (args : Array Value) (ds : List (DataW H)) (ps : List MemPlace)
    (hval : ∀ (j : Nat) t v, Try.f10.params[j]? = some t → args[j]? = some v → Value.okWide Try.prog W .any base t v)
    (hA : DataW.TrodAll enc Try.prog W 0 (fun _ => true) true Try.f10.params.toList args.toList ds ps) (hwt : ∀ x ∈ DataW.weightsEach Try.prog Try.f10.params.toList ds, x ≤ reachBytes) :
    CallR Try.prog 10 args W fun v W' => v = .bool true ∧ Ext W W' := by
  rw [Try.params10] at hA hval hwt
  obtain ⟨v0, v1, v2, d0, d1, d2, p0, p1, p2, rfl, rfl, rfl, h0, h1, h2⟩ := trodAll_three hA
  replace hwt : ∀ x ∈ DataW.weightsEach Try.prog [90, 3, 58] [d0, d1, d2], x ≤ reachBytes := hwt
  obtain ⟨cs0, rfl, hk0⟩ := open_flat Try.underlying90 rfl fl90 (hval 0 90 v0 rfl rfl) h0
  replace hwt := rest_weight hwt
  obtain ⟨a1, rfl, rfl, rfl, wf1⟩ := open_int Try.underlying3 (hval 1 3 v1 rfl rfl) h1
  replace hwt := rest_weight hwt
  obtain ⟨a2, rfl, rfl, rfl, wf2⟩ := open_int Try.underlying58 (hval 2 58 v2 rfl rfl) h2
  replace hwt := rest_weight hwt
  obtain ⟨fm, A, cp, rfl, hf, hrA, _⟩ := fm_open (show AllOk W fmKs cs0 from hk0)
  have h1 := bounds_i64 wf1
  have h2 := wf_u16 wf2
  rw [h2.1]
  exact c_FrameTurned W fm hf A cp hrA a1 h1.1 h1.2 a2.toNat h2.2
theorem FrameTurned_lifted (os : Os) (started : os.Started) (H : Type) (enc : TypeId × Value → H) :
    ReturnsInHanded {} Try.checked os 10 .any (Rows.frameTurnedSpec.pre6 enc Try.prog Try.f10 Rows.frameTurnedRow.domain false) (Rows.frameTurnedSpec.post enc Try.prog Try.f10 false true false false) :=
  law_lifted (C := Try.checked) (tb := 4) own0 started (by kernel_rfl) Try.func10 ⟨#[], #[.agg #[.int .u8 0, .int .u8 0, .int .u8 0, .int .u32 0, .int .u32 0, .int .u8 0, .int .u32 0, .bool false, .slice none 0 0], .int .i64 0, .int .u16 0], []⟩ 8 (by kernel_rfl) (by kernel_rfl) (by kernel_rfl) (by kernel_rfl) (by kernel_rfl) laidOut0 rfl (by kernel_rfl)
    (fun ds hds => by match ds, hds with | [d0, d1, d2], _ => rfl) rfl Try.underlying4 (fun W base args ds ps hval hA hwt => FrameTurned_walk W base args ds ps hval hA hwt)
theorem FrameTurned_place : Try.prog.inPlace 10 = Rows.frameTurnedRow.inPlace := by kernel_rfl
theorem FrameTurned_unf : Try.prog.unfollowed 10 = Rows.frameTurnedRow.unfollowed := by kernel_rfl
theorem FrameTurned_rec : Try.prog.recurses 10 = Rows.frameTurnedRow.recurses := by kernel_rfl
theorem FrameTurned_named : Try.prog.varsNamed 10 = Rows.frameTurnedRow.named := by kernel_rfl
theorem FrameTurned_closed : joinedFacts Try.prog 10 Try.f10 Rows.frameTurnedSpec Rows.frameTurnedRow = true :=
  closed_of p_make p_lifts p_enter laidOut0 p_rowed p_stops p_knobs p_keys p_heard FrameTurned_place FrameTurned_unf FrameTurned_rec FrameTurned_named (by kernel_rfl)
theorem FrameTurned_nm : Try.prog.funcNamed Rows.frameTurnedRow.func = some 10 := by kernel_rfl
theorem FrameTurned_inst : Func.isInstance Try.prog Try.f10 Rows.frameTurnedRow.origin Rows.frameTurnedRow.targs := of_decide_eq_true (by kernel_rfl)
theorem FrameTurned_wrap : Func.isWrapper Try.prog Try.f10 Rows.frameTurnedRow.wrapper Rows.frameTurnedRow.mainSum := by unfold Func.isWrapper; (rw [if_neg (by decide +kernel)]; exact ⟨rfl, rfl⟩)
theorem FrameTurned_holds : Rows.FrameTurnedSaid :=
  OpenClaim.holds_of_wide 10 Try.f10 rfl rfl rfl rfl rfl rfl rfl ⟨rfl, rfl, rfl, rfl, rfl⟩ rfl rfl rfl rfl rfl FrameTurned_nm Try.func10 FrameTurned_closed FrameTurned_inst FrameTurned_wrap
    (fun os started H enc _ => FrameTurned_lifted os started H enc)
end Go.Proofs.Ytpjpaipkkcengaa
