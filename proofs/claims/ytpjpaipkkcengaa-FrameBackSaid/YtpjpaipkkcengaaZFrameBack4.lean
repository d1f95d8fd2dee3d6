/- The statement frameback holds: its own theorem, over the walks in the files before. -/
import Derived.Test.YtpjpaipkkcengaaZFrameBack3
set_option linter.unusedSimpArgs false
set_option linter.unusedVariables false
set_option linter.unusedSimpArgs false
set_option linter.unusedVariables false
set_option maxHeartbeats 800000
set_option maxRecDepth 100000
namespace Go.Proofs.Ytpjpaipkkcengaa
open Go.ChangeShapes Go.WideShapes Go.ChangeAt Go.RowKit
theorem FrameBack_walk {H : Type} {enc : TypeId × Value → H} (W : World) (base : Nat) (args : Array Value) (ds : List (DataW H)) (ps : List MemPlace)
    (hval : ∀ (j : Nat) t v, Try.f11.params[j]? = some t → args[j]? = some v → Value.okWide Try.prog W .any base t v)
    (hA : DataW.TrodAll enc Try.prog W 0 (fun _ => true) true Try.f11.params.toList args.toList ds ps) (hwt : ∀ x ∈ DataW.weightsEach Try.prog Try.f11.params.toList ds, x ≤ reachBytes) :
    CallR Try.prog 11 args W fun v W' => v = .bool true ∧ Ext W W' := by
  rw [Try.params11] at hA hval hwt
  obtain ⟨v0, v1, d0, d1, p0, p1, rfl, rfl, rfl, h0, h1⟩ := trodAll_two hA
  replace hwt : ∀ x ∈ DataW.weightsEach Try.prog [90, 43] [d0, d1], x ≤ reachBytes := hwt
  obtain ⟨cs0, rfl, hk0⟩ := open_flat Try.underlying90 rfl fl90 (hval 0 90 v0 rfl rfl) h0
  replace hwt := rest_weight hwt
  obtain ⟨A1, n1, c1, l1, rfl, hnc1, hr1, hl1, hw1, hd1⟩ := open_ints Try.underlying43 Try.underlying5 (by kernel_rfl) (hval 1 43 v1 rfl rfl) h1
  have hb1 := slice_weight (by' := 1) Try.underlying43 (by kernel_rfl) hwt hd1
  replace hwt := rest_weight hwt
  obtain ⟨fm, A, cp, rfl, hf, hrA, _⟩ := fm_open (show AllOk W fmKs cs0 from hk0)
  subst hl1
  exact c_FrameBack W fm hf A cp hrA A1 _ c1 l1 hr1 rfl (byt_of_wf hw1) (by simp only [reachBytes] at hb1; omega) hnc1
theorem FrameBack_lifted (os : Os) (started : os.Started) (H : Type) (enc : TypeId × Value → H) :
    ReturnsInHanded {} Try.checked os 11 .any (Rows.frameBackSpec.pre6 enc Try.prog Try.f11 Rows.frameBackRow.domain false) (Rows.frameBackSpec.post enc Try.prog Try.f11 false true false false) :=
  law_lifted (C := Try.checked) (tb := 4) own0 started (by kernel_rfl) Try.func11 ⟨#[], #[.agg #[.int .u8 0, .int .u8 0, .int .u8 0, .int .u32 0, .int .u32 0, .int .u8 0, .int .u32 0, .bool false, .slice none 0 0], .slice none 0 0], []⟩ 8 (by kernel_rfl) (by kernel_rfl) (by kernel_rfl) (by kernel_rfl) (by kernel_rfl) laidOut0 rfl (by kernel_rfl)
    (fun ds hds => by match ds, hds with | [d0, d1], _ => rfl) rfl Try.underlying4 (fun W base args ds ps hval hA hwt => FrameBack_walk W base args ds ps hval hA hwt)
theorem FrameBack_place : Try.prog.inPlace 11 = Rows.frameBackRow.inPlace := by kernel_rfl
theorem FrameBack_unf : Try.prog.unfollowed 11 = Rows.frameBackRow.unfollowed := by kernel_rfl
theorem FrameBack_rec : Try.prog.recurses 11 = Rows.frameBackRow.recurses := by kernel_rfl
theorem FrameBack_named : Try.prog.varsNamed 11 = Rows.frameBackRow.named := by kernel_rfl
theorem FrameBack_closed : joinedFacts Try.prog 11 Try.f11 Rows.frameBackSpec Rows.frameBackRow = true :=
  closed_of p_make p_lifts p_enter laidOut0 p_rowed p_stops p_knobs p_keys p_heard FrameBack_place FrameBack_unf FrameBack_rec FrameBack_named (by kernel_rfl)
theorem FrameBack_nm : Try.prog.funcNamed Rows.frameBackRow.func = some 11 := by kernel_rfl
theorem FrameBack_inst : Func.isInstance Try.prog Try.f11 Rows.frameBackRow.origin Rows.frameBackRow.targs := of_decide_eq_true (by kernel_rfl)
theorem FrameBack_wrap : Func.isWrapper Try.prog Try.f11 Rows.frameBackRow.wrapper Rows.frameBackRow.mainSum := by unfold Func.isWrapper; (rw [if_neg (by decide +kernel)]; exact ⟨rfl, rfl⟩)
theorem FrameBack_holds : Rows.FrameBackSaid :=
  OpenClaim.holds_of_wide 11 Try.f11 rfl rfl rfl rfl rfl rfl rfl ⟨rfl, rfl, rfl, rfl, rfl⟩ rfl rfl rfl rfl rfl FrameBack_nm Try.func11 FrameBack_closed FrameBack_inst FrameBack_wrap
    (fun os started H enc _ => FrameBack_lifted os started H enc)
end Go.Proofs.Ytpjpaipkkcengaa
