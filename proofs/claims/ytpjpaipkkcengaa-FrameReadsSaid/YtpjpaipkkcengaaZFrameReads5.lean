/- The statement framereads holds: its own theorem, over the walks in the files before. -/
import Derived.Test.YtpjpaipkkcengaaZFrameReads4
set_option linter.unusedSimpArgs false
set_option linter.unusedVariables false
set_option linter.unusedSimpArgs false
set_option linter.unusedVariables false
set_option maxHeartbeats 800000
set_option maxRecDepth 100000
namespace Go.Proofs.Ytpjpaipkkcengaa
open Go.ChangeShapes Go.WideShapes Go.ChangeAt Go.RowKit
theorem FrameReads_walk {H : Type} {enc : TypeId × Value → H} (W : World) (base : Nat) (args : Array Value) (ds : List (DataW H)) (ps : List MemPlace)
    (hval : ∀ (j : Nat) t v, Try.f9.params[j]? = some t → args[j]? = some v → Value.okWide Try.prog W .any base t v)
    (hA : DataW.TrodAll enc Try.prog W 0 (fun _ => true) true Try.f9.params.toList args.toList ds ps) (hwt : ∀ x ∈ DataW.weightsEach Try.prog Try.f9.params.toList ds, x ≤ reachBytes) :
    CallR Try.prog 9 args W fun v W' => v = .bool true ∧ Ext W W' := by
  rw [Try.params9] at hA hval hwt
  obtain ⟨v0, d0, rfl, rfl, h0⟩ := trodAll_one hA
  replace hwt : ∀ x ∈ DataW.weightsEach Try.prog [43] [d0], x ≤ reachBytes := hwt
  obtain ⟨A0, n0, c0, l0, rfl, hnc0, hr0, hl0, hw0, hd0⟩ := open_ints Try.underlying43 Try.underlying5 (by kernel_rfl) (hval 0 43 v0 rfl rfl) h0
  have hb0 := slice_weight (by' := 1) Try.underlying43 (by kernel_rfl) hwt hd0
  replace hwt := rest_weight hwt
  subst hl0
  exact c_FrameReads W A0 _ c0 l0 hr0 rfl (byt_of_wf hw0) (by simp only [reachBytes] at hb0; omega) hnc0
theorem FrameReads_lifted (os : Os) (started : os.Started) (H : Type) (enc : TypeId × Value → H) :
    ReturnsInHanded {} Try.checked os 9 .any (Rows.frameReadsSpec.pre6 enc Try.prog Try.f9 Rows.frameReadsRow.domain false) (Rows.frameReadsSpec.post enc Try.prog Try.f9 false true false false) :=
  law_lifted (C := Try.checked) (tb := 4) own0 started (by kernel_rfl) Try.func9 ⟨#[], #[.slice none 0 0], []⟩ 8 (by kernel_rfl) (by kernel_rfl) (by kernel_rfl) (by kernel_rfl) (by kernel_rfl) laidOut0 rfl (by kernel_rfl)
    (fun ds hds => by match ds, hds with | [d0], _ => rfl) rfl Try.underlying4 (fun W base args ds ps hval hA hwt => FrameReads_walk W base args ds ps hval hA hwt)
theorem FrameReads_place : Try.prog.inPlace 9 = Rows.frameReadsRow.inPlace := by kernel_rfl
theorem FrameReads_unf : Try.prog.unfollowed 9 = Rows.frameReadsRow.unfollowed := by kernel_rfl
theorem FrameReads_rec : Try.prog.recurses 9 = Rows.frameReadsRow.recurses := by kernel_rfl
theorem FrameReads_named : Try.prog.varsNamed 9 = Rows.frameReadsRow.named := by kernel_rfl
theorem FrameReads_closed : joinedFacts Try.prog 9 Try.f9 Rows.frameReadsSpec Rows.frameReadsRow = true :=
  closed_of p_make p_lifts p_enter laidOut0 p_rowed p_stops p_knobs p_keys p_heard FrameReads_place FrameReads_unf FrameReads_rec FrameReads_named (by kernel_rfl)
theorem FrameReads_nm : Try.prog.funcNamed Rows.frameReadsRow.func = some 9 := by kernel_rfl
theorem FrameReads_inst : Func.isInstance Try.prog Try.f9 Rows.frameReadsRow.origin Rows.frameReadsRow.targs := of_decide_eq_true (by kernel_rfl)
theorem FrameReads_wrap : Func.isWrapper Try.prog Try.f9 Rows.frameReadsRow.wrapper Rows.frameReadsRow.mainSum := by unfold Func.isWrapper; (rw [if_neg (by decide +kernel)]; exact ⟨rfl, rfl⟩)
theorem FrameReads_holds : Rows.FrameReadsSaid :=
  OpenClaim.holds_of_wide 9 Try.f9 rfl rfl rfl rfl rfl rfl rfl ⟨rfl, rfl, rfl, rfl, rfl⟩ rfl rfl rfl rfl rfl FrameReads_nm Try.func9 FrameReads_closed FrameReads_inst FrameReads_wrap
    (fun os started H enc _ => FrameReads_lifted os started H enc)
end Go.Proofs.Ytpjpaipkkcengaa
