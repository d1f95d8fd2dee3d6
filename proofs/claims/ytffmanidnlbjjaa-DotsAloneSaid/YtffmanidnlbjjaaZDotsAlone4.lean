/- The statement dotsalone holds: its own theorem, over the walks in the files before. -/
import Derived.Test.YtffmanidnlbjjaaZDotsAlone3
set_option linter.unusedSimpArgs false
set_option linter.unusedVariables false
set_option linter.unusedSimpArgs false
set_option linter.unusedVariables false
set_option maxHeartbeats 800000
set_option maxRecDepth 100000
namespace Go.Proofs.Ytffmanidnlbjjaa
open Go.ChangeShapes Go.WideShapes Go.ChangeAt Go.RowKit
theorem DotsAlone_walk {H : Type} {enc : TypeId × Value → H} (W : World) (base : Nat) (args : Array Value) (ds : List (DataW H)) (ps : List MemPlace)
    (hval : ∀ (j : Nat) t v, Try.f7.params[j]? = some t → args[j]? = some v → Value.okWide Try.prog W .any base t v)
    (hA : DataW.TrodAll enc Try.prog W 0 (fun _ => true) true Try.f7.params.toList args.toList ds ps) (hwt : ∀ x ∈ DataW.weightsEach Try.prog Try.f7.params.toList ds, x ≤ reachBytes) :
    CallR Try.prog 7 args W fun v W' => v = .bool true ∧ Ext W W' := by
  rw [Try.params7] at hA hval hwt
  obtain ⟨v0, v1, v2, d0, d1, d2, p0, p1, p2, rfl, rfl, rfl, h0, h1, h2⟩ := trodAll_three hA
  replace hwt : ∀ x ∈ DataW.weightsEach Try.prog [65, 65, 65] [d0, d1, d2], x ≤ reachBytes := hwt
  obtain ⟨A0, n0, c0, l0, rfl, hnc0, hr0, hl0, hw0, hd0⟩ := open_ints Try.underlying65 Try.underlying48 (by kernel_rfl) (hval 0 65 v0 rfl rfl) h0
  have hb0 := slice_weight (by' := 8) Try.underlying65 (by kernel_rfl) hwt hd0
  replace hwt := rest_weight hwt
  obtain ⟨A1, n1, c1, l1, rfl, hnc1, hr1, hl1, hw1, hd1⟩ := open_ints Try.underlying65 Try.underlying48 (by kernel_rfl) (hval 1 65 v1 rfl rfl) h1
  have hb1 := slice_weight (by' := 8) Try.underlying65 (by kernel_rfl) hwt hd1
  replace hwt := rest_weight hwt
  obtain ⟨A2, n2, c2, l2, rfl, hnc2, hr2, hl2, hw2, hd2⟩ := open_ints Try.underlying65 Try.underlying48 (by kernel_rfl) (hval 2 65 v2 rfl rfl) h2
  have hb2 := slice_weight (by' := 8) Try.underlying65 (by kernel_rfl) hwt hd2
  replace hwt := rest_weight hwt
  subst hl0
  subst hl1
  subst hl2
  exact c_DotsAlone W A0 c0 l0 hr0 (u64s_of hw0) A1 c1 l1 hr1 (u64s_of hw1) A2 c2 l2 hr2 (u64s_of hw2)
theorem DotsAlone_lifted (os : Os) (started : os.Started) (H : Type) (enc : TypeId × Value → H) :
    ReturnsInHanded {} Try.checked os 7 .any (Rows.dotsAloneSpec.pre6 enc Try.prog Try.f7 Rows.dotsAloneRow.domain false) (Rows.dotsAloneSpec.post enc Try.prog Try.f7 false true false false) :=
  law_lifted (C := Try.checked) (tb := 4) own0 started (by kernel_rfl) Try.func7 ⟨#[], #[.slice none 0 0, .slice none 0 0, .slice none 0 0], []⟩ 8 (by kernel_rfl) (by kernel_rfl) (by kernel_rfl) (by kernel_rfl) (by kernel_rfl) laidOut0 rfl (by kernel_rfl)
    (fun ds hds => by match ds, hds with | [d0, d1, d2], _ => rfl) rfl Try.underlying4 (fun W base args ds ps hval hA hwt => DotsAlone_walk W base args ds ps hval hA hwt)
theorem DotsAlone_place : Try.prog.inPlace 7 = Rows.dotsAloneRow.inPlace := by kernel_rfl
theorem DotsAlone_unf : Try.prog.unfollowed 7 = Rows.dotsAloneRow.unfollowed := by kernel_rfl
theorem DotsAlone_rec : Try.prog.recurses 7 = Rows.dotsAloneRow.recurses := by kernel_rfl
theorem DotsAlone_named : Try.prog.varsNamed 7 = Rows.dotsAloneRow.named := by kernel_rfl
theorem DotsAlone_closed : joinedFacts Try.prog 7 Try.f7 Rows.dotsAloneSpec Rows.dotsAloneRow = true :=
  closed_of p_make p_lifts p_enter laidOut0 p_rowed p_stops p_knobs p_keys p_heard DotsAlone_place DotsAlone_unf DotsAlone_rec DotsAlone_named (by kernel_rfl)
theorem DotsAlone_nm : Try.prog.funcNamed Rows.dotsAloneRow.func = some 7 := by kernel_rfl
theorem DotsAlone_inst : Func.isInstance Try.prog Try.f7 Rows.dotsAloneRow.origin Rows.dotsAloneRow.targs := of_decide_eq_true (by kernel_rfl)
theorem DotsAlone_wrap : Func.isWrapper Try.prog Try.f7 Rows.dotsAloneRow.wrapper Rows.dotsAloneRow.mainSum := by unfold Func.isWrapper; (rw [if_neg (by decide +kernel)]; exact ⟨rfl, rfl⟩)
theorem DotsAlone_holds : Rows.DotsAloneSaid :=
  OpenClaim.holds_of_wide 7 Try.f7 rfl rfl rfl rfl rfl rfl rfl ⟨rfl, rfl, rfl, rfl, rfl⟩ rfl rfl rfl rfl rfl DotsAlone_nm Try.func7 DotsAlone_closed DotsAlone_inst DotsAlone_wrap
    (fun os started H enc _ => DotsAlone_lifted os started H enc)
end Go.Proofs.Ytffmanidnlbjjaa
