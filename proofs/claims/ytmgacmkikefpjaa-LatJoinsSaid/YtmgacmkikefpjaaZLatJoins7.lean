/- The statement latjoins holds: its own theorem, over the walks in the files before. -/
import Derived.Test.YtmgacmkikefpjaaZLatJoins6
set_option linter.unusedSimpArgs false
set_option linter.unusedVariables false
set_option linter.unusedSimpArgs false
set_option linter.unusedVariables false
set_option maxHeartbeats 800000
set_option maxRecDepth 100000
namespace Go.Proofs.Ytmgacmkikefpjaa
open Go.ChangeShapes Go.WideShapes Go.ChangeAt Go.RowKit
theorem LatJoins_walk {H : Type} {enc : TypeId × Value → H} (W : World) (base : Nat) (args : Array Value) (ds : List (DataW H)) (ps : List MemPlace)
    (hval : ∀ (j : Nat) t v, Try.f5.params[j]? = some t → args[j]? = some v → Value.okWide Try.prog W .any base t v)
    (hA : DataW.TrodAll enc Try.prog W 0 (fun _ => true) true Try.f5.params.toList args.toList ds ps) (hwt : ∀ x ∈ DataW.weightsEach Try.prog Try.f5.params.toList ds, x ≤ reachBytes) :
    CallR Try.prog 5 args W fun v W' => v = .bool true ∧ Ext W W' := by
  rw [Try.params5] at hA hval hwt
  obtain ⟨v0, v1, d0, d1, p0, p1, rfl, rfl, rfl, h0, h1⟩ := trodAll_two hA
  replace hwt : ∀ x ∈ DataW.weightsEach Try.prog [24, 24] [d0, d1], x ≤ reachBytes := hwt
  obtain ⟨A0, n0, c0, xs0, rfl, hnc0, hcm0, hr0, hok0, hd0⟩ := open_slice Try.underlying24 fl39 (sz := 21) rfl (by kernel_rfl) (by decide) (hval 0 24 v0 rfl rfl) h0
  have hb0 := slice_weight (by' := 40) Try.underlying24 (by kernel_rfl) hwt hd0
  replace hwt := rest_weight hwt
  obtain ⟨A1, n1, c1, xs1, rfl, hnc1, hcm1, hr1, hok1, hd1⟩ := open_slice Try.underlying24 fl39 (sz := 21) rfl (by kernel_rfl) (by decide) (hval 1 24 v1 rfl rfl) h1
  have hb1 := slice_weight (by' := 40) Try.underlying24 (by kernel_rfl) hwt hd1
  replace hwt := rest_weight hwt
  obtain ⟨l0, hl0, rfl, hv0⟩ := open_rows hr0 hok0
  subst hl0
  obtain ⟨l1, hl1, rfl, hv1⟩ := open_rows hr1 hok1
  subst hl1
  exact c_LatJoins W A0 c0 l0 hr0 hv0 A1 c1 l1 hr1 hv1 (by simp only [reachBytes] at hb0 hb1; omega)
theorem LatJoins_lifted (os : Os) (started : os.Started) (H : Type) (enc : TypeId × Value → H) :
    ReturnsInHanded {} Try.checked os 5 .any (Rows.latJoinsSpec.pre6 enc Try.prog Try.f5 Rows.latJoinsRow.domain false) (Rows.latJoinsSpec.post enc Try.prog Try.f5 false true false false) :=
  law_lifted (C := Try.checked) (tb := 4) own0 started (by kernel_rfl) Try.func5 ⟨#[], #[.slice none 0 0, .slice none 0 0], []⟩ 8 (by kernel_rfl) (by kernel_rfl) (by kernel_rfl) (by kernel_rfl) (by kernel_rfl) laidOut0 rfl (by kernel_rfl)
    (fun ds hds => by match ds, hds with | [d0, d1], _ => rfl) rfl Try.underlying4 (fun W base args ds ps hval hA hwt => LatJoins_walk W base args ds ps hval hA hwt)
theorem LatJoins_place : Try.prog.inPlace 5 = Rows.latJoinsRow.inPlace := by kernel_rfl
theorem LatJoins_unf : Try.prog.unfollowed 5 = Rows.latJoinsRow.unfollowed := by kernel_rfl
theorem LatJoins_rec : Try.prog.recurses 5 = Rows.latJoinsRow.recurses := by kernel_rfl
theorem LatJoins_named : Try.prog.varsNamed 5 = Rows.latJoinsRow.named := by kernel_rfl
theorem LatJoins_closed : joinedFacts Try.prog 5 Try.f5 Rows.latJoinsSpec Rows.latJoinsRow = true :=
  closed_of p_make p_lifts p_enter laidOut0 p_rowed p_stops p_knobs p_keys p_heard LatJoins_place LatJoins_unf LatJoins_rec LatJoins_named (by kernel_rfl)
theorem LatJoins_nm : Try.prog.funcNamed Rows.latJoinsRow.func = some 5 := by kernel_rfl
theorem LatJoins_inst : Func.isInstance Try.prog Try.f5 Rows.latJoinsRow.origin Rows.latJoinsRow.targs := of_decide_eq_true (by kernel_rfl)
theorem LatJoins_wrap : Func.isWrapper Try.prog Try.f5 Rows.latJoinsRow.wrapper Rows.latJoinsRow.mainSum := by unfold Func.isWrapper; (rw [if_neg (by decide +kernel)]; exact ⟨rfl, rfl⟩)
theorem LatJoins_holds : Rows.LatJoinsSaid :=
  OpenClaim.holds_of_wide 5 Try.f5 rfl rfl rfl rfl rfl rfl rfl ⟨rfl, rfl, rfl, rfl, rfl⟩ rfl rfl rfl rfl rfl LatJoins_nm Try.func5 LatJoins_closed LatJoins_inst LatJoins_wrap
    (fun os started H enc _ => LatJoins_lifted os started H enc)
end Go.Proofs.Ytmgacmkikefpjaa
