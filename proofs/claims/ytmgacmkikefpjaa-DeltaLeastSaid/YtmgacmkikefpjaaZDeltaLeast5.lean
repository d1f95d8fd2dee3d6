/- The statement deltaleast holds: its own theorem, over the walks in the files before. -/
import Derived.Test.YtmgacmkikefpjaaZDeltaLeast4
set_option linter.unusedSimpArgs false
set_option linter.unusedVariables false
set_option linter.unusedSimpArgs false
set_option linter.unusedVariables false
set_option maxHeartbeats 800000
set_option maxRecDepth 100000
namespace Go.Proofs.Ytmgacmkikefpjaa
open Go.ChangeShapes Go.WideShapes Go.ChangeAt Go.RowKit
theorem DeltaLeast_walk {H : Type} {enc : TypeId × Value → H} (W : World) (base : Nat) (args : Array Value) (ds : List (DataW H)) (ps : List MemPlace)
    (hval : ∀ (j : Nat) t v, Try.f9.params[j]? = some t → args[j]? = some v → Value.okWide Try.prog W .any base t v)
    (hA : DataW.TrodAll enc Try.prog W 0 (fun _ => true) true Try.f9.params.toList args.toList ds ps) (hwt : ∀ x ∈ DataW.weightsEach Try.prog Try.f9.params.toList ds, x ≤ reachBytes) :
    CallR Try.prog 9 args W fun v W' => v = .bool true ∧ Ext W W' := by
  rw [Try.params9] at hA hval hwt
  obtain ⟨v0, v1, v2, d0, d1, d2, p0, p1, p2, rfl, rfl, rfl, h0, h1, h2⟩ := trodAll_three hA
  replace hwt : ∀ x ∈ DataW.weightsEach Try.prog [24, 24, 24] [d0, d1, d2], x ≤ reachBytes := hwt
  obtain ⟨A0, n0, c0, xs0, rfl, hnc0, hcm0, hr0, hok0, hd0⟩ := open_slice Try.underlying24 fl39 (sz := 21) rfl (by kernel_rfl) (by decide) (hval 0 24 v0 rfl rfl) h0
  have hb0 := slice_weight (by' := 40) Try.underlying24 (by kernel_rfl) hwt hd0
  replace hwt := rest_weight hwt
  obtain ⟨A1, n1, c1, xs1, rfl, hnc1, hcm1, hr1, hok1, hd1⟩ := open_slice Try.underlying24 fl39 (sz := 21) rfl (by kernel_rfl) (by decide) (hval 1 24 v1 rfl rfl) h1
  have hb1 := slice_weight (by' := 40) Try.underlying24 (by kernel_rfl) hwt hd1
  replace hwt := rest_weight hwt
  obtain ⟨A2, n2, c2, xs2, rfl, hnc2, hcm2, hr2, hok2, hd2⟩ := open_slice Try.underlying24 fl39 (sz := 21) rfl (by kernel_rfl) (by decide) (hval 2 24 v2 rfl rfl) h2
  have hb2 := slice_weight (by' := 40) Try.underlying24 (by kernel_rfl) hwt hd2
  replace hwt := rest_weight hwt
  obtain ⟨l0, hl0, rfl, hv0⟩ := open_rows hr0 hok0
  subst hl0
  obtain ⟨l1, hl1, rfl, hv1⟩ := open_rows hr1 hok1
  subst hl1
  obtain ⟨l2, hl2, rfl, hv2⟩ := open_rows hr2 hok2
  subst hl2
  exact c_DeltaLeast W A0 c0 l0 hr0 hv0 A1 c1 l1 hr1 hv1 (by simp only [reachBytes] at hb0 hb1; omega) A2 c2 l2 hr2 hv2 (by simp only [reachBytes] at hb2; omega)
theorem DeltaLeast_lifted (os : Os) (started : os.Started) (H : Type) (enc : TypeId × Value → H) :
    ReturnsInHanded {} Try.checked os 9 .any (Rows.deltaLeastSpec.pre6 enc Try.prog Try.f9 Rows.deltaLeastRow.domain false) (Rows.deltaLeastSpec.post enc Try.prog Try.f9 false true false false) :=
  law_lifted (C := Try.checked) (tb := 4) own0 started (by kernel_rfl) Try.func9 ⟨#[], #[.slice none 0 0, .slice none 0 0, .slice none 0 0], []⟩ 8 (by kernel_rfl) (by kernel_rfl) (by kernel_rfl) (by kernel_rfl) (by kernel_rfl) laidOut0 rfl (by kernel_rfl)
    (fun ds hds => by match ds, hds with | [d0, d1, d2], _ => rfl) rfl Try.underlying4 (fun W base args ds ps hval hA hwt => DeltaLeast_walk W base args ds ps hval hA hwt)
theorem DeltaLeast_place : Try.prog.inPlace 9 = Rows.deltaLeastRow.inPlace := by kernel_rfl
theorem DeltaLeast_unf : Try.prog.unfollowed 9 = Rows.deltaLeastRow.unfollowed := by kernel_rfl
theorem DeltaLeast_rec : Try.prog.recurses 9 = Rows.deltaLeastRow.recurses := by kernel_rfl
theorem DeltaLeast_named : Try.prog.varsNamed 9 = Rows.deltaLeastRow.named := by kernel_rfl
theorem DeltaLeast_closed : joinedFacts Try.prog 9 Try.f9 Rows.deltaLeastSpec Rows.deltaLeastRow = true :=
  closed_of p_make p_lifts p_enter laidOut0 p_rowed p_stops p_knobs p_keys p_heard DeltaLeast_place DeltaLeast_unf DeltaLeast_rec DeltaLeast_named (by kernel_rfl)
theorem DeltaLeast_nm : Try.prog.funcNamed Rows.deltaLeastRow.func = some 9 := by kernel_rfl
theorem DeltaLeast_inst : Func.isInstance Try.prog Try.f9 Rows.deltaLeastRow.origin Rows.deltaLeastRow.targs := of_decide_eq_true (by kernel_rfl)
theorem DeltaLeast_wrap : Func.isWrapper Try.prog Try.f9 Rows.deltaLeastRow.wrapper Rows.deltaLeastRow.mainSum := by unfold Func.isWrapper; (rw [if_neg (by decide +kernel)]; exact ⟨rfl, rfl⟩)
theorem DeltaLeast_holds : Rows.DeltaLeastSaid :=
  OpenClaim.holds_of_wide 9 Try.f9 rfl rfl rfl rfl rfl rfl rfl ⟨rfl, rfl, rfl, rfl, rfl⟩ rfl rfl rfl rfl rfl DeltaLeast_nm Try.func9 DeltaLeast_closed DeltaLeast_inst DeltaLeast_wrap
    (fun os started H enc _ => DeltaLeast_lifted os started H enc)
end Go.Proofs.Ytmgacmkikefpjaa
