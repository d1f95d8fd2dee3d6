/- The statement deltastands holds: its own theorem, over the walks in the files before. -/
import Derived.Test.YtmgacmkikefpjaaZDeltaStands5
set_option linter.unusedSimpArgs false
set_option linter.unusedVariables false
set_option linter.unusedSimpArgs false
set_option linter.unusedVariables false
set_option maxHeartbeats 800000
set_option maxRecDepth 100000
namespace Go.Proofs.Ytmgacmkikefpjaa
open Go.ChangeShapes Go.WideShapes Go.ChangeAt Go.RowKit
theorem DeltaStands_walk {H : Type} {enc : TypeId × Value → H} (W : World) (base : Nat) (args : Array Value) (ds : List (DataW H)) (ps : List MemPlace)
    (hval : ∀ (j : Nat) t v, Try.f12.params[j]? = some t → args[j]? = some v → Value.okWide Try.prog W .any base t v)
    (hA : DataW.TrodAll enc Try.prog W 0 (fun _ => true) true Try.f12.params.toList args.toList ds ps) (hwt : ∀ x ∈ DataW.weightsEach Try.prog Try.f12.params.toList ds, x ≤ reachBytes) :
    CallR Try.prog 12 args W fun v W' => v = .bool true ∧ Ext W W' := by
  rw [Try.params12] at hA hval hwt
  obtain ⟨v0, d0, rfl, rfl, h0⟩ := trodAll_one hA
  replace hwt : ∀ x ∈ DataW.weightsEach Try.prog [22] [d0], x ≤ reachBytes := hwt
  obtain ⟨A0, n0, c0, xs0, rfl, hnc0, hcm0, hr0, hok0, hd0⟩ := open_slice Try.underlying22 fl24 (sz := 1) rfl (by kernel_rfl) (by decide) (hval 0 22 v0 rfl rfl) h0
  have hb0 := slice_weight (by' := 24) Try.underlying22 (by kernel_rfl) hwt hd0
  replace hwt := rest_weight hwt
  obtain ⟨rs, hl, rfl, hrs⟩ := open_rws hr0 hok0
  subst hl
  exact c_DeltaStands W A0 c0 rs hr0 hrs (by simp only [reachBytes] at hb0; omega)
theorem DeltaStands_lifted (os : Os) (started : os.Started) (H : Type) (enc : TypeId × Value → H) :
    ReturnsInHanded {} Try.checked os 12 .any (Rows.deltaStandsSpec.pre6 enc Try.prog Try.f12 Rows.deltaStandsRow.domain false) (Rows.deltaStandsSpec.post enc Try.prog Try.f12 false true false false) :=
  law_lifted (C := Try.checked) (tb := 4) own0 started (by kernel_rfl) Try.func12 ⟨#[], #[.slice none 0 0], []⟩ 8 (by kernel_rfl) (by kernel_rfl) (by kernel_rfl) (by kernel_rfl) (by kernel_rfl) laidOut0 rfl (by kernel_rfl)
    (fun ds hds => by match ds, hds with | [d0], _ => rfl) rfl Try.underlying4 (fun W base args ds ps hval hA hwt => DeltaStands_walk W base args ds ps hval hA hwt)
theorem DeltaStands_place : Try.prog.inPlace 12 = Rows.deltaStandsRow.inPlace := by kernel_rfl
theorem DeltaStands_unf : Try.prog.unfollowed 12 = Rows.deltaStandsRow.unfollowed := by kernel_rfl
theorem DeltaStands_rec : Try.prog.recurses 12 = Rows.deltaStandsRow.recurses := by kernel_rfl
theorem DeltaStands_named : Try.prog.varsNamed 12 = Rows.deltaStandsRow.named := by kernel_rfl
theorem DeltaStands_closed : joinedFacts Try.prog 12 Try.f12 Rows.deltaStandsSpec Rows.deltaStandsRow = true :=
  closed_of p_make p_lifts p_enter laidOut0 p_rowed p_stops p_knobs p_keys p_heard DeltaStands_place DeltaStands_unf DeltaStands_rec DeltaStands_named (by kernel_rfl)
theorem DeltaStands_nm : Try.prog.funcNamed Rows.deltaStandsRow.func = some 12 := by kernel_rfl
theorem DeltaStands_inst : Func.isInstance Try.prog Try.f12 Rows.deltaStandsRow.origin Rows.deltaStandsRow.targs := of_decide_eq_true (by kernel_rfl)
theorem DeltaStands_wrap : Func.isWrapper Try.prog Try.f12 Rows.deltaStandsRow.wrapper Rows.deltaStandsRow.mainSum := by unfold Func.isWrapper; (rw [if_neg (by decide +kernel)]; exact ⟨rfl, rfl⟩)
theorem DeltaStands_holds : Rows.DeltaStandsSaid :=
  OpenClaim.holds_of_wide 12 Try.f12 rfl rfl rfl rfl rfl rfl rfl ⟨rfl, rfl, rfl, rfl, rfl⟩ rfl rfl rfl rfl rfl DeltaStands_nm Try.func12 DeltaStands_closed DeltaStands_inst DeltaStands_wrap
    (fun os started H enc _ => DeltaStands_lifted os started H enc)
end Go.Proofs.Ytmgacmkikefpjaa
