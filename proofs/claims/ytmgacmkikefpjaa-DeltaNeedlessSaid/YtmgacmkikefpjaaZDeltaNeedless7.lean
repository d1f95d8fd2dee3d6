/- The statement deltaneedless holds: its own theorem, over the walks in the files before. -/
import Derived.Test.YtmgacmkikefpjaaZDeltaNeedless6
set_option linter.unusedSimpArgs false
set_option linter.unusedVariables false
set_option linter.unusedSimpArgs false
set_option linter.unusedVariables false
set_option maxHeartbeats 800000
set_option maxRecDepth 100000
namespace Go.Proofs.Ytmgacmkikefpjaa
open Go.ChangeShapes Go.WideShapes Go.ChangeAt Go.RowKit
theorem DeltaNeedless_walk {H : Type} {enc : TypeId × Value → H} (W : World) (base : Nat) (args : Array Value) (ds : List (DataW H)) (ps : List MemPlace)
    (hval : ∀ (j : Nat) t v, Try.f10.params[j]? = some t → args[j]? = some v → Value.okWide Try.prog W .any base t v)
    (hA : DataW.TrodAll enc Try.prog W 0 (fun _ => true) true Try.f10.params.toList args.toList ds ps) (hwt : ∀ x ∈ DataW.weightsEach Try.prog Try.f10.params.toList ds, x ≤ reachBytes) :
    CallR Try.prog 10 args W fun v W' => v = .bool true ∧ Ext W W' := by
  rw [Try.params10] at hA hval hwt
  obtain ⟨v0, d0, rfl, rfl, h0⟩ := trodAll_one hA
  replace hwt : ∀ x ∈ DataW.weightsEach Try.prog [22] [d0], x ≤ reachBytes := hwt
  obtain ⟨A0, n0, c0, xs0, rfl, hnc0, hcm0, hr0, hok0, hd0⟩ := open_slice Try.underlying22 fl24 (sz := 1) rfl (by kernel_rfl) (by decide) (hval 0 22 v0 rfl rfl) h0
  have hb0 := slice_weight (by' := 24) Try.underlying22 (by kernel_rfl) hwt hd0
  replace hwt := rest_weight hwt
  obtain ⟨rs, hl, rfl, hrs⟩ := open_rws hr0 hok0
  subst hl
  exact c_DeltaNeedless W A0 c0 rs hr0 hrs (by simp only [reachBytes] at hb0; omega) hnc0
theorem DeltaNeedless_lifted (os : Os) (started : os.Started) (H : Type) (enc : TypeId × Value → H) :
    ReturnsInHanded {} Try.checked os 10 .any (Rows.deltaNeedlessSpec.pre6 enc Try.prog Try.f10 Rows.deltaNeedlessRow.domain false) (Rows.deltaNeedlessSpec.post enc Try.prog Try.f10 false true false false) :=
  law_lifted (C := Try.checked) (tb := 4) own0 started (by kernel_rfl) Try.func10 ⟨#[], #[.slice none 0 0], []⟩ 8 (by kernel_rfl) (by kernel_rfl) (by kernel_rfl) (by kernel_rfl) (by kernel_rfl) laidOut0 rfl (by kernel_rfl)
    (fun ds hds => by match ds, hds with | [d0], _ => rfl) rfl Try.underlying4 (fun W base args ds ps hval hA hwt => DeltaNeedless_walk W base args ds ps hval hA hwt)
theorem DeltaNeedless_place : Try.prog.inPlace 10 = Rows.deltaNeedlessRow.inPlace := by kernel_rfl
theorem DeltaNeedless_unf : Try.prog.unfollowed 10 = Rows.deltaNeedlessRow.unfollowed := by kernel_rfl
theorem DeltaNeedless_rec : Try.prog.recurses 10 = Rows.deltaNeedlessRow.recurses := by kernel_rfl
theorem DeltaNeedless_named : Try.prog.varsNamed 10 = Rows.deltaNeedlessRow.named := by kernel_rfl
theorem DeltaNeedless_closed : joinedFacts Try.prog 10 Try.f10 Rows.deltaNeedlessSpec Rows.deltaNeedlessRow = true :=
  closed_of p_make p_lifts p_enter laidOut0 p_rowed p_stops p_knobs p_keys p_heard DeltaNeedless_place DeltaNeedless_unf DeltaNeedless_rec DeltaNeedless_named (by kernel_rfl)
theorem DeltaNeedless_nm : Try.prog.funcNamed Rows.deltaNeedlessRow.func = some 10 := by kernel_rfl
theorem DeltaNeedless_inst : Func.isInstance Try.prog Try.f10 Rows.deltaNeedlessRow.origin Rows.deltaNeedlessRow.targs := of_decide_eq_true (by kernel_rfl)
theorem DeltaNeedless_wrap : Func.isWrapper Try.prog Try.f10 Rows.deltaNeedlessRow.wrapper Rows.deltaNeedlessRow.mainSum := by unfold Func.isWrapper; (rw [if_neg (by decide +kernel)]; exact ⟨rfl, rfl⟩)
theorem DeltaNeedless_holds : Rows.DeltaNeedlessSaid :=
  OpenClaim.holds_of_wide 10 Try.f10 rfl rfl rfl rfl rfl rfl rfl ⟨rfl, rfl, rfl, rfl, rfl⟩ rfl rfl rfl rfl rfl DeltaNeedless_nm Try.func10 DeltaNeedless_closed DeltaNeedless_inst DeltaNeedless_wrap
    (fun os started H enc _ => DeltaNeedless_lifted os started H enc)
end Go.Proofs.Ytmgacmkikefpjaa
