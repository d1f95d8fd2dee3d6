/- The statement latall holds: its own theorem, over the walks in the files before. -/
import Derived.Test.YtmgacmkikefpjaaZLatAll6
set_option linter.unusedSimpArgs false
set_option linter.unusedVariables false
set_option linter.unusedSimpArgs false
set_option linter.unusedVariables false
set_option maxHeartbeats 800000
set_option maxRecDepth 100000
namespace Go.Proofs.Ytmgacmkikefpjaa
open Go.ChangeShapes Go.WideShapes Go.ChangeAt Go.RowKit
theorem LatAll_walk {H : Type} {enc : TypeId × Value → H} (W : World) (base : Nat) (args : Array Value) (ds : List (DataW H)) (ps : List MemPlace)
    (hval : ∀ (j : Nat) t v, Try.f3.params[j]? = some t → args[j]? = some v → Value.okWide Try.prog W .any base t v)
    (hA : DataW.TrodAll enc Try.prog W 0 (fun _ => true) true Try.f3.params.toList args.toList ds ps) (hwt : ∀ x ∈ DataW.weightsEach Try.prog Try.f3.params.toList ds, x ≤ reachBytes) :
    CallR Try.prog 3 args W fun v W' => v = .bool true ∧ Ext W W' := by
  rw [Try.params3] at hA hval hwt
  obtain ⟨v0, v1, d0, d1, p0, p1, rfl, rfl, rfl, h0, h1⟩ := trodAll_two hA
  replace hwt : ∀ x ∈ DataW.weightsEach Try.prog [22, 5] [d0, d1], x ≤ reachBytes := hwt
  obtain ⟨A0, n0, c0, xs0, rfl, hnc0, hcm0, hr0, hok0, hd0⟩ := open_slice Try.underlying22 fl24 (sz := 1) rfl (by kernel_rfl) (by decide) (hval 0 22 v0 rfl rfl) h0
  have hb0 := slice_weight (by' := 24) Try.underlying22 (by kernel_rfl) hwt hd0
  replace hwt := rest_weight hwt
  obtain ⟨a1, rfl, rfl, rfl, wf1⟩ := open_int Try.underlying5 (hval 1 5 v1 rfl rfl) h1
  replace hwt := rest_weight hwt
  obtain ⟨rs, hl, rfl, hrs⟩ := open_rws hr0 hok0
  subst hl
  have h8 := wf_u8 wf1
  rw [h8.1]
  exact c_LatAll W A0 c0 rs hr0 hrs (by simp only [reachBytes] at hb0; omega) _ h8.2
theorem LatAll_lifted (os : Os) (started : os.Started) (H : Type) (enc : TypeId × Value → H) :
    ReturnsInHanded {} Try.checked os 3 .any (Rows.latAllSpec.pre6 enc Try.prog Try.f3 Rows.latAllRow.domain false) (Rows.latAllSpec.post enc Try.prog Try.f3 false true false false) :=
  law_lifted (C := Try.checked) (tb := 4) own0 started (by kernel_rfl) Try.func3 ⟨#[], #[.slice none 0 0, .int .u8 0], []⟩ 8 (by kernel_rfl) (by kernel_rfl) (by kernel_rfl) (by kernel_rfl) (by kernel_rfl) laidOut0 rfl (by kernel_rfl)
    (fun ds hds => by match ds, hds with | [d0, d1], _ => rfl) rfl Try.underlying4 (fun W base args ds ps hval hA hwt => LatAll_walk W base args ds ps hval hA hwt)
theorem LatAll_place : Try.prog.inPlace 3 = Rows.latAllRow.inPlace := by kernel_rfl
theorem LatAll_unf : Try.prog.unfollowed 3 = Rows.latAllRow.unfollowed := by kernel_rfl
theorem LatAll_rec : Try.prog.recurses 3 = Rows.latAllRow.recurses := by kernel_rfl
theorem LatAll_named : Try.prog.varsNamed 3 = Rows.latAllRow.named := by kernel_rfl
theorem LatAll_closed : joinedFacts Try.prog 3 Try.f3 Rows.latAllSpec Rows.latAllRow = true :=
  closed_of p_make p_lifts p_enter laidOut0 p_rowed p_stops p_knobs p_keys p_heard LatAll_place LatAll_unf LatAll_rec LatAll_named (by kernel_rfl)
theorem LatAll_nm : Try.prog.funcNamed Rows.latAllRow.func = some 3 := by kernel_rfl
theorem LatAll_inst : Func.isInstance Try.prog Try.f3 Rows.latAllRow.origin Rows.latAllRow.targs := of_decide_eq_true (by kernel_rfl)
theorem LatAll_wrap : Func.isWrapper Try.prog Try.f3 Rows.latAllRow.wrapper Rows.latAllRow.mainSum := by unfold Func.isWrapper; (rw [if_neg (by decide +kernel)]; exact ⟨rfl, rfl⟩)
theorem LatAll_holds : Rows.LatAllSaid :=
  OpenClaim.holds_of_wide 3 Try.f3 rfl rfl rfl rfl rfl rfl rfl ⟨rfl, rfl, rfl, rfl, rfl⟩ rfl rfl rfl rfl rfl LatAll_nm Try.func3 LatAll_closed LatAll_inst LatAll_wrap
    (fun os started H enc _ => LatAll_lifted os started H enc)
end Go.Proofs.Ytmgacmkikefpjaa
