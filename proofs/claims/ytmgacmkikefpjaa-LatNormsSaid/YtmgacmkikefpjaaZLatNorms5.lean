/- The statement latnorms holds: its own theorem, over the walks in the files before. -/
import Derived.Test.YtmgacmkikefpjaaZLatNorms4
set_option linter.unusedSimpArgs false
set_option linter.unusedVariables false
set_option linter.unusedSimpArgs false
set_option linter.unusedVariables false
set_option maxHeartbeats 800000
set_option maxRecDepth 100000
namespace Go.Proofs.Ytmgacmkikefpjaa
open Go.ChangeShapes Go.WideShapes Go.ChangeAt Go.RowKit
theorem LatNorms_walk {H : Type} {enc : TypeId × Value → H} (W : World) (base : Nat) (args : Array Value) (ds : List (DataW H)) (ps : List MemPlace)
    (hval : ∀ (j : Nat) t v, Try.f4.params[j]? = some t → args[j]? = some v → Value.okWide Try.prog W .any base t v)
    (hA : DataW.TrodAll enc Try.prog W 0 (fun _ => true) true Try.f4.params.toList args.toList ds ps) (hwt : ∀ x ∈ DataW.weightsEach Try.prog Try.f4.params.toList ds, x ≤ reachBytes) :
    CallR Try.prog 4 args W fun v W' => v = .bool true ∧ Ext W W' := by
  rw [Try.params4] at hA hval hwt
  obtain ⟨v0, v1, d0, d1, p0, p1, rfl, rfl, rfl, h0, h1⟩ := trodAll_two hA
  replace hwt : ∀ x ∈ DataW.weightsEach Try.prog [24, 34] [d0, d1], x ≤ reachBytes := hwt
  obtain ⟨A0, n0, c0, xs0, rfl, hnc0, hcm0, hr0, hok0, hd0⟩ := open_slice Try.underlying24 fl39 (sz := 21) rfl (by kernel_rfl) (by decide) (hval 0 24 v0 rfl rfl) h0
  have hb0 := slice_weight (by' := 40) Try.underlying24 (by kernel_rfl) hwt hd0
  replace hwt := rest_weight hwt
  obtain ⟨cs1, rfl, hk1⟩ := open_flat Try.underlying34 rfl fl34 (hval 1 34 v1 rfl rfl) h1
  replace hwt := rest_weight hwt
  obtain ⟨l0, hl0, rfl, hv0⟩ := open_rows hr0 hok0
  subst hl0
  obtain ⟨x, rfl, hx⟩ := key_open (show AllOk W (keyKs.map LK.int) cs1 from hk1)
  exact c_LatNorms W A0 c0 l0 hr0 hv0 (by simp only [reachBytes] at hb0; omega) x hx
theorem LatNorms_lifted (os : Os) (started : os.Started) (H : Type) (enc : TypeId × Value → H) :
    ReturnsInHanded {} Try.checked os 4 .any (Rows.latNormsSpec.pre6 enc Try.prog Try.f4 Rows.latNormsRow.domain false) (Rows.latNormsSpec.post enc Try.prog Try.f4 false true false false) :=
  law_lifted (C := Try.checked) (tb := 4) own0 started (by kernel_rfl) Try.func4 ⟨#[], #[.slice none 0 0, .agg #[.int .u8 0, .int .u16 0, .int .u8 0, .int .u8 0, .int .u8 0, .int .u8 0, .int .u8 0, .int .u8 0, .int .u8 0, .int .u8 0, .int .u8 0, .int .u32 0]], []⟩ 8 (by kernel_rfl) (by kernel_rfl) (by kernel_rfl) (by kernel_rfl) (by kernel_rfl) laidOut0 rfl (by kernel_rfl)
    (fun ds hds => by match ds, hds with | [d0, d1], _ => rfl) rfl Try.underlying4 (fun W base args ds ps hval hA hwt => LatNorms_walk W base args ds ps hval hA hwt)
theorem LatNorms_place : Try.prog.inPlace 4 = Rows.latNormsRow.inPlace := by kernel_rfl
theorem LatNorms_unf : Try.prog.unfollowed 4 = Rows.latNormsRow.unfollowed := by kernel_rfl
theorem LatNorms_rec : Try.prog.recurses 4 = Rows.latNormsRow.recurses := by kernel_rfl
theorem LatNorms_named : Try.prog.varsNamed 4 = Rows.latNormsRow.named := by kernel_rfl
theorem LatNorms_closed : joinedFacts Try.prog 4 Try.f4 Rows.latNormsSpec Rows.latNormsRow = true :=
  closed_of p_make p_lifts p_enter laidOut0 p_rowed p_stops p_knobs p_keys p_heard LatNorms_place LatNorms_unf LatNorms_rec LatNorms_named (by kernel_rfl)
theorem LatNorms_nm : Try.prog.funcNamed Rows.latNormsRow.func = some 4 := by kernel_rfl
theorem LatNorms_inst : Func.isInstance Try.prog Try.f4 Rows.latNormsRow.origin Rows.latNormsRow.targs := of_decide_eq_true (by kernel_rfl)
theorem LatNorms_wrap : Func.isWrapper Try.prog Try.f4 Rows.latNormsRow.wrapper Rows.latNormsRow.mainSum := by unfold Func.isWrapper; (rw [if_neg (by decide +kernel)]; exact ⟨rfl, rfl⟩)
theorem LatNorms_holds : Rows.LatNormsSaid :=
  OpenClaim.holds_of_wide 4 Try.f4 rfl rfl rfl rfl rfl rfl rfl ⟨rfl, rfl, rfl, rfl, rfl⟩ rfl rfl rfl rfl rfl LatNorms_nm Try.func4 LatNorms_closed LatNorms_inst LatNorms_wrap
    (fun os started H enc _ => LatNorms_lifted os started H enc)
end Go.Proofs.Ytmgacmkikefpjaa
