/- The statement countturns holds: its own theorem, over the walks in the files before. -/
import Derived.Test.YtmgacmkikefpjaaZCountTurns6
set_option linter.unusedSimpArgs false
set_option linter.unusedVariables false
set_option linter.unusedSimpArgs false
set_option linter.unusedVariables false
set_option maxHeartbeats 800000
set_option maxRecDepth 100000
namespace Go.Proofs.Ytmgacmkikefpjaa
open Go.ChangeShapes Go.WideShapes Go.ChangeAt Go.RowKit
theorem CountTurns_walk {H : Type} {enc : TypeId × Value → H} (W : World) (base : Nat) (args : Array Value) (ds : List (DataW H)) (ps : List MemPlace)
    (hval : ∀ (j : Nat) t v, Try.f15.params[j]? = some t → args[j]? = some v → Value.okWide Try.prog W .any base t v)
    (hA : DataW.TrodAll enc Try.prog W 0 (fun _ => true) true Try.f15.params.toList args.toList ds ps) (hwt : ∀ x ∈ DataW.weightsEach Try.prog Try.f15.params.toList ds, x ≤ reachBytes) :
    CallR Try.prog 15 args W fun v W' => v = .bool true ∧ Ext W W' := by
  rw [Try.params15] at hA hval hwt
  obtain ⟨v0, v1, d0, d1, p0, p1, rfl, rfl, rfl, h0, h1⟩ := trodAll_two hA
  replace hwt : ∀ x ∈ DataW.weightsEach Try.prog [24, 83] [d0, d1], x ≤ reachBytes := hwt
  obtain ⟨A0, n0, c0, xs0, rfl, hnc0, hcm0, hr0, hok0, hd0⟩ := open_slice Try.underlying24 fl39 (sz := 21) rfl (by kernel_rfl) (by decide) (hval 0 24 v0 rfl rfl) h0
  have hb0 := slice_weight (by' := 40) Try.underlying24 (by kernel_rfl) hwt hd0
  replace hwt := rest_weight hwt
  obtain ⟨cs1, rfl, hk1⟩ := open_flat Try.underlying83 rfl fl83 (hval 1 83 v1 rfl rfl) h1
  replace hwt := rest_weight hwt
  obtain ⟨l0, hl0, rfl, hv0⟩ := open_rows hr0 hok0
  subst hl0
  obtain ⟨r, ct, it, n, rfl, hr8, hct, h8, hbt, hn1, hn2⟩ := ask15_open (show AllOk W (ask15Ks.map LK.int) cs1 from hk1)
  exact c_CountTurns W A0 c0 l0 hr0 hv0 (by simp only [reachBytes] at hb0; omega) r hr8 ct hct it h8 hbt n hn1 hn2
theorem CountTurns_lifted (os : Os) (started : os.Started) (H : Type) (enc : TypeId × Value → H) :
    ReturnsInHanded {} Try.checked os 15 .any (Rows.countTurnsSpec.pre6 enc Try.prog Try.f15 Rows.countTurnsRow.domain false) (Rows.countTurnsSpec.post enc Try.prog Try.f15 false true false false) :=
  law_lifted (C := Try.checked) (tb := 4) own0 started (by kernel_rfl) Try.func15 ⟨#[], #[.slice none 0 0, .agg #[.int .u8 0, .int .u16 0, .int .u8 0, .int .u8 0, .int .u8 0, .int .u8 0, .int .u8 0, .int .u8 0, .int .u8 0, .int .u8 0, .int .i64 0]], []⟩ 8 (by kernel_rfl) (by kernel_rfl) (by kernel_rfl) (by kernel_rfl) (by kernel_rfl) laidOut0 rfl (by kernel_rfl)
    (fun ds hds => by match ds, hds with | [d0, d1], _ => rfl) rfl Try.underlying4 (fun W base args ds ps hval hA hwt => CountTurns_walk W base args ds ps hval hA hwt)
theorem CountTurns_place : Try.prog.inPlace 15 = Rows.countTurnsRow.inPlace := by kernel_rfl
theorem CountTurns_unf : Try.prog.unfollowed 15 = Rows.countTurnsRow.unfollowed := by kernel_rfl
theorem CountTurns_rec : Try.prog.recurses 15 = Rows.countTurnsRow.recurses := by kernel_rfl
theorem CountTurns_named : Try.prog.varsNamed 15 = Rows.countTurnsRow.named := by kernel_rfl
theorem CountTurns_closed : joinedFacts Try.prog 15 Try.f15 Rows.countTurnsSpec Rows.countTurnsRow = true :=
  closed_of p_make p_lifts p_enter laidOut0 p_rowed p_stops p_knobs p_keys p_heard CountTurns_place CountTurns_unf CountTurns_rec CountTurns_named (by kernel_rfl)
theorem CountTurns_nm : Try.prog.funcNamed Rows.countTurnsRow.func = some 15 := by kernel_rfl
theorem CountTurns_inst : Func.isInstance Try.prog Try.f15 Rows.countTurnsRow.origin Rows.countTurnsRow.targs := of_decide_eq_true (by kernel_rfl)
theorem CountTurns_wrap : Func.isWrapper Try.prog Try.f15 Rows.countTurnsRow.wrapper Rows.countTurnsRow.mainSum := by unfold Func.isWrapper; (rw [if_neg (by decide +kernel)]; exact ⟨rfl, rfl⟩)
theorem CountTurns_holds : Rows.CountTurnsSaid :=
  OpenClaim.holds_of_wide 15 Try.f15 rfl rfl rfl rfl rfl rfl rfl ⟨rfl, rfl, rfl, rfl, rfl⟩ rfl rfl rfl rfl rfl CountTurns_nm Try.func15 CountTurns_closed CountTurns_inst CountTurns_wrap
    (fun os started H enc _ => CountTurns_lifted os started H enc)
end Go.Proofs.Ytmgacmkikefpjaa
