/- The statement noteputs holds: its own theorem, over the walks in the files before. -/
import Derived.Test.YtmgacmkikefpjaaZNotePuts5
set_option linter.unusedSimpArgs false
set_option linter.unusedVariables false
set_option linter.unusedSimpArgs false
set_option linter.unusedVariables false
set_option maxHeartbeats 800000
set_option maxRecDepth 100000
namespace Go.Proofs.Ytmgacmkikefpjaa
open Go.ChangeShapes Go.WideShapes Go.ChangeAt Go.RowKit
theorem NotePuts_walk {H : Type} {enc : TypeId × Value → H} (W : World) (base : Nat) (args : Array Value) (ds : List (DataW H)) (ps : List MemPlace)
    (hval : ∀ (j : Nat) t v, Try.f8.params[j]? = some t → args[j]? = some v → Value.okWide Try.prog W .any base t v)
    (hA : DataW.TrodAll enc Try.prog W 0 (fun _ => true) true Try.f8.params.toList args.toList ds ps) (hwt : ∀ x ∈ DataW.weightsEach Try.prog Try.f8.params.toList ds, x ≤ reachBytes) :
    CallR Try.prog 8 args W fun v W' => v = .bool true ∧ Ext W W' := by
  rw [Try.params8] at hA hval hwt
  obtain ⟨v0, v1, v2, d0, d1, d2, p0, p1, p2, rfl, rfl, rfl, h0, h1, h2⟩ := trodAll_three hA
  replace hwt : ∀ x ∈ DataW.weightsEach Try.prog [24, 52, 59] [d0, d1, d2], x ≤ reachBytes := hwt
  obtain ⟨A0, n0, c0, xs0, rfl, hnc0, hcm0, hr0, hok0, hd0⟩ := open_slice Try.underlying24 fl39 (sz := 21) rfl (by kernel_rfl) (by decide) (hval 0 24 v0 rfl rfl) h0
  have hb0 := slice_weight (by' := 40) Try.underlying24 (by kernel_rfl) hwt hd0
  replace hwt := rest_weight hwt
  obtain ⟨cs1, rfl, hk1⟩ := open_flat Try.underlying52 rfl fl52 (hval 1 52 v1 rfl rfl) h1
  replace hwt := rest_weight hwt
  obtain ⟨cs2, rfl, hk2⟩ := open_flat Try.underlying59 rfl fl59 (hval 2 59 v2 rfl rfl) h2
  replace hwt := rest_weight hwt
  obtain ⟨l0, hl0, rfl, hv0⟩ := open_rows hr0 hok0
  subst hl0
  obtain ⟨r, ct, tx, rfl, hr8, hct, h8, hbt⟩ := ask_open (show AllOk W (askKs.map LK.int) cs1 from hk1)
  obtain ⟨x, y, rfl, hx, hy⟩ := v18_open (show AllOk W ((valKs ++ valKs).map LK.int) cs2 from hk2)
  exact c_NotePuts W A0 c0 l0 hr0 hv0 (by simp only [reachBytes] at hb0; omega) r hr8 ct hct tx h8 hbt x y hx hy
theorem NotePuts_lifted (os : Os) (started : os.Started) (H : Type) (enc : TypeId × Value → H) :
    ReturnsInHanded {} Try.checked os 8 .any (Rows.notePutsSpec.pre6 enc Try.prog Try.f8 Rows.notePutsRow.domain false) (Rows.notePutsSpec.post enc Try.prog Try.f8 false true false false) :=
  law_lifted (C := Try.checked) (tb := 4) own0 started (by kernel_rfl) Try.func8 ⟨#[], #[.slice none 0 0, .agg #[.int .u8 0, .int .u16 0, .int .u8 0, .int .u8 0, .int .u8 0, .int .u8 0, .int .u8 0, .int .u8 0, .int .u8 0, .int .u8 0], .agg #[.int .u64 0, .int .u8 0, .int .u8 0, .int .u8 0, .int .u8 0, .int .u8 0, .int .u8 0, .int .u8 0, .int .u8 0, .int .u64 0, .int .u8 0, .int .u8 0, .int .u8 0, .int .u8 0, .int .u8 0, .int .u8 0, .int .u8 0, .int .u8 0]], []⟩ 8 (by kernel_rfl) (by kernel_rfl) (by kernel_rfl) (by kernel_rfl) (by kernel_rfl) laidOut0 rfl (by kernel_rfl)
    (fun ds hds => by match ds, hds with | [d0, d1, d2], _ => rfl) rfl Try.underlying4 (fun W base args ds ps hval hA hwt => NotePuts_walk W base args ds ps hval hA hwt)
theorem NotePuts_place : Try.prog.inPlace 8 = Rows.notePutsRow.inPlace := by kernel_rfl
theorem NotePuts_unf : Try.prog.unfollowed 8 = Rows.notePutsRow.unfollowed := by kernel_rfl
theorem NotePuts_rec : Try.prog.recurses 8 = Rows.notePutsRow.recurses := by kernel_rfl
theorem NotePuts_named : Try.prog.varsNamed 8 = Rows.notePutsRow.named := by kernel_rfl
theorem NotePuts_closed : joinedFacts Try.prog 8 Try.f8 Rows.notePutsSpec Rows.notePutsRow = true :=
  closed_of p_make p_lifts p_enter laidOut0 p_rowed p_stops p_knobs p_keys p_heard NotePuts_place NotePuts_unf NotePuts_rec NotePuts_named (by kernel_rfl)
theorem NotePuts_nm : Try.prog.funcNamed Rows.notePutsRow.func = some 8 := by kernel_rfl
theorem NotePuts_inst : Func.isInstance Try.prog Try.f8 Rows.notePutsRow.origin Rows.notePutsRow.targs := of_decide_eq_true (by kernel_rfl)
theorem NotePuts_wrap : Func.isWrapper Try.prog Try.f8 Rows.notePutsRow.wrapper Rows.notePutsRow.mainSum := by unfold Func.isWrapper; (rw [if_neg (by decide +kernel)]; exact ⟨rfl, rfl⟩)
theorem NotePuts_holds : Rows.NotePutsSaid :=
  OpenClaim.holds_of_wide 8 Try.f8 rfl rfl rfl rfl rfl rfl rfl ⟨rfl, rfl, rfl, rfl, rfl⟩ rfl rfl rfl rfl rfl NotePuts_nm Try.func8 NotePuts_closed NotePuts_inst NotePuts_wrap
    (fun os started H enc _ => NotePuts_lifted os started H enc)
end Go.Proofs.Ytmgacmkikefpjaa
