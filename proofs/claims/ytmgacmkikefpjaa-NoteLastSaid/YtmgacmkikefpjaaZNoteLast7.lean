/- The statement notelast holds: its own theorem, over the walks in the files before. -/
import Derived.Test.YtmgacmkikefpjaaZNoteLast6
set_option linter.unusedSimpArgs false
set_option linter.unusedVariables false
set_option linter.unusedSimpArgs false
set_option linter.unusedVariables false
set_option maxHeartbeats 800000
set_option maxRecDepth 100000
namespace Go.Proofs.Ytmgacmkikefpjaa
open Go.ChangeShapes Go.WideShapes Go.ChangeAt Go.RowKit
theorem NoteLast_walk {H : Type} {enc : TypeId × Value → H} (W : World) (base : Nat) (args : Array Value) (ds : List (DataW H)) (ps : List MemPlace)
    (hval : ∀ (j : Nat) t v, Try.f7.params[j]? = some t → args[j]? = some v → Value.okWide Try.prog W .any base t v)
    (hA : DataW.TrodAll enc Try.prog W 0 (fun _ => true) true Try.f7.params.toList args.toList ds ps) (hwt : ∀ x ∈ DataW.weightsEach Try.prog Try.f7.params.toList ds, x ≤ reachBytes) :
    CallR Try.prog 7 args W fun v W' => v = .bool true ∧ Ext W W' := by
  rw [Try.params7] at hA hval hwt
  obtain ⟨v0, v1, v2, d0, d1, d2, p0, p1, p2, rfl, rfl, rfl, h0, h1, h2⟩ := trodAll_three hA
  replace hwt : ∀ x ∈ DataW.weightsEach Try.prog [24, 52, 52] [d0, d1, d2], x ≤ reachBytes := hwt
  obtain ⟨A0, n0, c0, xs0, rfl, hnc0, hcm0, hr0, hok0, hd0⟩ := open_slice Try.underlying24 fl39 (sz := 21) rfl (by kernel_rfl) (by decide) (hval 0 24 v0 rfl rfl) h0
  have hb0 := slice_weight (by' := 40) Try.underlying24 (by kernel_rfl) hwt hd0
  replace hwt := rest_weight hwt
  obtain ⟨cs1, rfl, hk1⟩ := open_flat Try.underlying52 rfl fl52 (hval 1 52 v1 rfl rfl) h1
  replace hwt := rest_weight hwt
  obtain ⟨cs2, rfl, hk2⟩ := open_flat Try.underlying52 rfl fl52 (hval 2 52 v2 rfl rfl) h2
  replace hwt := rest_weight hwt
  obtain ⟨l0, hl0, rfl, hv0⟩ := open_rows hr0 hok0
  subst hl0
  obtain ⟨r, ct, tx, rfl, hr8, hct, h8, hbt⟩ := ask_open (show AllOk W (askKs.map LK.int) cs1 from hk1)
  obtain ⟨r2, ct2, tx2, rfl, hr82, hct2, h82, hbt2⟩ := ask_open (show AllOk W (askKs.map LK.int) cs2 from hk2)
  exact c_NoteLast W A0 c0 l0 hr0 hv0 (by simp only [reachBytes] at hb0; omega) r hr8 ct hct tx h8 hbt r2 hr82 ct2 hct2 tx2 h82 hbt2
theorem NoteLast_lifted (os : Os) (started : os.Started) (H : Type) (enc : TypeId × Value → H) :
    ReturnsInHanded {} Try.checked os 7 .any (Rows.noteLastSpec.pre6 enc Try.prog Try.f7 Rows.noteLastRow.domain false) (Rows.noteLastSpec.post enc Try.prog Try.f7 false true false false) :=
  law_lifted (C := Try.checked) (tb := 4) own0 started (by kernel_rfl) Try.func7 ⟨#[], #[.slice none 0 0, .agg #[.int .u8 0, .int .u16 0, .int .u8 0, .int .u8 0, .int .u8 0, .int .u8 0, .int .u8 0, .int .u8 0, .int .u8 0, .int .u8 0], .agg #[.int .u8 0, .int .u16 0, .int .u8 0, .int .u8 0, .int .u8 0, .int .u8 0, .int .u8 0, .int .u8 0, .int .u8 0, .int .u8 0]], []⟩ 8 (by kernel_rfl) (by kernel_rfl) (by kernel_rfl) (by kernel_rfl) (by kernel_rfl) laidOut0 rfl (by kernel_rfl)
    (fun ds hds => by match ds, hds with | [d0, d1, d2], _ => rfl) rfl Try.underlying4 (fun W base args ds ps hval hA hwt => NoteLast_walk W base args ds ps hval hA hwt)
theorem NoteLast_place : Try.prog.inPlace 7 = Rows.noteLastRow.inPlace := by kernel_rfl
theorem NoteLast_unf : Try.prog.unfollowed 7 = Rows.noteLastRow.unfollowed := by kernel_rfl
theorem NoteLast_rec : Try.prog.recurses 7 = Rows.noteLastRow.recurses := by kernel_rfl
theorem NoteLast_named : Try.prog.varsNamed 7 = Rows.noteLastRow.named := by kernel_rfl
theorem NoteLast_closed : joinedFacts Try.prog 7 Try.f7 Rows.noteLastSpec Rows.noteLastRow = true :=
  closed_of p_make p_lifts p_enter laidOut0 p_rowed p_stops p_knobs p_keys p_heard NoteLast_place NoteLast_unf NoteLast_rec NoteLast_named (by kernel_rfl)
theorem NoteLast_nm : Try.prog.funcNamed Rows.noteLastRow.func = some 7 := by kernel_rfl
theorem NoteLast_inst : Func.isInstance Try.prog Try.f7 Rows.noteLastRow.origin Rows.noteLastRow.targs := of_decide_eq_true (by kernel_rfl)
theorem NoteLast_wrap : Func.isWrapper Try.prog Try.f7 Rows.noteLastRow.wrapper Rows.noteLastRow.mainSum := by unfold Func.isWrapper; (rw [if_neg (by decide +kernel)]; exact ⟨rfl, rfl⟩)
theorem NoteLast_holds : Rows.NoteLastSaid :=
  OpenClaim.holds_of_wide 7 Try.f7 rfl rfl rfl rfl rfl rfl rfl ⟨rfl, rfl, rfl, rfl, rfl⟩ rfl rfl rfl rfl rfl NoteLast_nm Try.func7 NoteLast_closed NoteLast_inst NoteLast_wrap
    (fun os started H enc _ => NoteLast_lifted os started H enc)
end Go.Proofs.Ytmgacmkikefpjaa
