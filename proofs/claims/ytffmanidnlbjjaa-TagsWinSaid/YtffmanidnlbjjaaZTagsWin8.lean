/- The statement tagswin holds: its own theorem, over the walks in the files before. -/
import Derived.Test.YtffmanidnlbjjaaZTagsWin7
set_option linter.unusedSimpArgs false
set_option linter.unusedVariables false
set_option linter.unusedSimpArgs false
set_option linter.unusedVariables false
set_option maxHeartbeats 800000
set_option maxRecDepth 100000
namespace Go.Proofs.Ytffmanidnlbjjaa
open Go.ChangeShapes Go.WideShapes Go.ChangeAt Go.RowKit
theorem TagsWin_walk {H : Type} {enc : TypeId × Value → H} (W : World) (base : Nat) (args : Array Value) (ds : List (DataW H)) (ps : List MemPlace)
    (hval : ∀ (j : Nat) t v, Try.f4.params[j]? = some t → args[j]? = some v → Value.okWide Try.prog W .any base t v)
    (hA : DataW.TrodAll enc Try.prog W 0 (fun _ => true) true Try.f4.params.toList args.toList ds ps) (hwt : ∀ x ∈ DataW.weightsEach Try.prog Try.f4.params.toList ds, x ≤ reachBytes) :
    CallR Try.prog 4 args W fun v W' => v = .bool true ∧ Ext W W' := by
  rw [Try.params4] at hA hval hwt
  obtain ⟨v0, v1, v2, d0, d1, d2, p0, p1, p2, rfl, rfl, rfl, h0, h1, h2⟩ := trodAll_three hA
  replace hwt : ∀ x ∈ DataW.weightsEach Try.prog [22, 22, 27] [d0, d1, d2], x ≤ reachBytes := hwt
  obtain ⟨A0, n0, c0, xs0, rfl, hnc0, hcm0, hr0, hok0, hd0⟩ := open_slice Try.underlying22 fl54 (sz := 21) rfl (by kernel_rfl) (by decide) (hval 0 22 v0 rfl rfl) h0
  have hb0 := slice_weight (by' := 40) Try.underlying22 (by kernel_rfl) hwt hd0
  replace hwt := rest_weight hwt
  obtain ⟨A1, n1, c1, xs1, rfl, hnc1, hcm1, hr1, hok1, hd1⟩ := open_slice Try.underlying22 fl54 (sz := 21) rfl (by kernel_rfl) (by decide) (hval 1 22 v1 rfl rfl) h1
  have hb1 := slice_weight (by' := 40) Try.underlying22 (by kernel_rfl) hwt hd1
  replace hwt := rest_weight hwt
  obtain ⟨cs2, rfl, hk2⟩ := open_flat Try.underlying27 rfl fl27 (hval 2 27 v2 rfl rfl) h2
  replace hwt := rest_weight hwt
  obtain ⟨l0, hl0, rfl, hv0⟩ := open_rows hr0 hok0
  subst hl0
  obtain ⟨l1, hl1, rfl, hv1⟩ := open_rows hr1 hok1
  subst hl1
  obtain ⟨ct, it, rfl, hct, hi8, hbt⟩ := spot_open (show AllOk W (spotKs.map LK.int) cs2 from hk2)
  exact c_TagsWin W A0 c0 l0 hr0 hv0 A1 c1 l1 hr1 hv1 (by simp only [reachBytes] at hb0 hb1; omega) ct hct it hi8 hbt
theorem TagsWin_lifted (os : Os) (started : os.Started) (H : Type) (enc : TypeId × Value → H) :
    ReturnsInHanded {} Try.checked os 4 .any (Rows.tagsWinSpec.pre6 enc Try.prog Try.f4 Rows.tagsWinRow.domain false) (Rows.tagsWinSpec.post enc Try.prog Try.f4 false true false false) :=
  law_lifted (C := Try.checked) (tb := 4) own0 started (by kernel_rfl) Try.func4 ⟨#[], #[.slice none 0 0, .slice none 0 0, .agg #[.int .u16 0, .int .u8 0, .int .u8 0, .int .u8 0, .int .u8 0, .int .u8 0, .int .u8 0, .int .u8 0, .int .u8 0]], []⟩ 8 (by kernel_rfl) (by kernel_rfl) (by kernel_rfl) (by kernel_rfl) (by kernel_rfl) laidOut0 rfl (by kernel_rfl)
    (fun ds hds => by match ds, hds with | [d0, d1, d2], _ => rfl) rfl Try.underlying4 (fun W base args ds ps hval hA hwt => TagsWin_walk W base args ds ps hval hA hwt)
theorem TagsWin_place : Try.prog.inPlace 4 = Rows.tagsWinRow.inPlace := by kernel_rfl
theorem TagsWin_unf : Try.prog.unfollowed 4 = Rows.tagsWinRow.unfollowed := by kernel_rfl
theorem TagsWin_rec : Try.prog.recurses 4 = Rows.tagsWinRow.recurses := by kernel_rfl
theorem TagsWin_named : Try.prog.varsNamed 4 = Rows.tagsWinRow.named := by kernel_rfl
theorem TagsWin_closed : joinedFacts Try.prog 4 Try.f4 Rows.tagsWinSpec Rows.tagsWinRow = true :=
  closed_of p_make p_lifts p_enter laidOut0 p_rowed p_stops p_knobs p_keys p_heard TagsWin_place TagsWin_unf TagsWin_rec TagsWin_named (by kernel_rfl)
theorem TagsWin_nm : Try.prog.funcNamed Rows.tagsWinRow.func = some 4 := by kernel_rfl
theorem TagsWin_inst : Func.isInstance Try.prog Try.f4 Rows.tagsWinRow.origin Rows.tagsWinRow.targs := of_decide_eq_true (by kernel_rfl)
theorem TagsWin_wrap : Func.isWrapper Try.prog Try.f4 Rows.tagsWinRow.wrapper Rows.tagsWinRow.mainSum := by unfold Func.isWrapper; (rw [if_neg (by decide +kernel)]; exact ⟨rfl, rfl⟩)
theorem TagsWin_holds : Rows.TagsWinSaid :=
  OpenClaim.holds_of_wide 4 Try.f4 rfl rfl rfl rfl rfl rfl rfl ⟨rfl, rfl, rfl, rfl, rfl⟩ rfl rfl rfl rfl rfl TagsWin_nm Try.func4 TagsWin_closed TagsWin_inst TagsWin_wrap
    (fun os started H enc _ => TagsWin_lifted os started H enc)
end Go.Proofs.Ytffmanidnlbjjaa
