/- The statement tagsadds holds: its own theorem, over the walks in the files before. -/
import Derived.Test.YtffmanidnlbjjaaZTagsAdds5
set_option linter.unusedSimpArgs false
set_option linter.unusedVariables false
set_option linter.unusedSimpArgs false
set_option linter.unusedVariables false
set_option maxHeartbeats 800000
set_option maxRecDepth 100000
namespace Go.Proofs.Ytffmanidnlbjjaa
open Go.ChangeShapes Go.WideShapes Go.ChangeAt Go.RowKit
theorem TagsAdds_walk {H : Type} {enc : TypeId × Value → H} (W : World) (base : Nat) (args : Array Value) (ds : List (DataW H)) (ps : List MemPlace)
    (hval : ∀ (j : Nat) t v, Try.f3.params[j]? = some t → args[j]? = some v → Value.okWide Try.prog W .any base t v)
    (hA : DataW.TrodAll enc Try.prog W 0 (fun _ => true) true Try.f3.params.toList args.toList ds ps) (hwt : ∀ x ∈ DataW.weightsEach Try.prog Try.f3.params.toList ds, x ≤ reachBytes) :
    CallR Try.prog 3 args W fun v W' => v = .bool true ∧ Ext W W' := by
  rw [Try.params3] at hA hval hwt
  obtain ⟨v0, v1, v2, d0, d1, d2, p0, p1, p2, rfl, rfl, rfl, h0, h1, h2⟩ := trodAll_three hA
  replace hwt : ∀ x ∈ DataW.weightsEach Try.prog [22, 5, 27] [d0, d1, d2], x ≤ reachBytes := hwt
  obtain ⟨A0, n0, c0, xs0, rfl, hnc0, hcm0, hr0, hok0, hd0⟩ := open_slice Try.underlying22 fl54 (sz := 21) rfl (by kernel_rfl) (by decide) (hval 0 22 v0 rfl rfl) h0
  have hb0 := slice_weight (by' := 40) Try.underlying22 (by kernel_rfl) hwt hd0
  replace hwt := rest_weight hwt
  obtain ⟨a1, rfl, rfl, rfl, wf1⟩ := open_int Try.underlying5 (hval 1 5 v1 rfl rfl) h1
  replace hwt := rest_weight hwt
  obtain ⟨cs2, rfl, hk2⟩ := open_flat Try.underlying27 rfl fl27 (hval 2 27 v2 rfl rfl) h2
  replace hwt := rest_weight hwt
  obtain ⟨l0, hl0, rfl, hv0⟩ := open_rows hr0 hok0
  subst hl0
  have h8 := wf_u8 wf1
  rw [h8.1]
  obtain ⟨ct, it, rfl, hct, hi8, hbt⟩ := spot_open (show AllOk W (spotKs.map LK.int) cs2 from hk2)
  exact c_TagsAdds W A0 c0 l0 hr0 hv0 (by simp only [reachBytes] at hb0; omega) _ h8.2 ct hct it hi8 hbt
theorem TagsAdds_lifted (os : Os) (started : os.Started) (H : Type) (enc : TypeId × Value → H) :
    ReturnsInHanded {} Try.checked os 3 .any (Rows.tagsAddsSpec.pre6 enc Try.prog Try.f3 Rows.tagsAddsRow.domain false) (Rows.tagsAddsSpec.post enc Try.prog Try.f3 false true false false) :=
  law_lifted (C := Try.checked) (tb := 4) own0 started (by kernel_rfl) Try.func3 ⟨#[], #[.slice none 0 0, .int .u8 0, .agg #[.int .u16 0, .int .u8 0, .int .u8 0, .int .u8 0, .int .u8 0, .int .u8 0, .int .u8 0, .int .u8 0, .int .u8 0]], []⟩ 8 (by kernel_rfl) (by kernel_rfl) (by kernel_rfl) (by kernel_rfl) (by kernel_rfl) laidOut0 rfl (by kernel_rfl)
    (fun ds hds => by match ds, hds with | [d0, d1, d2], _ => rfl) rfl Try.underlying4 (fun W base args ds ps hval hA hwt => TagsAdds_walk W base args ds ps hval hA hwt)
theorem TagsAdds_place : Try.prog.inPlace 3 = Rows.tagsAddsRow.inPlace := by kernel_rfl
theorem TagsAdds_unf : Try.prog.unfollowed 3 = Rows.tagsAddsRow.unfollowed := by kernel_rfl
theorem TagsAdds_rec : Try.prog.recurses 3 = Rows.tagsAddsRow.recurses := by kernel_rfl
theorem TagsAdds_named : Try.prog.varsNamed 3 = Rows.tagsAddsRow.named := by kernel_rfl
theorem TagsAdds_closed : joinedFacts Try.prog 3 Try.f3 Rows.tagsAddsSpec Rows.tagsAddsRow = true :=
  closed_of p_make p_lifts p_enter laidOut0 p_rowed p_stops p_knobs p_keys p_heard TagsAdds_place TagsAdds_unf TagsAdds_rec TagsAdds_named (by kernel_rfl)
theorem TagsAdds_nm : Try.prog.funcNamed Rows.tagsAddsRow.func = some 3 := by kernel_rfl
theorem TagsAdds_inst : Func.isInstance Try.prog Try.f3 Rows.tagsAddsRow.origin Rows.tagsAddsRow.targs := of_decide_eq_true (by kernel_rfl)
theorem TagsAdds_wrap : Func.isWrapper Try.prog Try.f3 Rows.tagsAddsRow.wrapper Rows.tagsAddsRow.mainSum := by unfold Func.isWrapper; (rw [if_neg (by decide +kernel)]; exact ⟨rfl, rfl⟩)
theorem TagsAdds_holds : Rows.TagsAddsSaid :=
  OpenClaim.holds_of_wide 3 Try.f3 rfl rfl rfl rfl rfl rfl rfl ⟨rfl, rfl, rfl, rfl, rfl⟩ rfl rfl rfl rfl rfl TagsAdds_nm Try.func3 TagsAdds_closed TagsAdds_inst TagsAdds_wrap
    (fun os started H enc _ => TagsAdds_lifted os started H enc)
end Go.Proofs.Ytffmanidnlbjjaa
