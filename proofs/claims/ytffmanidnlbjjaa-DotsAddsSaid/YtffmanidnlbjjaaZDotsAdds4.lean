/- The statement dotsadds holds: its own theorem, over the walks in the files before. -/
import Derived.Test.YtffmanidnlbjjaaZDotsAdds3
set_option linter.unusedSimpArgs false
set_option linter.unusedVariables false
set_option linter.unusedSimpArgs false
set_option linter.unusedVariables false
set_option maxHeartbeats 800000
set_option maxRecDepth 100000
namespace Go.Proofs.Ytffmanidnlbjjaa
open Go.ChangeShapes Go.WideShapes Go.ChangeAt Go.RowKit
theorem DotsAdds_walk {H : Type} {enc : TypeId × Value → H} (W : World) (base : Nat) (args : Array Value) (ds : List (DataW H)) (ps : List MemPlace)
    (hval : ∀ (j : Nat) t v, Try.f6.params[j]? = some t → args[j]? = some v → Value.okWide Try.prog W .any base t v)
    (hA : DataW.TrodAll enc Try.prog W 0 (fun _ => true) true Try.f6.params.toList args.toList ds ps) (hwt : ∀ x ∈ DataW.weightsEach Try.prog Try.f6.params.toList ds, x ≤ reachBytes) :
    CallR Try.prog 6 args W fun v W' => v = .bool true ∧ Ext W W' := by
  rw [Try.params6] at hA hval hwt
  obtain ⟨v0, v1, v2, d0, d1, d2, p0, p1, p2, rfl, rfl, rfl, h0, h1, h2⟩ := trodAll_three hA
  replace hwt : ∀ x ∈ DataW.weightsEach Try.prog [67, 65, 48] [d0, d1, d2], x ≤ reachBytes := hwt
  obtain ⟨cs0, rfl, hk0⟩ := open_flat Try.underlying67 rfl fl67 (hval 0 67 v0 rfl rfl) h0
  replace hwt := rest_weight hwt
  obtain ⟨A1, n1, c1, l1, rfl, hnc1, hr1, hl1, hw1, hd1⟩ := open_ints Try.underlying65 Try.underlying48 (by kernel_rfl) (hval 1 65 v1 rfl rfl) h1
  have hb1 := slice_weight (by' := 8) Try.underlying65 (by kernel_rfl) hwt hd1
  replace hwt := rest_weight hwt
  obtain ⟨a2, rfl, rfl, rfl, wf2⟩ := open_int Try.underlying48 (hval 2 48 v2 rfl rfl) h2
  replace hwt := rest_weight hwt
  obtain ⟨x, A, c, cl, rfl, hx, hr, hu⟩ := set_open hk0
  subst hl1
  have h8 := wf_u64 wf2
  rw [h8.1]
  exact c_DotsAdds W x hx A c cl hr hu A1 c1 l1 hr1 (u64s_of hw1) _ h8.2
theorem DotsAdds_lifted (os : Os) (started : os.Started) (H : Type) (enc : TypeId × Value → H) :
    ReturnsInHanded {} Try.checked os 6 .any (Rows.dotsAddsSpec.pre6 enc Try.prog Try.f6 Rows.dotsAddsRow.domain false) (Rows.dotsAddsSpec.post enc Try.prog Try.f6 false true false false) :=
  law_lifted (C := Try.checked) (tb := 4) own0 started (by kernel_rfl) Try.func6 ⟨#[], #[.agg #[.int .u32 0, .int .u32 0, .int .u32 0, .int .u32 0, .int .u32 0, .int .u32 0, .int .u32 0, .int .u32 0, .int .u32 0, .int .u32 0, .int .u32 0, .int .u32 0, .int .u32 0, .int .u32 0, .int .u32 0, .int .u32 0, .slice none 0 0], .slice none 0 0, .int .u64 0], []⟩ 8 (by kernel_rfl) (by kernel_rfl) (by kernel_rfl) (by kernel_rfl) (by kernel_rfl) laidOut0 rfl (by kernel_rfl)
    (fun ds hds => by match ds, hds with | [d0, d1, d2], _ => rfl) rfl Try.underlying4 (fun W base args ds ps hval hA hwt => DotsAdds_walk W base args ds ps hval hA hwt)
theorem DotsAdds_place : Try.prog.inPlace 6 = Rows.dotsAddsRow.inPlace := by kernel_rfl
theorem DotsAdds_unf : Try.prog.unfollowed 6 = Rows.dotsAddsRow.unfollowed := by kernel_rfl
theorem DotsAdds_rec : Try.prog.recurses 6 = Rows.dotsAddsRow.recurses := by kernel_rfl
theorem DotsAdds_named : Try.prog.varsNamed 6 = Rows.dotsAddsRow.named := by kernel_rfl
theorem DotsAdds_closed : joinedFacts Try.prog 6 Try.f6 Rows.dotsAddsSpec Rows.dotsAddsRow = true :=
  closed_of p_make p_lifts p_enter laidOut0 p_rowed p_stops p_knobs p_keys p_heard DotsAdds_place DotsAdds_unf DotsAdds_rec DotsAdds_named (by kernel_rfl)
theorem DotsAdds_nm : Try.prog.funcNamed Rows.dotsAddsRow.func = some 6 := by kernel_rfl
theorem DotsAdds_inst : Func.isInstance Try.prog Try.f6 Rows.dotsAddsRow.origin Rows.dotsAddsRow.targs := of_decide_eq_true (by kernel_rfl)
theorem DotsAdds_wrap : Func.isWrapper Try.prog Try.f6 Rows.dotsAddsRow.wrapper Rows.dotsAddsRow.mainSum := by unfold Func.isWrapper; (rw [if_neg (by decide +kernel)]; exact ⟨rfl, rfl⟩)
theorem DotsAdds_holds : Rows.DotsAddsSaid :=
  OpenClaim.holds_of_wide 6 Try.f6 rfl rfl rfl rfl rfl rfl rfl ⟨rfl, rfl, rfl, rfl, rfl⟩ rfl rfl rfl rfl rfl DotsAdds_nm Try.func6 DotsAdds_closed DotsAdds_inst DotsAdds_wrap
    (fun os started H enc _ => DotsAdds_lifted os started H enc)
end Go.Proofs.Ytffmanidnlbjjaa
