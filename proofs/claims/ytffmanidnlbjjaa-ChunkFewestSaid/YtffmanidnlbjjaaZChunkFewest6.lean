/- The statement chunkfewest holds: its own theorem, over the walks in the files before. -/
import Derived.Test.YtffmanidnlbjjaaZChunkFewest5
set_option linter.unusedSimpArgs false
set_option linter.unusedVariables false
set_option linter.unusedSimpArgs false
set_option linter.unusedVariables false
set_option maxHeartbeats 800000
set_option maxRecDepth 100000
namespace Go.Proofs.Ytffmanidnlbjjaa
open Go.ChangeShapes Go.WideShapes Go.ChangeAt Go.RowKit
theorem ChunkFewest_walk {H : Type} {enc : TypeId × Value → H} (W : World) (base : Nat) (args : Array Value) (ds : List (DataW H)) (ps : List MemPlace)
    (hval : ∀ (j : Nat) t v, Try.f5.params[j]? = some t → args[j]? = some v → Value.okWide Try.prog W .any base t v)
    (hA : DataW.TrodAll enc Try.prog W 0 (fun _ => true) true Try.f5.params.toList args.toList ds ps) (hwt : ∀ x ∈ DataW.weightsEach Try.prog Try.f5.params.toList ds, x ≤ reachBytes) :
    CallR Try.prog 5 args W fun v W' => v = .bool true ∧ Ext W W' := by
  rw [Try.params5] at hA hval hwt
  obtain ⟨v0, v1, v2, d0, d1, d2, p0, p1, p2, rfl, rfl, rfl, h0, h1, h2⟩ := trodAll_three hA
  replace hwt : ∀ x ∈ DataW.weightsEach Try.prog [22, 3, 56] [d0, d1, d2], x ≤ reachBytes := hwt
  obtain ⟨A0, n0, c0, xs0, rfl, hnc0, hcm0, hr0, hok0, hd0⟩ := open_slice Try.underlying22 fl54 (sz := 21) rfl (by kernel_rfl) (by decide) (hval 0 22 v0 rfl rfl) h0
  have hb0 := slice_weight (by' := 40) Try.underlying22 (by kernel_rfl) hwt hd0
  replace hwt := rest_weight hwt
  obtain ⟨a1, rfl, rfl, rfl, wf1⟩ := open_int Try.underlying3 (hval 1 3 v1 rfl rfl) h1
  replace hwt := rest_weight hwt
  obtain ⟨A2, n2, c2, l2, rfl, hnc2, hr2, hl2, hw2, hd2⟩ := open_ints Try.underlying56 Try.underlying5 (by kernel_rfl) (hval 2 56 v2 rfl rfl) h2
  have hb2 := slice_weight (by' := 1) Try.underlying56 (by kernel_rfl) hwt hd2
  replace hwt := rest_weight hwt
  obtain ⟨l0, hl0, rfl, hv0⟩ := open_rows hr0 hok0
  subst hl0
  have h8 := bounds_i64 wf1
  subst hl2
  exact c_ChunkFewest W A0 c0 l0 hr0 hv0 (by simp only [reachBytes] at hb0; omega) hnc0 _ (by omega) A2 c2 l2 hr2 (byt_of_wf hw2)
theorem ChunkFewest_lifted (os : Os) (started : os.Started) (H : Type) (enc : TypeId × Value → H) :
    ReturnsInHanded {} Try.checked os 5 .any (Rows.chunkFewestSpec.pre6 enc Try.prog Try.f5 Rows.chunkFewestRow.domain false) (Rows.chunkFewestSpec.post enc Try.prog Try.f5 false true false false) :=
  law_lifted (C := Try.checked) (tb := 4) own0 started (by kernel_rfl) Try.func5 ⟨#[], #[.slice none 0 0, .int .i64 0, .slice none 0 0], []⟩ 8 (by kernel_rfl) (by kernel_rfl) (by kernel_rfl) (by kernel_rfl) (by kernel_rfl) laidOut0 rfl (by kernel_rfl)
    (fun ds hds => by match ds, hds with | [d0, d1, d2], _ => rfl) rfl Try.underlying4 (fun W base args ds ps hval hA hwt => ChunkFewest_walk W base args ds ps hval hA hwt)
theorem ChunkFewest_place : Try.prog.inPlace 5 = Rows.chunkFewestRow.inPlace := by kernel_rfl
theorem ChunkFewest_unf : Try.prog.unfollowed 5 = Rows.chunkFewestRow.unfollowed := by kernel_rfl
theorem ChunkFewest_rec : Try.prog.recurses 5 = Rows.chunkFewestRow.recurses := by kernel_rfl
theorem ChunkFewest_named : Try.prog.varsNamed 5 = Rows.chunkFewestRow.named := by kernel_rfl
theorem ChunkFewest_closed : joinedFacts Try.prog 5 Try.f5 Rows.chunkFewestSpec Rows.chunkFewestRow = true :=
  closed_of p_make p_lifts p_enter laidOut0 p_rowed p_stops p_knobs p_keys p_heard ChunkFewest_place ChunkFewest_unf ChunkFewest_rec ChunkFewest_named (by kernel_rfl)
theorem ChunkFewest_nm : Try.prog.funcNamed Rows.chunkFewestRow.func = some 5 := by kernel_rfl
theorem ChunkFewest_inst : Func.isInstance Try.prog Try.f5 Rows.chunkFewestRow.origin Rows.chunkFewestRow.targs := of_decide_eq_true (by kernel_rfl)
theorem ChunkFewest_wrap : Func.isWrapper Try.prog Try.f5 Rows.chunkFewestRow.wrapper Rows.chunkFewestRow.mainSum := by unfold Func.isWrapper; (rw [if_neg (by decide +kernel)]; exact ⟨rfl, rfl⟩)
theorem ChunkFewest_holds : Rows.ChunkFewestSaid :=
  OpenClaim.holds_of_wide 5 Try.f5 rfl rfl rfl rfl rfl rfl rfl ⟨rfl, rfl, rfl, rfl, rfl⟩ rfl rfl rfl rfl rfl ChunkFewest_nm Try.func5 ChunkFewest_closed ChunkFewest_inst ChunkFewest_wrap
    (fun os started H enc _ => ChunkFewest_lifted os started H enc)
end Go.Proofs.Ytffmanidnlbjjaa
