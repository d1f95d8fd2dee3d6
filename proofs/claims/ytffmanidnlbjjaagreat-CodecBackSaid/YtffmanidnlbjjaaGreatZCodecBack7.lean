/- The statement codecback holds: its own theorem, over the walks in the files before. -/
import Derived.Test.YtffmanidnlbjjaaGreatZCodecBack6
set_option linter.unusedSimpArgs false
set_option linter.unusedVariables false
set_option linter.unusedSimpArgs false
set_option linter.unusedVariables false
set_option maxHeartbeats 800000
set_option maxRecDepth 100000
namespace Go.Proofs.YtffmanidnlbjjaaGreat
open Go.ChangeShapes Go.WideShapes Go.ChangeAt Go.RowKit
theorem CodecBack_walk {H : Type} {enc : TypeId × Value → H} (W : World) (base : Nat) (args : Array Value) (ds : List (DataW H)) (ps : List MemPlace)
    (hval : ∀ (j : Nat) t v, Tryz.f10.params[j]? = some t → args[j]? = some v → Value.okWide Tryz.prog W .any base t v)
    (hA : DataW.TrodAll enc Tryz.prog W 0 (fun _ => true) true Tryz.f10.params.toList args.toList ds ps) (hwt : ∀ x ∈ DataW.weightsEach Tryz.prog Tryz.f10.params.toList ds, x ≤ reachBytes) :
    CallR Tryz.prog 10 args W fun v W' => v = .bool true ∧ Ext W W' := by
  rw [Tryz.params10] at hA hval hwt
  obtain ⟨v0, v1, v2, d0, d1, d2, p0, p1, p2, rfl, rfl, rfl, h0, h1, h2⟩ := trodAll_three hA
  replace hwt : ∀ x ∈ DataW.weightsEach Tryz.prog [22, 22, 73] [d0, d1, d2], x ≤ reachBytes := hwt
  obtain ⟨A0, n0, c0, xs0, rfl, hnc0, hcm0, hr0, hok0, hd0⟩ := open_slice Tryz.underlying22 fl88 (sz := 21) rfl (by kernel_rfl) (by decide) (hval 0 22 v0 rfl rfl) h0
  have hb0 := slice_weight (by' := 40) Tryz.underlying22 (by kernel_rfl) hwt hd0
  replace hwt := rest_weight hwt
  obtain ⟨A1, n1, c1, xs1, rfl, hnc1, hcm1, hr1, hok1, hd1⟩ := open_slice Tryz.underlying22 fl88 (sz := 21) rfl (by kernel_rfl) (by decide) (hval 1 22 v1 rfl rfl) h1
  have hb1 := slice_weight (by' := 40) Tryz.underlying22 (by kernel_rfl) hwt hd1
  replace hwt := rest_weight hwt
  obtain ⟨A2, n2, c2, l2, rfl, hnc2, hr2, hl2, hw2, hd2⟩ := open_ints Tryz.underlying73 Tryz.underlying5 (by kernel_rfl) (hval 2 73 v2 rfl rfl) h2
  have hb2 := slice_weight (by' := 1) Tryz.underlying73 (by kernel_rfl) hwt hd2
  replace hwt := rest_weight hwt
  obtain ⟨l0, hl0, rfl, hv0⟩ := open_rows hr0 hok0
  subst hl0
  obtain ⟨l1, hl1, rfl, hv1⟩ := open_rows hr1 hok1
  subst hl1
  subst hl2
  exact c_CodecBack W A0 c0 l0 hr0 hv0 A1 c1 l1 hr1 hv1 A2 c2 l2 hr2 (byt_of_wf hw2) (by simp only [reachBytes] at hb0 hb1 hb2; omega)
theorem CodecBack_lifted (os : Os) (started : os.Started) (H : Type) (enc : TypeId × Value → H) :
    ReturnsInHanded {} Tryz.checked os 10 .any (Rows.codecBackSpec.pre6 enc Tryz.prog Tryz.f10 Rows.codecBackRow.domain false) (Rows.codecBackSpec.post enc Tryz.prog Tryz.f10 false true false false) :=
  law_lifted (C := Tryz.checked) (tb := 4) own0 started (by kernel_rfl) Tryz.func10 ⟨#[], #[.slice none 0 0, .slice none 0 0, .slice none 0 0], []⟩ 8 (by kernel_rfl) (by kernel_rfl) (by kernel_rfl) (by kernel_rfl) (by kernel_rfl) laidOut0 rfl (by kernel_rfl)
    (fun ds hds => by match ds, hds with | [d0, d1, d2], _ => rfl) rfl Tryz.underlying4 (fun W base args ds ps hval hA hwt => CodecBack_walk W base args ds ps hval hA hwt)
theorem CodecBack_place : Tryz.prog.inPlace 10 = Rows.codecBackRow.inPlace := by kernel_rfl
theorem CodecBack_unf : Tryz.prog.unfollowed 10 = Rows.codecBackRow.unfollowed := by kernel_rfl
theorem CodecBack_rec : Tryz.prog.recurses 10 = Rows.codecBackRow.recurses := by kernel_rfl
theorem CodecBack_named : Tryz.prog.varsNamed 10 = Rows.codecBackRow.named := by kernel_rfl
theorem CodecBack_closed : joinedFacts Tryz.prog 10 Tryz.f10 Rows.codecBackSpec Rows.codecBackRow = true :=
  closed_of p_make p_lifts p_enter laidOut0 p_rowed p_stops p_knobs p_keys p_heard CodecBack_place CodecBack_unf CodecBack_rec CodecBack_named (by kernel_rfl)
theorem CodecBack_nm : Tryz.prog.funcNamed Rows.codecBackRow.func = some 10 := by kernel_rfl
theorem CodecBack_inst : Func.isInstance Tryz.prog Tryz.f10 Rows.codecBackRow.origin Rows.codecBackRow.targs := of_decide_eq_true (by kernel_rfl)
theorem CodecBack_wrap : Func.isWrapper Tryz.prog Tryz.f10 Rows.codecBackRow.wrapper Rows.codecBackRow.mainSum := by unfold Func.isWrapper; (rw [if_neg (by decide +kernel)]; exact ⟨rfl, rfl⟩)
theorem CodecBack_holds : Rows.CodecBackSaid :=
  OpenClaim.holds_of_wide 10 Tryz.f10 rfl rfl rfl rfl rfl rfl rfl ⟨rfl, rfl, rfl, rfl, rfl⟩ rfl rfl rfl rfl rfl CodecBack_nm Tryz.func10 CodecBack_closed CodecBack_inst CodecBack_wrap
    (fun os started H enc _ => CodecBack_lifted os started H enc)
end Go.Proofs.YtffmanidnlbjjaaGreat
