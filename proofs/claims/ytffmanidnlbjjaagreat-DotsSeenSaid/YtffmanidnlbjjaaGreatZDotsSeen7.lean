/- The statement dotsseen holds: its own theorem, over the walks in the files before. -/
import Derived.Test.YtffmanidnlbjjaaGreatZDotsSeen6
set_option linter.unusedSimpArgs false
set_option linter.unusedVariables false
set_option linter.unusedSimpArgs false
set_option linter.unusedVariables false
set_option maxHeartbeats 800000
set_option maxRecDepth 100000
namespace Go.Proofs.YtffmanidnlbjjaaGreat
open Go.ChangeShapes Go.WideShapes Go.ChangeAt Go.RowKit
theorem DotsSeen_walk {H : Type} {enc : TypeId × Value → H} (W : World) (base : Nat) (args : Array Value) (ds : List (DataW H)) (ps : List MemPlace)
    (hval : ∀ (j : Nat) t v, Tryz.f3.params[j]? = some t → args[j]? = some v → Value.okWide Tryz.prog W .any base t v)
    (hA : DataW.TrodAll enc Tryz.prog W 0 (fun _ => true) true Tryz.f3.params.toList args.toList ds ps) (hwt : ∀ x ∈ DataW.weightsEach Tryz.prog Tryz.f3.params.toList ds, x ≤ reachBytes) :
    CallR Tryz.prog 3 args W fun v W' => v = .bool true ∧ Ext W W' := by
  rw [Tryz.params3] at hA hval hwt
  obtain ⟨v0, v1, d0, d1, p0, p1, rfl, rfl, rfl, h0, h1⟩ := trodAll_two hA
  replace hwt : ∀ x ∈ DataW.weightsEach Tryz.prog [22, 22] [d0, d1], x ≤ reachBytes := hwt
  obtain ⟨A0, n0, c0, xs0, rfl, hnc0, hcm0, hr0, hok0, hd0⟩ := open_slice Tryz.underlying22 fl88 (sz := 21) rfl (by kernel_rfl) (by decide) (hval 0 22 v0 rfl rfl) h0
  have hb0 := slice_weight (by' := 40) Tryz.underlying22 (by kernel_rfl) hwt hd0
  replace hwt := rest_weight hwt
  obtain ⟨A1, n1, c1, xs1, rfl, hnc1, hcm1, hr1, hok1, hd1⟩ := open_slice Tryz.underlying22 fl88 (sz := 21) rfl (by kernel_rfl) (by decide) (hval 1 22 v1 rfl rfl) h1
  have hb1 := slice_weight (by' := 40) Tryz.underlying22 (by kernel_rfl) hwt hd1
  replace hwt := rest_weight hwt
  obtain ⟨l0, hl0, rfl, hv0⟩ := open_rows hr0 hok0
  subst hl0
  obtain ⟨l1, hl1, rfl, hv1⟩ := open_rows hr1 hok1
  subst hl1
  exact c_DotsSeen W A0 c0 l0 hr0 hv0 A1 c1 l1 hr1 hv1 (by simp only [reachBytes] at hb0 hb1; omega)
theorem DotsSeen_lifted (os : Os) (started : os.Started) (H : Type) (enc : TypeId × Value → H) :
    ReturnsInHanded {} Tryz.checked os 3 .any (Rows.dotsSeenSpec.pre6 enc Tryz.prog Tryz.f3 Rows.dotsSeenRow.domain false) (Rows.dotsSeenSpec.post enc Tryz.prog Tryz.f3 false true false false) :=
  law_lifted (C := Tryz.checked) (tb := 4) own0 started (by kernel_rfl) Tryz.func3 ⟨#[], #[.slice none 0 0, .slice none 0 0], []⟩ 8 (by kernel_rfl) (by kernel_rfl) (by kernel_rfl) (by kernel_rfl) (by kernel_rfl) laidOut0 rfl (by kernel_rfl)
    (fun ds hds => by match ds, hds with | [d0, d1], _ => rfl) rfl Tryz.underlying4 (fun W base args ds ps hval hA hwt => DotsSeen_walk W base args ds ps hval hA hwt)
theorem DotsSeen_place : Tryz.prog.inPlace 3 = Rows.dotsSeenRow.inPlace := by kernel_rfl
theorem DotsSeen_unf : Tryz.prog.unfollowed 3 = Rows.dotsSeenRow.unfollowed := by kernel_rfl
theorem DotsSeen_rec : Tryz.prog.recurses 3 = Rows.dotsSeenRow.recurses := by kernel_rfl
theorem DotsSeen_named : Tryz.prog.varsNamed 3 = Rows.dotsSeenRow.named := by kernel_rfl
theorem DotsSeen_closed : joinedFacts Tryz.prog 3 Tryz.f3 Rows.dotsSeenSpec Rows.dotsSeenRow = true :=
  closed_of p_make p_lifts p_enter laidOut0 p_rowed p_stops p_knobs p_keys p_heard DotsSeen_place DotsSeen_unf DotsSeen_rec DotsSeen_named (by kernel_rfl)
theorem DotsSeen_nm : Tryz.prog.funcNamed Rows.dotsSeenRow.func = some 3 := by kernel_rfl
theorem DotsSeen_inst : Func.isInstance Tryz.prog Tryz.f3 Rows.dotsSeenRow.origin Rows.dotsSeenRow.targs := of_decide_eq_true (by kernel_rfl)
theorem DotsSeen_wrap : Func.isWrapper Tryz.prog Tryz.f3 Rows.dotsSeenRow.wrapper Rows.dotsSeenRow.mainSum := by unfold Func.isWrapper; (rw [if_neg (by decide +kernel)]; exact ⟨rfl, rfl⟩)
theorem DotsSeen_holds : Rows.DotsSeenSaid :=
  OpenClaim.holds_of_wide 3 Tryz.f3 rfl rfl rfl rfl rfl rfl rfl ⟨rfl, rfl, rfl, rfl, rfl⟩ rfl rfl rfl rfl rfl DotsSeen_nm Tryz.func3 DotsSeen_closed DotsSeen_inst DotsSeen_wrap
    (fun os started H enc _ => DotsSeen_lifted os started H enc)
end Go.Proofs.YtffmanidnlbjjaaGreat
