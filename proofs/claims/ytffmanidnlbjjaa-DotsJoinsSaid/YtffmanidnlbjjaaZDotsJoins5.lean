/- The statement dotsjoins holds: its own theorem, over the walks in the files before. -/
import Derived.Test.YtffmanidnlbjjaaZDotsJoins4
set_option linter.unusedSimpArgs false
set_option linter.unusedVariables false
set_option linter.unusedSimpArgs false
set_option linter.unusedVariables false
set_option maxHeartbeats 800000
set_option maxRecDepth 100000
namespace Go.Proofs.Ytffmanidnlbjjaa
open Go.ChangeShapes Go.WideShapes Go.ChangeAt Go.RowKit
theorem DotsJoins_walk {H : Type} {enc : TypeId × Value → H} (W : World) (base : Nat) (args : Array Value) (ds : List (DataW H)) (ps : List MemPlace)
    (hval : ∀ (j : Nat) t v, Try.f8.params[j]? = some t → args[j]? = some v → Value.okWide Try.prog W .any base t v)
    (hA : DataW.TrodAll enc Try.prog W 0 (fun _ => true) true Try.f8.params.toList args.toList ds ps) (hwt : ∀ x ∈ DataW.weightsEach Try.prog Try.f8.params.toList ds, x ≤ reachBytes) :
    CallR Try.prog 8 args W fun v W' => v = .bool true ∧ Ext W W' := by
  rw [Try.params8] at hA hval hwt
  obtain ⟨v0, v1, d0, d1, p0, p1, rfl, rfl, rfl, h0, h1⟩ := trodAll_two hA
  replace hwt : ∀ x ∈ DataW.weightsEach Try.prog [67, 67] [d0, d1], x ≤ reachBytes := hwt
  obtain ⟨cs0, rfl, hk0⟩ := open_flat Try.underlying67 rfl fl67 (hval 0 67 v0 rfl rfl) h0
  replace hwt := rest_weight hwt
  obtain ⟨cs1, rfl, hk1⟩ := open_flat Try.underlying67 rfl fl67 (hval 1 67 v1 rfl rfl) h1
  replace hwt := rest_weight hwt
  obtain ⟨x, A, c, cl, rfl, hx, hr, hu⟩ := set_open hk0
  obtain ⟨y, B, d, cm, rfl, hy, hr2, hu2⟩ := set_open hk1
  exact c_DotsJoins W x y hx hy A c cl hr hu B d cm hr2 hu2
theorem DotsJoins_lifted (os : Os) (started : os.Started) (H : Type) (enc : TypeId × Value → H) :
    ReturnsInHanded {} Try.checked os 8 .any (Rows.dotsJoinsSpec.pre6 enc Try.prog Try.f8 Rows.dotsJoinsRow.domain false) (Rows.dotsJoinsSpec.post enc Try.prog Try.f8 false true false false) :=
  law_lifted (C := Try.checked) (tb := 4) own0 started (by kernel_rfl) Try.func8 ⟨#[], #[.agg #[.int .u32 0, .int .u32 0, .int .u32 0, .int .u32 0, .int .u32 0, .int .u32 0, .int .u32 0, .int .u32 0, .int .u32 0, .int .u32 0, .int .u32 0, .int .u32 0, .int .u32 0, .int .u32 0, .int .u32 0, .int .u32 0, .slice none 0 0], .agg #[.int .u32 0, .int .u32 0, .int .u32 0, .int .u32 0, .int .u32 0, .int .u32 0, .int .u32 0, .int .u32 0, .int .u32 0, .int .u32 0, .int .u32 0, .int .u32 0, .int .u32 0, .int .u32 0, .int .u32 0, .int .u32 0, .slice none 0 0]], []⟩ 8 (by kernel_rfl) (by kernel_rfl) (by kernel_rfl) (by kernel_rfl) (by kernel_rfl) laidOut0 rfl (by kernel_rfl)
    (fun ds hds => by match ds, hds with | [d0, d1], _ => rfl) rfl Try.underlying4 (fun W base args ds ps hval hA hwt => DotsJoins_walk W base args ds ps hval hA hwt)
theorem DotsJoins_place : Try.prog.inPlace 8 = Rows.dotsJoinsRow.inPlace := by kernel_rfl
theorem DotsJoins_unf : Try.prog.unfollowed 8 = Rows.dotsJoinsRow.unfollowed := by kernel_rfl
theorem DotsJoins_rec : Try.prog.recurses 8 = Rows.dotsJoinsRow.recurses := by kernel_rfl
theorem DotsJoins_named : Try.prog.varsNamed 8 = Rows.dotsJoinsRow.named := by kernel_rfl
theorem DotsJoins_closed : joinedFacts Try.prog 8 Try.f8 Rows.dotsJoinsSpec Rows.dotsJoinsRow = true :=
  closed_of p_make p_lifts p_enter laidOut0 p_rowed p_stops p_knobs p_keys p_heard DotsJoins_place DotsJoins_unf DotsJoins_rec DotsJoins_named (by kernel_rfl)
theorem DotsJoins_nm : Try.prog.funcNamed Rows.dotsJoinsRow.func = some 8 := by kernel_rfl
theorem DotsJoins_inst : Func.isInstance Try.prog Try.f8 Rows.dotsJoinsRow.origin Rows.dotsJoinsRow.targs := of_decide_eq_true (by kernel_rfl)
theorem DotsJoins_wrap : Func.isWrapper Try.prog Try.f8 Rows.dotsJoinsRow.wrapper Rows.dotsJoinsRow.mainSum := by unfold Func.isWrapper; (rw [if_neg (by decide +kernel)]; exact ⟨rfl, rfl⟩)
theorem DotsJoins_holds : Rows.DotsJoinsSaid :=
  OpenClaim.holds_of_wide 8 Try.f8 rfl rfl rfl rfl rfl rfl rfl ⟨rfl, rfl, rfl, rfl, rfl⟩ rfl rfl rfl rfl rfl DotsJoins_nm Try.func8 DotsJoins_closed DotsJoins_inst DotsJoins_wrap
    (fun os started H enc _ => DotsJoins_lifted os started H enc)
end Go.Proofs.Ytffmanidnlbjjaa
