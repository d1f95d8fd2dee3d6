/- Contracts of functions, printed by a program of this seat (wip/tools/gen.py) out of its specs. -/
import Derived.Test.YtjgbcaegofpggaaCs
import Derived.Test.YtjgbcaegofpggaaTc
set_option linter.unusedSimpArgs false
set_option linter.unusedVariables false
set_option maxHeartbeats 800000
set_option maxRecDepth 100000
namespace Go.Proofs.Ytjgbcaegofpggaa
open Go.ChangeShapes Go.WideShapes Go.ChangeAt Go.RowKit

theorem PackVars_walk {H : Type} {enc : TypeId × Value → H} (W : World) (base : Nat) (args : Array Value) (ds : List (DataW H)) (ps : List MemPlace)
    (hval : ∀ (j : Nat) t v, Try.f8.params[j]? = some t → args[j]? = some v → Value.okWide Try.prog W .any base t v)
    (hA : DataW.TrodAll enc Try.prog W 0 (fun _ => true) true Try.f8.params.toList args.toList ds ps) (hwt : ∀ x ∈ DataW.weightsEach Try.prog Try.f8.params.toList ds, x ≤ reachBytes) :
    CallR Try.prog 8 args W fun v W' => v = .bool true ∧ Ext W W' := by
  rw [Try.params8] at hA hval hwt
  obtain ⟨v0, v1, d0, d1, p0, p1, rfl, rfl, rfl, h0, h1⟩ := trodAll_two hA
  replace hwt : ∀ x ∈ DataW.weightsEach Try.prog [53, 42] [d0, d1], x ≤ reachBytes := hwt
  obtain ⟨a0, rfl, rfl, rfl, wf0⟩ := open_int Try.underlying53 (hval 0 53 v0 rfl rfl) h0
  replace hwt := rest_weight hwt
  obtain ⟨A1, n1, c1, l1, rfl, hnc1, hr1, hl1, hw1, hd1⟩ := open_ints Try.underlying42 Try.underlying5 (by kernel_rfl) (hval 1 42 v1 rfl rfl) h1
  have hb1 := slice_weight (by' := 1) Try.underlying42 (by kernel_rfl) hwt hd1
  replace hwt := rest_weight hwt
  have hx := bounds_u64 wf0
  obtain ⟨x, rfl⟩ := Int.eq_ofNat_of_zero_le hx.1
  exact c_PackVars W x (by omega) A1 n1 c1 l1 hr1 hl1 (byt_of_wf hw1) (by simp only [reachBytes] at hb1; omega) hnc1

theorem PackVars_lifted (os : Os) (started : os.Started) (H : Type) (enc : TypeId × Value → H) :
    ReturnsInHanded {} Try.checked os 8 .any (Rows.packVarsSpec.pre6 enc Try.prog Try.f8 Rows.packVarsRow.domain false) (Rows.packVarsSpec.post enc Try.prog Try.f8 false true false false) :=
  law_lifted (C := Try.checked) (tb := 4) own0 started (by kernel_rfl) Try.func8 ⟨#[], #[.int .u64 0, .slice none 0 0], []⟩ 8 (by kernel_rfl) (by kernel_rfl) (by kernel_rfl) (by kernel_rfl) (by kernel_rfl) laidOut0 rfl (by kernel_rfl)
    (fun ds hds => by match ds, hds with | [d0, d1], _ => rfl) rfl Try.underlying4 (fun W base args ds ps hval hA hwt => PackVars_walk W base args ds ps hval hA hwt)

theorem PackVars_place : Try.prog.inPlace 8 = Rows.packVarsRow.inPlace := by kernel_rfl
theorem PackVars_unf : Try.prog.unfollowed 8 = Rows.packVarsRow.unfollowed := by kernel_rfl
theorem PackVars_rec : Try.prog.recurses 8 = Rows.packVarsRow.recurses := by kernel_rfl
theorem PackVars_named : Try.prog.varsNamed 8 = Rows.packVarsRow.named := by kernel_rfl
theorem PackVars_closed : joinedFacts Try.prog 8 Try.f8 Rows.packVarsSpec Rows.packVarsRow = true :=
  closed_of p_make p_lifts p_enter laidOut0 p_rowed p_stops p_knobs p_keys p_heard PackVars_place PackVars_unf PackVars_rec PackVars_named (by kernel_rfl)
theorem PackVars_nm : Try.prog.funcNamed Rows.packVarsRow.func = some 8 := by kernel_rfl
theorem PackVars_inst : Func.isInstance Try.prog Try.f8 Rows.packVarsRow.origin Rows.packVarsRow.targs := of_decide_eq_true (by kernel_rfl)
theorem PackVars_wrap : Func.isWrapper Try.prog Try.f8 Rows.packVarsRow.wrapper Rows.packVarsRow.mainSum := by unfold Func.isWrapper; first | (rw [if_pos (by decide +kernel)]; kernel_rfl) | (rw [if_neg (by decide +kernel)]; exact ⟨rfl, rfl⟩)
theorem PackVars_holds : Rows.PackVarsSaid :=
  OpenClaim.holds_of_wide 8 Try.f8 rfl rfl rfl rfl rfl rfl rfl ⟨rfl, rfl, rfl, rfl, rfl⟩ rfl rfl rfl rfl rfl PackVars_nm Try.func8 PackVars_closed PackVars_inst PackVars_wrap
    (fun os started H enc _ => PackVars_lifted os started H enc)
end Go.Proofs.Ytjgbcaegofpggaa
