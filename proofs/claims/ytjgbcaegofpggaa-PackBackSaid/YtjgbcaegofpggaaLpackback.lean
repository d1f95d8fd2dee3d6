/- Contracts of functions, printed by a program of this seat (wip/tools/gen.py) out of its specs. -/
import Derived.Test.YtjgbcaegofpggaaCs
import Derived.Test.YtjgbcaegofpggaaTc
set_option linter.unusedSimpArgs false
set_option linter.unusedVariables false
set_option maxHeartbeats 800000
set_option maxRecDepth 100000
namespace Go.Proofs.Ytjgbcaegofpggaa
open Go.ChangeShapes Go.WideShapes Go.ChangeAt Go.RowKit

theorem PackBack_walk {H : Type} {enc : TypeId × Value → H} (W : World) (base : Nat) (args : Array Value) (ds : List (DataW H)) (ps : List MemPlace)
    (hval : ∀ (j : Nat) t v, Try.f10.params[j]? = some t → args[j]? = some v → Value.okWide Try.prog W .any base t v)
    (hA : DataW.TrodAll enc Try.prog W 0 (fun _ => true) true Try.f10.params.toList args.toList ds ps) (hwt : ∀ x ∈ DataW.weightsEach Try.prog Try.f10.params.toList ds, x ≤ reachBytes) :
    CallR Try.prog 10 args W fun v W' => v = .bool true ∧ Ext W W' := by
  rw [Try.params10] at hA hval hwt
  obtain ⟨v0, v1, v2, d0, d1, d2, p0, p1, p2, rfl, rfl, rfl, h0, h1, h2⟩ := trodAll_three hA
  replace hwt : ∀ x ∈ DataW.weightsEach Try.prog [53, 3, 42] [d0, d1, d2], x ≤ reachBytes := hwt
  obtain ⟨a0, rfl, rfl, rfl, wf0⟩ := open_int Try.underlying53 (hval 0 53 v0 rfl rfl) h0
  replace hwt := rest_weight hwt
  obtain ⟨a1, rfl, rfl, rfl, wf1⟩ := open_int Try.underlying3 (hval 1 3 v1 rfl rfl) h1
  replace hwt := rest_weight hwt
  obtain ⟨A2, n2, c2, l2, rfl, hnc2, hr2, hl2, hw2, hd2⟩ := open_ints Try.underlying42 Try.underlying5 (by kernel_rfl) (hval 2 42 v2 rfl rfl) h2
  have hb2 := slice_weight (by' := 1) Try.underlying42 (by kernel_rfl) hwt hd2
  replace hwt := rest_weight hwt
  have hx := bounds_u64 wf0
  have hz := bounds_i64 wf1
  obtain ⟨x, rfl⟩ := Int.eq_ofNat_of_zero_le hx.1
  exact c_PackBack W x (by omega) a1 hz A2 n2 c2 l2 hr2 hl2 (byt_of_wf hw2) (by simp only [reachBytes] at hb2; omega) hnc2

theorem PackBack_lifted (os : Os) (started : os.Started) (H : Type) (enc : TypeId × Value → H) :
    ReturnsInHanded {} Try.checked os 10 .any (Rows.packBackSpec.pre6 enc Try.prog Try.f10 Rows.packBackRow.domain false) (Rows.packBackSpec.post enc Try.prog Try.f10 false true false false) :=
  law_lifted (C := Try.checked) (tb := 4) own0 started (by kernel_rfl) Try.func10 ⟨#[], #[.int .u64 0, .int .i64 0, .slice none 0 0], []⟩ 8 (by kernel_rfl) (by kernel_rfl) (by kernel_rfl) (by kernel_rfl) (by kernel_rfl) laidOut0 rfl (by kernel_rfl)
    (fun ds hds => by match ds, hds with | [d0, d1, d2], _ => rfl) rfl Try.underlying4 (fun W base args ds ps hval hA hwt => PackBack_walk W base args ds ps hval hA hwt)

theorem PackBack_place : Try.prog.inPlace 10 = Rows.packBackRow.inPlace := by kernel_rfl
theorem PackBack_unf : Try.prog.unfollowed 10 = Rows.packBackRow.unfollowed := by kernel_rfl
theorem PackBack_rec : Try.prog.recurses 10 = Rows.packBackRow.recurses := by kernel_rfl
theorem PackBack_named : Try.prog.varsNamed 10 = Rows.packBackRow.named := by kernel_rfl
theorem PackBack_closed : joinedFacts Try.prog 10 Try.f10 Rows.packBackSpec Rows.packBackRow = true :=
  closed_of p_make p_lifts p_enter laidOut0 p_rowed p_stops p_knobs p_keys p_heard PackBack_place PackBack_unf PackBack_rec PackBack_named (by kernel_rfl)
theorem PackBack_nm : Try.prog.funcNamed Rows.packBackRow.func = some 10 := by kernel_rfl
theorem PackBack_inst : Func.isInstance Try.prog Try.f10 Rows.packBackRow.origin Rows.packBackRow.targs := of_decide_eq_true (by kernel_rfl)
theorem PackBack_wrap : Func.isWrapper Try.prog Try.f10 Rows.packBackRow.wrapper Rows.packBackRow.mainSum := by unfold Func.isWrapper; first | (rw [if_pos (by decide +kernel)]; kernel_rfl) | (rw [if_neg (by decide +kernel)]; exact ⟨rfl, rfl⟩)
theorem PackBack_holds : Rows.PackBackSaid :=
  OpenClaim.holds_of_wide 10 Try.f10 rfl rfl rfl rfl rfl rfl rfl ⟨rfl, rfl, rfl, rfl, rfl⟩ rfl rfl rfl rfl rfl PackBack_nm Try.func10 PackBack_closed PackBack_inst PackBack_wrap
    (fun os started H enc _ => PackBack_lifted os started H enc)
end Go.Proofs.Ytjgbcaegofpggaa
