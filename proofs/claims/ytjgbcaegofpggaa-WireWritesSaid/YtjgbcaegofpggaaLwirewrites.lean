/- Contracts of functions, printed by a program of this seat (wip/tools/gen.py) out of its specs. -/
import Derived.Test.YtjgbcaegofpggaaDh
import Derived.Test.YtjgbcaegofpggaaTc
set_option linter.unusedSimpArgs false
set_option linter.unusedVariables false
set_option maxHeartbeats 800000
set_option maxRecDepth 100000
namespace Go.Proofs.Ytjgbcaegofpggaa
open Go.ChangeShapes Go.WideShapes Go.ChangeAt Go.RowKit

theorem WireWrites_walk {H : Type} {enc : TypeId × Value → H} (W : World) (base : Nat) (args : Array Value) (ds : List (DataW H)) (ps : List MemPlace)
    (hval : ∀ (j : Nat) t v, Try.f11.params[j]? = some t → args[j]? = some v → Value.okWide Try.prog W .any base t v)
    (hA : DataW.TrodAll enc Try.prog W 0 (fun _ => true) true Try.f11.params.toList args.toList ds ps) (hwt : ∀ x ∈ DataW.weightsEach Try.prog Try.f11.params.toList ds, x ≤ reachBytes) :
    CallR Try.prog 11 args W fun v W' => v = .bool true ∧ Ext W W' := by
  rw [Try.params11] at hA hval hwt
  obtain ⟨v0, d0, rfl, rfl, h0⟩ := trodAll_one hA
  replace hwt : ∀ x ∈ DataW.weightsEach Try.prog [64] [d0], x ≤ reachBytes := hwt
  obtain ⟨A0, n0, c0, xs0, rfl, hnc0, hcm0, hr0, hok0, hd0⟩ := open_slice Try.underlying64 fl72 (sz := 13) rfl (by kernel_rfl) (by decide) (hval 0 64 v0 rfl rfl) h0
  have hb0 := slice_weight (by' := 64) Try.underlying64 (by kernel_rfl) hwt hd0
  replace hwt := rest_weight hwt
  obtain ⟨ps, hpl, rfl, hps⟩ := rows_open (cells := pcL) (sz := 13) (fun cs h => pc_open (show AllOk W pcKs cs from h)) n0 xs0 hr0.1 hok0
  exact c_WireWrites W A0 n0 c0 ps hr0 hpl hps hnc0 (by simp only [reachBytes] at hb0; omega)

theorem WireWrites_lifted (os : Os) (started : os.Started) (H : Type) (enc : TypeId × Value → H) :
    ReturnsInHanded {} Try.checked os 11 .any (Rows.wireWritesSpec.pre6 enc Try.prog Try.f11 Rows.wireWritesRow.domain false) (Rows.wireWritesSpec.post enc Try.prog Try.f11 false true false false) :=
  law_lifted (C := Try.checked) (tb := 4) own0 started (by kernel_rfl) Try.func11 ⟨#[], #[.slice none 0 0], []⟩ 8 (by kernel_rfl) (by kernel_rfl) (by kernel_rfl) (by kernel_rfl) (by kernel_rfl) laidOut0 rfl (by kernel_rfl)
    (fun ds hds => by match ds, hds with | [d0], _ => rfl) rfl Try.underlying4 (fun W base args ds ps hval hA hwt => WireWrites_walk W base args ds ps hval hA hwt)

theorem WireWrites_place : Try.prog.inPlace 11 = Rows.wireWritesRow.inPlace := by kernel_rfl
theorem WireWrites_unf : Try.prog.unfollowed 11 = Rows.wireWritesRow.unfollowed := by kernel_rfl
theorem WireWrites_rec : Try.prog.recurses 11 = Rows.wireWritesRow.recurses := by kernel_rfl
theorem WireWrites_named : Try.prog.varsNamed 11 = Rows.wireWritesRow.named := by kernel_rfl
theorem WireWrites_closed : joinedFacts Try.prog 11 Try.f11 Rows.wireWritesSpec Rows.wireWritesRow = true :=
  closed_of p_make p_lifts p_enter laidOut0 p_rowed p_stops p_knobs p_keys p_heard WireWrites_place WireWrites_unf WireWrites_rec WireWrites_named (by kernel_rfl)
theorem WireWrites_nm : Try.prog.funcNamed Rows.wireWritesRow.func = some 11 := by kernel_rfl
theorem WireWrites_inst : Func.isInstance Try.prog Try.f11 Rows.wireWritesRow.origin Rows.wireWritesRow.targs := of_decide_eq_true (by kernel_rfl)
theorem WireWrites_wrap : Func.isWrapper Try.prog Try.f11 Rows.wireWritesRow.wrapper Rows.wireWritesRow.mainSum := by unfold Func.isWrapper; first | (rw [if_pos (by decide +kernel)]; kernel_rfl) | (rw [if_neg (by decide +kernel)]; exact ⟨rfl, rfl⟩)
theorem WireWrites_holds : Rows.WireWritesSaid :=
  OpenClaim.holds_of_wide 11 Try.f11 rfl rfl rfl rfl rfl rfl rfl ⟨rfl, rfl, rfl, rfl, rfl⟩ rfl rfl rfl rfl rfl WireWrites_nm Try.func11 WireWrites_closed WireWrites_inst WireWrites_wrap
    (fun os started H enc _ => WireWrites_lifted os started H enc)
end Go.Proofs.Ytjgbcaegofpggaa
