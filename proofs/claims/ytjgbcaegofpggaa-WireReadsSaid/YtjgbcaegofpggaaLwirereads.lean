/- Contracts of functions, printed by a program of this seat (wip/tools/gen.py) out of its specs. -/
import Derived.Test.YtjgbcaegofpggaaDk
import Derived.Test.YtjgbcaegofpggaaTc
set_option linter.unusedSimpArgs false
set_option linter.unusedVariables false
set_option maxHeartbeats 800000
set_option maxRecDepth 100000
namespace Go.Proofs.Ytjgbcaegofpggaa
open Go.ChangeShapes Go.WideShapes Go.ChangeAt Go.RowKit

theorem WireReads_walk {H : Type} {enc : TypeId × Value → H} (W : World) (base : Nat) (args : Array Value) (ds : List (DataW H)) (ps : List MemPlace)
    (hval : ∀ (j : Nat) t v, Try.f12.params[j]? = some t → args[j]? = some v → Value.okWide Try.prog W .any base t v)
    (hA : DataW.TrodAll enc Try.prog W 0 (fun _ => true) true Try.f12.params.toList args.toList ds ps) (hwt : ∀ x ∈ DataW.weightsEach Try.prog Try.f12.params.toList ds, x ≤ reachBytes) :
    CallR Try.prog 12 args W fun v W' => v = .bool true ∧ Ext W W' := by
  rw [Try.params12] at hA hval hwt
  obtain ⟨v0, v1, d0, d1, p0, p1, rfl, rfl, rfl, h0, h1⟩ := trodAll_two hA
  replace hwt : ∀ x ∈ DataW.weightsEach Try.prog [42, 64] [d0, d1], x ≤ reachBytes := hwt
  obtain ⟨A0, n0, c0, l0, rfl, hnc0, hr0, hl0, hw0, hd0⟩ := open_ints Try.underlying42 Try.underlying5 (by kernel_rfl) (hval 0 42 v0 rfl rfl) h0
  have hb0 := slice_weight (by' := 1) Try.underlying42 (by kernel_rfl) hwt hd0
  replace hwt := rest_weight hwt
  obtain ⟨A1, n1, c1, xs1, rfl, hnc1, hcm1, hr1, hok1, hd1⟩ := open_slice Try.underlying64 fl72 (sz := 13) rfl (by kernel_rfl) (by decide) (hval 1 64 v1 rfl rfl) h1
  have hb1 := slice_weight (by' := 64) Try.underlying64 (by kernel_rfl) hwt hd1
  replace hwt := rest_weight hwt
  obtain ⟨ps, hpl, rfl, hps⟩ := rows_open (cells := pcL) (sz := 13) (fun cs h => pc_open (show AllOk W pcKs cs from h)) n1 xs1 hr1.1 hok1
  simp only [reachBytes] at hb0 hb1
  subst hl0
  exact c_WireReads W A0 c0 l0 hr0 (byt_of_wf hw0) hnc0 (by omega) A1 n1 c1 ps hr1 hpl hps hnc1 (by omega)

theorem WireReads_lifted (os : Os) (started : os.Started) (H : Type) (enc : TypeId × Value → H) :
    ReturnsInHanded {} Try.checked os 12 .any (Rows.wireReadsSpec.pre6 enc Try.prog Try.f12 Rows.wireReadsRow.domain false) (Rows.wireReadsSpec.post enc Try.prog Try.f12 false true false false) :=
  law_lifted (C := Try.checked) (tb := 4) own0 started (by kernel_rfl) Try.func12 ⟨#[], #[.slice none 0 0, .slice none 0 0], []⟩ 8 (by kernel_rfl) (by kernel_rfl) (by kernel_rfl) (by kernel_rfl) (by kernel_rfl) laidOut0 rfl (by kernel_rfl)
    (fun ds hds => by match ds, hds with | [d0, d1], _ => rfl) rfl Try.underlying4 (fun W base args ds ps hval hA hwt => WireReads_walk W base args ds ps hval hA hwt)

theorem WireReads_place : Try.prog.inPlace 12 = Rows.wireReadsRow.inPlace := by kernel_rfl
theorem WireReads_unf : Try.prog.unfollowed 12 = Rows.wireReadsRow.unfollowed := by kernel_rfl
theorem WireReads_rec : Try.prog.recurses 12 = Rows.wireReadsRow.recurses := by kernel_rfl
theorem WireReads_named : Try.prog.varsNamed 12 = Rows.wireReadsRow.named := by kernel_rfl
theorem WireReads_closed : joinedFacts Try.prog 12 Try.f12 Rows.wireReadsSpec Rows.wireReadsRow = true :=
  closed_of p_make p_lifts p_enter laidOut0 p_rowed p_stops p_knobs p_keys p_heard WireReads_place WireReads_unf WireReads_rec WireReads_named (by kernel_rfl)
theorem WireReads_nm : Try.prog.funcNamed Rows.wireReadsRow.func = some 12 := by kernel_rfl
theorem WireReads_inst : Func.isInstance Try.prog Try.f12 Rows.wireReadsRow.origin Rows.wireReadsRow.targs := of_decide_eq_true (by kernel_rfl)
theorem WireReads_wrap : Func.isWrapper Try.prog Try.f12 Rows.wireReadsRow.wrapper Rows.wireReadsRow.mainSum := by unfold Func.isWrapper; first | (rw [if_pos (by decide +kernel)]; kernel_rfl) | (rw [if_neg (by decide +kernel)]; exact ⟨rfl, rfl⟩)
theorem WireReads_holds : Rows.WireReadsSaid :=
  OpenClaim.holds_of_wide 12 Try.f12 rfl rfl rfl rfl rfl rfl rfl ⟨rfl, rfl, rfl, rfl, rfl⟩ rfl rfl rfl rfl rfl WireReads_nm Try.func12 WireReads_closed WireReads_inst WireReads_wrap
    (fun os started H enc _ => WireReads_lifted os started H enc)
end Go.Proofs.Ytjgbcaegofpggaa
