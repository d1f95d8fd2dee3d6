/- Contracts of functions, printed by a program of this seat (wip/tools/gen.py) out of its specs. -/
import Derived.Test.YtjgbcaegofpggaaCg
import Derived.Test.YtjgbcaegofpggaaTc
set_option linter.unusedSimpArgs false
set_option linter.unusedVariables false
set_option maxHeartbeats 2000000
set_option maxRecDepth 100000
namespace Go.Proofs.Ytjgbcaegofpggaa
open Go.ChangeShapes Go.WideShapes Go.ChangeAt Go.RowKit

theorem CrcTells_walk {H : Type} {enc : TypeId × Value → H} (W : World) (base : Nat) (args : Array Value) (ds : List (DataW H)) (ps : List MemPlace)
    (hval : ∀ (j : Nat) t v, Try.f7.params[j]? = some t → args[j]? = some v → Value.okWide Try.prog W .any base t v)
    (hA : DataW.TrodAll enc Try.prog W 0 (fun _ => true) true Try.f7.params.toList args.toList ds ps) (hwt : ∀ x ∈ DataW.weightsEach Try.prog Try.f7.params.toList ds, x ≤ reachBytes) :
    CallR Try.prog 7 args W fun v W' => v = .bool true ∧ Ext W W' := by
  rw [Try.params7] at hA hval hwt
  obtain ⟨v0, v1, v2, d0, d1, d2, p0, p1, p2, rfl, rfl, rfl, h0, h1, h2⟩ := trodAll_three hA
  replace hwt : ∀ x ∈ DataW.weightsEach Try.prog [42, 3, 43] [d0, d1, d2], x ≤ reachBytes := hwt
  obtain ⟨A0, n0, c0, l0, rfl, hnc0, hr0, hl0, hw0, hd0⟩ := open_ints Try.underlying42 Try.underlying5 (by kernel_rfl) (hval 0 42 v0 rfl rfl) h0
  have hb0 := slice_weight (by' := 1) Try.underlying42 (by kernel_rfl) hwt hd0
  replace hwt := rest_weight hwt
  obtain ⟨a1, rfl, rfl, rfl, wf1⟩ := open_int Try.underlying3 (hval 1 3 v1 rfl rfl) h1
  replace hwt := rest_weight hwt
  obtain ⟨a2, rfl, rfl, rfl, wf2⟩ := open_int Try.underlying43 (hval 2 43 v2 rfl rfl) h2
  replace hwt := rest_weight hwt
  have hz := bounds_i64 wf1
  have ht := bounds_u16 wf2
  obtain ⟨t, rfl⟩ := Int.eq_ofNat_of_zero_le ht.1
  exact c_CrcTells W A0 n0 c0 l0 hr0 hl0 (byt_of_wf hw0) (by simp only [reachBytes] at hb0; omega) hnc0 a1 hz.1 hz.2 t (by omega)

theorem CrcTells_lifted (os : Os) (started : os.Started) (H : Type) (enc : TypeId × Value → H) :
    ReturnsInHanded {} Try.checked os 7 .any (Rows.crcTellsSpec.pre6 enc Try.prog Try.f7 Rows.crcTellsRow.domain false) (Rows.crcTellsSpec.post enc Try.prog Try.f7 false true false false) :=
  law_lifted (C := Try.checked) (tb := 4) own0 started (by kernel_rfl) Try.func7 ⟨#[], #[.slice none 0 0, .int .i64 0, .int .u16 0], []⟩ 8 (by kernel_rfl) (by kernel_rfl) (by kernel_rfl) (by kernel_rfl) (by kernel_rfl) laidOut0 rfl (by kernel_rfl)
    (fun ds hds => by match ds, hds with | [d0, d1, d2], _ => rfl) rfl Try.underlying4 (fun W base args ds ps hval hA hwt => CrcTells_walk W base args ds ps hval hA hwt)

theorem CrcTells_place : Try.prog.inPlace 7 = Rows.crcTellsRow.inPlace := by kernel_rfl
theorem CrcTells_unf : Try.prog.unfollowed 7 = Rows.crcTellsRow.unfollowed := by kernel_rfl
theorem CrcTells_rec : Try.prog.recurses 7 = Rows.crcTellsRow.recurses := by kernel_rfl
theorem CrcTells_named : Try.prog.varsNamed 7 = Rows.crcTellsRow.named := by kernel_rfl
theorem CrcTells_closed : joinedFacts Try.prog 7 Try.f7 Rows.crcTellsSpec Rows.crcTellsRow = true :=
  closed_of p_make p_lifts p_enter laidOut0 p_rowed p_stops p_knobs p_keys p_heard CrcTells_place CrcTells_unf CrcTells_rec CrcTells_named (by kernel_rfl)
theorem CrcTells_nm : Try.prog.funcNamed Rows.crcTellsRow.func = some 7 := by kernel_rfl
theorem CrcTells_inst : Func.isInstance Try.prog Try.f7 Rows.crcTellsRow.origin Rows.crcTellsRow.targs := of_decide_eq_true (by kernel_rfl)
theorem CrcTells_wrap : Func.isWrapper Try.prog Try.f7 Rows.crcTellsRow.wrapper Rows.crcTellsRow.mainSum := by unfold Func.isWrapper; first | (rw [if_pos (by decide +kernel)]; kernel_rfl) | (rw [if_neg (by decide +kernel)]; exact ⟨rfl, rfl⟩)
theorem CrcTells_holds : Rows.CrcTellsSaid :=
  OpenClaim.holds_of_wide 7 Try.f7 rfl rfl rfl rfl rfl rfl rfl ⟨rfl, rfl, rfl, rfl, rfl⟩ rfl rfl rfl rfl rfl CrcTells_nm Try.func7 CrcTells_closed CrcTells_inst CrcTells_wrap
    (fun os started H enc _ => CrcTells_lifted os started H enc)
end Go.Proofs.Ytjgbcaegofpggaa
