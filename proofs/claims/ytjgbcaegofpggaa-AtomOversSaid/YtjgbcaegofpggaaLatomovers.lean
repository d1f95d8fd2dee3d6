/- Contracts of functions, printed by a program of this seat (wip/tools/gen.py) out of its specs. -/
import Derived.Test.YtjgbcaegofpggaaDd
import Derived.Test.YtjgbcaegofpggaaTc
import Derived.Test.YtjgbcaegofpggaaPopen2
set_option linter.unusedSimpArgs false
set_option linter.unusedVariables false
set_option maxHeartbeats 800000
set_option maxRecDepth 100000
namespace Go.Proofs.Ytjgbcaegofpggaa
open Go.ChangeShapes Go.WideShapes Go.ChangeAt Go.RowKit

theorem AtomOvers_walk {H : Type} {enc : TypeId × Value → H} (W : World) (base : Nat) (args : Array Value) (ds : List (DataW H)) (ps : List MemPlace)
    (hval : ∀ (j : Nat) t v, Try.f19.params[j]? = some t → args[j]? = some v → Value.okWide Try.prog W .any base t v)
    (hA : DataW.TrodAll enc Try.prog W 0 (fun _ => true) true Try.f19.params.toList args.toList ds ps) (hwt : ∀ x ∈ DataW.weightsEach Try.prog Try.f19.params.toList ds, x ≤ reachBytes) :
    CallR Try.prog 19 args W fun v W' => v = .bool true ∧ Ext W W' := by
  rw [Try.params19] at hA hval hwt
  obtain ⟨v0, v1, v2, d0, d1, d2, p0, p1, p2, rfl, rfl, rfl, h0, h1, h2⟩ := trodAll_three hA
  replace hwt : ∀ x ∈ DataW.weightsEach Try.prog [114, 112, 112] [d0, d1, d2], x ≤ reachBytes := hwt
  obtain ⟨cs0, rfl, hk0⟩ := open_flat Try.underlying114 rfl fl114 (hval 0 114 v0 rfl rfl) h0
  replace hwt := rest_weight hwt
  obtain ⟨cs1, rfl, hk1⟩ := open_flat Try.underlying112 rfl fl112 (hval 1 112 v1 rfl rfl) h1
  replace hwt := rest_weight hwt
  obtain ⟨cs2, rfl, hk2⟩ := open_flat Try.underlying112 rfl fl112 (hval 2 112 v2 rfl rfl) h2
  replace hwt := rest_weight hwt
  obtain ⟨a, rfl, ha⟩ := atom_open (show AllOk (atomKs.map LK.int) cs0 from hk0)
  obtain ⟨x, rfl, hx⟩ := val_open (show AllOk (valKs.map LK.int) cs1 from hk1)
  obtain ⟨y, rfl, hy⟩ := val_open (show AllOk (valKs.map LK.int) cs2 from hk2)
  exact c_AtomOvers a ha x y hx hy W

theorem AtomOvers_lifted (os : Os) (started : os.Started) (H : Type) (enc : TypeId × Value → H) :
    ReturnsInHanded {} Try.checked os 19 .any (Rows.atomOversSpec.pre6 enc Try.prog Try.f19 Rows.atomOversRow.domain false) (Rows.atomOversSpec.post enc Try.prog Try.f19 false true false false) :=
  law_lifted (C := Try.checked) (tb := 4) own0 started (by kernel_rfl) Try.func19 ⟨#[], #[.agg #[.int .u8 0, .int .u16 0, .int .u8 0, .int .u8 0, .int .u8 0, .int .u8 0, .int .u8 0, .int .u8 0, .int .u8 0, .int .u8 0, .int .u8 0, .int .u32 0, .int .u64 0, .int .u8 0, .int .u8 0, .int .u8 0, .int .u8 0, .int .u8 0, .int .u8 0, .int .u8 0, .int .u8 0], .agg #[.int .u64 0, .int .u8 0, .int .u8 0, .int .u8 0, .int .u8 0, .int .u8 0, .int .u8 0, .int .u8 0, .int .u8 0], .agg #[.int .u64 0, .int .u8 0, .int .u8 0, .int .u8 0, .int .u8 0, .int .u8 0, .int .u8 0, .int .u8 0, .int .u8 0]], []⟩ 8 (by kernel_rfl) (by kernel_rfl) (by kernel_rfl) (by kernel_rfl) (by kernel_rfl) laidOut0 rfl (by kernel_rfl)
    (fun ds hds => by match ds, hds with | [d0, d1, d2], _ => rfl) rfl Try.underlying4 (fun W base args ds ps hval hA hwt => AtomOvers_walk W base args ds ps hval hA hwt)

theorem AtomOvers_place : Try.prog.inPlace 19 = Rows.atomOversRow.inPlace := by kernel_rfl
theorem AtomOvers_unf : Try.prog.unfollowed 19 = Rows.atomOversRow.unfollowed := by kernel_rfl
theorem AtomOvers_rec : Try.prog.recurses 19 = Rows.atomOversRow.recurses := by kernel_rfl
theorem AtomOvers_named : Try.prog.varsNamed 19 = Rows.atomOversRow.named := by kernel_rfl
theorem AtomOvers_closed : joinedFacts Try.prog 19 Try.f19 Rows.atomOversSpec Rows.atomOversRow = true :=
  closed_of p_make p_lifts p_enter laidOut0 p_rowed p_stops p_knobs p_keys p_heard AtomOvers_place AtomOvers_unf AtomOvers_rec AtomOvers_named (by kernel_rfl)
theorem AtomOvers_nm : Try.prog.funcNamed Rows.atomOversRow.func = some 19 := by kernel_rfl
theorem AtomOvers_inst : Func.isInstance Try.prog Try.f19 Rows.atomOversRow.origin Rows.atomOversRow.targs := of_decide_eq_true (by kernel_rfl)
theorem AtomOvers_wrap : Func.isWrapper Try.prog Try.f19 Rows.atomOversRow.wrapper Rows.atomOversRow.mainSum := by unfold Func.isWrapper; first | (rw [if_pos (by decide +kernel)]; kernel_rfl) | (rw [if_neg (by decide +kernel)]; exact ⟨rfl, rfl⟩)
theorem AtomOvers_holds : Rows.AtomOversSaid :=
  OpenClaim.holds_of_wide 19 Try.f19 rfl rfl rfl rfl rfl rfl rfl ⟨rfl, rfl, rfl, rfl, rfl⟩ rfl rfl rfl rfl rfl AtomOvers_nm Try.func19 AtomOvers_closed AtomOvers_inst AtomOvers_wrap
    (fun os started H enc _ => AtomOvers_lifted os started H enc)
end Go.Proofs.Ytjgbcaegofpggaa
