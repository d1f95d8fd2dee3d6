/- Contracts of functions, printed by a program of this seat (wip/tools/gen.py) out of its specs. -/
import Derived.Test.YtjgbcaegofpggaaDc
import Derived.Test.YtjgbcaegofpggaaTc
set_option linter.unusedSimpArgs false
set_option linter.unusedVariables false
set_option maxHeartbeats 800000
set_option maxRecDepth 100000
namespace Go.Proofs.Ytjgbcaegofpggaa
open Go.ChangeShapes Go.WideShapes Go.ChangeAt Go.RowKit

theorem AtomStamps_walk {H : Type} {enc : TypeId × Value → H} (W : World) (base : Nat) (args : Array Value) (ds : List (DataW H)) (ps : List MemPlace)
    (hval : ∀ (j : Nat) t v, Try.f18.params[j]? = some t → args[j]? = some v → Value.okWide Try.prog W .any base t v)
    (hA : DataW.TrodAll enc Try.prog W 0 (fun _ => true) true Try.f18.params.toList args.toList ds ps) (hwt : ∀ x ∈ DataW.weightsEach Try.prog Try.f18.params.toList ds, x ≤ reachBytes) :
    CallR Try.prog 18 args W fun v W' => v = .bool true ∧ Ext W W' := by
  rw [Try.params18] at hA hval hwt
  obtain ⟨v0, v1, v2, d0, d1, d2, p0, p1, p2, rfl, rfl, rfl, h0, h1, h2⟩ := trodAll_three hA
  replace hwt : ∀ x ∈ DataW.weightsEach Try.prog [22, 5, 53] [d0, d1, d2], x ≤ reachBytes := hwt
  obtain ⟨a0, rfl, rfl, rfl, wf0⟩ := open_int Try.underlying22 (hval 0 22 v0 rfl rfl) h0
  replace hwt := rest_weight hwt
  obtain ⟨a1, rfl, rfl, rfl, wf1⟩ := open_int Try.underlying5 (hval 1 5 v1 rfl rfl) h1
  replace hwt := rest_weight hwt
  obtain ⟨a2, rfl, rfl, rfl, wf2⟩ := open_int Try.underlying53 (hval 2 53 v2 rfl rfl) h2
  replace hwt := rest_weight hwt
  have h0 := bounds_u32 wf0
  have h1 := bounds_u8 wf1
  have h2 := bounds_u64 wf2
  obtain ⟨n, rfl⟩ := Int.eq_ofNat_of_zero_le h0.1
  obtain ⟨r, rfl⟩ := Int.eq_ofNat_of_zero_le h1.1
  obtain ⟨x, rfl⟩ := Int.eq_ofNat_of_zero_le h2.1
  exact c_AtomStamps n r x (by omega) (by omega) (by omega) W

theorem AtomStamps_lifted (os : Os) (started : os.Started) (H : Type) (enc : TypeId × Value → H) :
    ReturnsInHanded {} Try.checked os 18 .any (Rows.atomStampsSpec.pre6 enc Try.prog Try.f18 Rows.atomStampsRow.domain false) (Rows.atomStampsSpec.post enc Try.prog Try.f18 false true false false) :=
  law_lifted (C := Try.checked) (tb := 4) own0 started (by kernel_rfl) Try.func18 ⟨#[], #[.int .u32 0, .int .u8 0, .int .u64 0], []⟩ 8 (by kernel_rfl) (by kernel_rfl) (by kernel_rfl) (by kernel_rfl) (by kernel_rfl) laidOut0 rfl (by kernel_rfl)
    (fun ds hds => by match ds, hds with | [d0, d1, d2], _ => rfl) rfl Try.underlying4 (fun W base args ds ps hval hA hwt => AtomStamps_walk W base args ds ps hval hA hwt)

theorem AtomStamps_place : Try.prog.inPlace 18 = Rows.atomStampsRow.inPlace := by kernel_rfl
theorem AtomStamps_unf : Try.prog.unfollowed 18 = Rows.atomStampsRow.unfollowed := by kernel_rfl
theorem AtomStamps_rec : Try.prog.recurses 18 = Rows.atomStampsRow.recurses := by kernel_rfl
theorem AtomStamps_named : Try.prog.varsNamed 18 = Rows.atomStampsRow.named := by kernel_rfl
theorem AtomStamps_closed : joinedFacts Try.prog 18 Try.f18 Rows.atomStampsSpec Rows.atomStampsRow = true :=
  closed_of p_make p_lifts p_enter laidOut0 p_rowed p_stops p_knobs p_keys p_heard AtomStamps_place AtomStamps_unf AtomStamps_rec AtomStamps_named (by kernel_rfl)
theorem AtomStamps_nm : Try.prog.funcNamed Rows.atomStampsRow.func = some 18 := by kernel_rfl
theorem AtomStamps_inst : Func.isInstance Try.prog Try.f18 Rows.atomStampsRow.origin Rows.atomStampsRow.targs := of_decide_eq_true (by kernel_rfl)
theorem AtomStamps_wrap : Func.isWrapper Try.prog Try.f18 Rows.atomStampsRow.wrapper Rows.atomStampsRow.mainSum := by unfold Func.isWrapper; first | (rw [if_pos (by decide +kernel)]; kernel_rfl) | (rw [if_neg (by decide +kernel)]; exact ⟨rfl, rfl⟩)
theorem AtomStamps_holds : Rows.AtomStampsSaid :=
  OpenClaim.holds_of_wide 18 Try.f18 rfl rfl rfl rfl rfl rfl rfl ⟨rfl, rfl, rfl, rfl, rfl⟩ rfl rfl rfl rfl rfl AtomStamps_nm Try.func18 AtomStamps_closed AtomStamps_inst AtomStamps_wrap
    (fun os started H enc _ => AtomStamps_lifted os started H enc)
end Go.Proofs.Ytjgbcaegofpggaa
