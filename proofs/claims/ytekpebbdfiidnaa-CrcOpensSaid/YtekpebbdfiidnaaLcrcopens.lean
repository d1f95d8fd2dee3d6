/- Contracts of functions, printed by a program of this seat (wip/tools/gen.py) out of its specs. -/
import Derived.Test.YtekpebbdfiidnaaCf
import Derived.Test.YtekpebbdfiidnaaTb
set_option linter.unusedSimpArgs false
set_option linter.unusedVariables false
set_option maxHeartbeats 2000000
set_option maxRecDepth 100000
namespace Go.Proofs.Ytekpebbdfiidnaa
open Go.ChangeShapes Go.WideShapes Go.ChangeAt Go.RowKit

theorem CrcOpens_walk {H : Type} {enc : TypeId × Value → H} (W : World) (base : Nat) (args : Array Value) (ds : List (DataW H)) (ps : List MemPlace)
    (hval : ∀ (j : Nat) t v, Try.f5.params[j]? = some t → args[j]? = some v → Value.okWide Try.prog W .any base t v)
    (hA : DataW.TrodAll enc Try.prog W 0 (fun _ => true) true Try.f5.params.toList args.toList ds ps) (hwt : ∀ x ∈ DataW.weightsEach Try.prog Try.f5.params.toList ds, x ≤ reachBytes) :
    CallR Try.prog 5 args W fun v W' => v = .bool true ∧ Ext W W' := by
  rw [Try.params5] at hA hval hwt
  obtain ⟨v0, d0, rfl, rfl, h0⟩ := trodAll_one hA
  replace hwt : ∀ x ∈ DataW.weightsEach Try.prog [32] [d0], x ≤ reachBytes := hwt
  obtain ⟨A0, n0, c0, l0, rfl, hnc0, hr0, hl0, hw0, hd0⟩ := open_ints Try.underlying32 Try.underlying5 (by kernel_rfl) (hval 0 32 v0 rfl rfl) h0
  have hb0 := slice_weight (by' := 1) Try.underlying32 (by kernel_rfl) hwt hd0
  replace hwt := rest_weight hwt
  exact c_CrcOpens W A0 n0 c0 l0 hr0 hl0 (byt_of_wf hw0) (by simp only [reachBytes] at hb0; omega) hnc0

theorem CrcOpens_lifted (os : Os) (started : os.Started) (H : Type) (enc : TypeId × Value → H) :
    ReturnsInHanded {} Try.checked os 5 .any (Rows.crcOpensSpec.pre6 enc Try.prog Try.f5 Rows.crcOpensRow.domain false) (Rows.crcOpensSpec.post enc Try.prog Try.f5 false true false false) :=
  law_lifted (C := Try.checked) (tb := 4) own0 started (by kernel_rfl) Try.func5 ⟨#[], #[.slice none 0 0], []⟩ 8 (by kernel_rfl) (by kernel_rfl) (by kernel_rfl) (by kernel_rfl) (by kernel_rfl) laidOut0 rfl (by kernel_rfl)
    (fun ds hds => by match ds, hds with | [d0], _ => rfl) rfl Try.underlying4 (fun W base args ds ps hval hA hwt => CrcOpens_walk W base args ds ps hval hA hwt)

theorem CrcOpens_holds : Rows.CrcOpensSaid :=
  OpenClaim.holds_of_wide 5 Try.f5 rfl rfl rfl rfl rfl rfl rfl ⟨rfl, rfl, rfl, rfl, rfl⟩ rfl rfl rfl rfl rfl (by kernel_rfl) Try.func5 (by kernel_rfl)
    (of_decide_eq_true (by kernel_rfl)) (by unfold Func.isWrapper; first | (rw [if_pos (by decide +kernel)]; kernel_rfl) | (rw [if_neg (by decide +kernel)]; exact ⟨rfl, rfl⟩))
    (fun os started H enc _ => CrcOpens_lifted os started H enc)
end Go.Proofs.Ytekpebbdfiidnaa
