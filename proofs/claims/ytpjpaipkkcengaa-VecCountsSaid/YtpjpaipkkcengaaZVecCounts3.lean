/- The statement veccounts holds: its own theorem, over the walks in the files before. -/
import Derived.Test.YtpjpaipkkcengaaZVecCounts2
set_option linter.unusedSimpArgs false
set_option linter.unusedVariables false
set_option linter.unusedSimpArgs false
set_option linter.unusedVariables false
set_option maxHeartbeats 800000
set_option maxRecDepth 100000
namespace Go.Proofs.Ytpjpaipkkcengaa
open Go.ChangeShapes Go.WideShapes Go.ChangeAt Go.RowKit
theorem VecCounts_walk {H : Type} {enc : TypeId × Value → H} (W : World) (base : Nat) (args : Array Value) (ds : List (DataW H)) (ps : List MemPlace)
    (hval : ∀ (j : Nat) t v, Try.f3.params[j]? = some t → args[j]? = some v → Value.okWide Try.prog W .any base t v)
    (hA : DataW.TrodAll enc Try.prog W 0 (fun _ => true) true Try.f3.params.toList args.toList ds ps) (hwt : ∀ x ∈ DataW.weightsEach Try.prog Try.f3.params.toList ds, x ≤ reachBytes) :
    CallR Try.prog 3 args W fun v W' => v = .bool true ∧ Ext W W' := by
  rw [Try.params3] at hA hval hwt
  obtain ⟨v0, d0, rfl, rfl, h0⟩ := trodAll_one hA
  replace hwt : ∀ x ∈ DataW.weightsEach Try.prog [22] [d0], x ≤ reachBytes := hwt
  obtain ⟨A0, n0, c0, xs0, rfl, hnc0, hcm0, hr0, hok0, hd0⟩ := open_slice Try.underlying22 fl26 (sz := 16) rfl (by kernel_rfl) (by decide) (hval 0 22 v0 rfl rfl) h0
  have hb0 := slice_weight (by' := 64) Try.underlying22 (by kernel_rfl) hwt hd0
  replace hwt := rest_weight hwt
  obtain ⟨l, hl, rfl, hok⟩ := rowsZ_open (ks := (List.replicate 16 IntKind.u32)) (by simpa using hr0.1) hok0
  exact c_VecCounts W A0 n0 c0 l hr0 hl (fun x hx => by simpa using (hok x hx).1) (by simp only [reachBytes] at hb0; omega) hnc0
theorem VecCounts_lifted (os : Os) (started : os.Started) (H : Type) (enc : TypeId × Value → H) :
    ReturnsInHanded {} Try.checked os 3 .any (Rows.vecCountsSpec.pre6 enc Try.prog Try.f3 Rows.vecCountsRow.domain false) (Rows.vecCountsSpec.post enc Try.prog Try.f3 false true false false) :=
  law_lifted (C := Try.checked) (tb := 4) own0 started (by kernel_rfl) Try.func3 ⟨#[], #[.slice none 0 0], []⟩ 8 (by kernel_rfl) (by kernel_rfl) (by kernel_rfl) (by kernel_rfl) (by kernel_rfl) laidOut0 rfl (by kernel_rfl)
    (fun ds hds => by match ds, hds with | [d0], _ => rfl) rfl Try.underlying4 (fun W base args ds ps hval hA hwt => VecCounts_walk W base args ds ps hval hA hwt)
theorem VecCounts_place : Try.prog.inPlace 3 = Rows.vecCountsRow.inPlace := by kernel_rfl
theorem VecCounts_unf : Try.prog.unfollowed 3 = Rows.vecCountsRow.unfollowed := by kernel_rfl
theorem VecCounts_rec : Try.prog.recurses 3 = Rows.vecCountsRow.recurses := by kernel_rfl
theorem VecCounts_named : Try.prog.varsNamed 3 = Rows.vecCountsRow.named := by kernel_rfl
theorem VecCounts_closed : joinedFacts Try.prog 3 Try.f3 Rows.vecCountsSpec Rows.vecCountsRow = true :=
  closed_of p_make p_lifts p_enter laidOut0 p_rowed p_stops p_knobs p_keys p_heard VecCounts_place VecCounts_unf VecCounts_rec VecCounts_named (by kernel_rfl)
theorem VecCounts_nm : Try.prog.funcNamed Rows.vecCountsRow.func = some 3 := by kernel_rfl
theorem VecCounts_inst : Func.isInstance Try.prog Try.f3 Rows.vecCountsRow.origin Rows.vecCountsRow.targs := of_decide_eq_true (by kernel_rfl)
theorem VecCounts_wrap : Func.isWrapper Try.prog Try.f3 Rows.vecCountsRow.wrapper Rows.vecCountsRow.mainSum := by unfold Func.isWrapper; (rw [if_neg (by decide +kernel)]; exact ⟨rfl, rfl⟩)
theorem VecCounts_holds : Rows.VecCountsSaid :=
  OpenClaim.holds_of_wide 3 Try.f3 rfl rfl rfl rfl rfl rfl rfl ⟨rfl, rfl, rfl, rfl, rfl⟩ rfl rfl rfl rfl rfl VecCounts_nm Try.func3 VecCounts_closed VecCounts_inst VecCounts_wrap
    (fun os started H enc _ => VecCounts_lifted os started H enc)
end Go.Proofs.Ytpjpaipkkcengaa
