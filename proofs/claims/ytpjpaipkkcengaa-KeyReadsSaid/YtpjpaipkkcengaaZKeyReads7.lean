/- The statement keyreads holds: its own theorem, over the walks in the files before. -/
import Derived.Test.YtpjpaipkkcengaaZKeyReads6
set_option linter.unusedSimpArgs false
set_option linter.unusedVariables false
set_option linter.unusedSimpArgs false
set_option linter.unusedVariables false
set_option maxHeartbeats 800000
set_option maxRecDepth 100000
namespace Go.Proofs.Ytpjpaipkkcengaa
open Go.ChangeShapes Go.WideShapes Go.ChangeAt Go.RowKit
theorem KeyReads_walk {H : Type} {enc : TypeId × Value → H} (W : World) (base : Nat) (args : Array Value) (ds : List (DataW H)) (ps : List MemPlace)
    (hval : ∀ (j : Nat) t v, Try.f5.params[j]? = some t → args[j]? = some v → Value.okWide Try.prog W .any base t v)
    (hA : DataW.TrodAll enc Try.prog W 0 (fun _ => true) true Try.f5.params.toList args.toList ds ps) (hwt : ∀ x ∈ DataW.weightsEach Try.prog Try.f5.params.toList ds, x ≤ reachBytes) :
    CallR Try.prog 5 args W fun v W' => v = .bool true ∧ Ext W W' := by
  rw [Try.params5] at hA hval hwt
  obtain ⟨v0, v1, d0, d1, p0, p1, rfl, rfl, rfl, h0, h1⟩ := trodAll_two hA
  replace hwt : ∀ x ∈ DataW.weightsEach Try.prog [60, 43] [d0, d1], x ≤ reachBytes := hwt
  obtain ⟨cs0, rfl, hk0⟩ := open_flat Try.underlying60 rfl fl60 (hval 0 60 v0 rfl rfl) h0
  replace hwt := rest_weight hwt
  obtain ⟨A1, n1, c1, l1, rfl, hnc1, hr1, hl1, hw1, hd1⟩ := open_ints Try.underlying43 Try.underlying5 (by kernel_rfl) (hval 1 43 v1 rfl rfl) h1
  have hb1 := slice_weight (by' := 1) Try.underlying43 (by kernel_rfl) hwt hd1
  replace hwt := rest_weight hwt
  obtain ⟨x, rfl, hk⟩ := key_open (show AllOk W (keyKs.map LK.int) cs0 from hk0)
  simp only [reachBytes] at hb1
  subst hl1
  exact c_KeyReads W x hk A1 c1 l1 hr1 (byt_of_wf hw1) hnc1 (by omega)
theorem KeyReads_lifted (os : Os) (started : os.Started) (H : Type) (enc : TypeId × Value → H) :
    ReturnsInHanded {} Try.checked os 5 .any (Rows.keyReadsSpec.pre6 enc Try.prog Try.f5 Rows.keyReadsRow.domain false) (Rows.keyReadsSpec.post enc Try.prog Try.f5 false true false false) :=
  law_lifted (C := Try.checked) (tb := 4) own0 started (by kernel_rfl) Try.func5 ⟨#[], #[.agg #[.int .u8 0, .int .u16 0, .int .u8 0, .int .u8 0, .int .u8 0, .int .u8 0, .int .u8 0, .int .u8 0, .int .u8 0, .int .u8 0, .int .u8 0, .int .u32 0], .slice none 0 0], []⟩ 8 (by kernel_rfl) (by kernel_rfl) (by kernel_rfl) (by kernel_rfl) (by kernel_rfl) laidOut0 rfl (by kernel_rfl)
    (fun ds hds => by match ds, hds with | [d0, d1], _ => rfl) rfl Try.underlying4 (fun W base args ds ps hval hA hwt => KeyReads_walk W base args ds ps hval hA hwt)
theorem KeyReads_place : Try.prog.inPlace 5 = Rows.keyReadsRow.inPlace := by kernel_rfl
theorem KeyReads_unf : Try.prog.unfollowed 5 = Rows.keyReadsRow.unfollowed := by kernel_rfl
theorem KeyReads_rec : Try.prog.recurses 5 = Rows.keyReadsRow.recurses := by kernel_rfl
theorem KeyReads_named : Try.prog.varsNamed 5 = Rows.keyReadsRow.named := by kernel_rfl
theorem KeyReads_closed : joinedFacts Try.prog 5 Try.f5 Rows.keyReadsSpec Rows.keyReadsRow = true :=
  closed_of p_make p_lifts p_enter laidOut0 p_rowed p_stops p_knobs p_keys p_heard KeyReads_place KeyReads_unf KeyReads_rec KeyReads_named (by kernel_rfl)
theorem KeyReads_nm : Try.prog.funcNamed Rows.keyReadsRow.func = some 5 := by kernel_rfl
theorem KeyReads_inst : Func.isInstance Try.prog Try.f5 Rows.keyReadsRow.origin Rows.keyReadsRow.targs := of_decide_eq_true (by kernel_rfl)
theorem KeyReads_wrap : Func.isWrapper Try.prog Try.f5 Rows.keyReadsRow.wrapper Rows.keyReadsRow.mainSum := by unfold Func.isWrapper; (rw [if_neg (by decide +kernel)]; exact ⟨rfl, rfl⟩)
theorem KeyReads_holds : Rows.KeyReadsSaid :=
  OpenClaim.holds_of_wide 5 Try.f5 rfl rfl rfl rfl rfl rfl rfl ⟨rfl, rfl, rfl, rfl, rfl⟩ rfl rfl rfl rfl rfl KeyReads_nm Try.func5 KeyReads_closed KeyReads_inst KeyReads_wrap
    (fun os started H enc _ => KeyReads_lifted os started H enc)
end Go.Proofs.Ytpjpaipkkcengaa
