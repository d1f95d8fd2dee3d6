/- The statement keyback holds: its own theorem, over the walks in the files before. -/
import Derived.Test.YtpjpaipkkcengaaZKeyBack4
set_option linter.unusedSimpArgs false
set_option linter.unusedVariables false
set_option maxHeartbeats 800000
set_option maxRecDepth 100000
namespace Go.Proofs.Ytpjpaipkkcengaa
open Go.ChangeShapes Go.WideShapes Go.ChangeAt Go.RowKit
theorem KeyBack_walk {H : Type} {enc : TypeId × Value → H} (W : World) (base : Nat) (args : Array Value) (ds : List (DataW H)) (ps : List MemPlace)
    (hval : ∀ (j : Nat) t v, Try.f6.params[j]? = some t → args[j]? = some v → Value.okWide Try.prog W .any base t v)
    (hA : DataW.TrodAll enc Try.prog W 0 (fun _ => true) true Try.f6.params.toList args.toList ds ps) (hwt : ∀ x ∈ DataW.weightsEach Try.prog Try.f6.params.toList ds, x ≤ reachBytes) :
    CallR Try.prog 6 args W fun v W' => v = .bool true ∧ Ext W W' := by
  rw [Try.params6] at hA hval hwt
  obtain ⟨v0, v1, v2, d0, d1, d2, p0, p1, p2, rfl, rfl, rfl, h0, h1, h2⟩ := trodAll_three hA
  replace hwt : ∀ x ∈ DataW.weightsEach Try.prog [60, 60, 43] [d0, d1, d2], x ≤ reachBytes := hwt
  obtain ⟨cs0, rfl, hk0⟩ := open_flat Try.underlying60 rfl fl60 (hval 0 60 v0 rfl rfl) h0
  replace hwt := rest_weight hwt
  obtain ⟨cs1, rfl, hk1⟩ := open_flat Try.underlying60 rfl fl60 (hval 1 60 v1 rfl rfl) h1
  replace hwt := rest_weight hwt
  obtain ⟨A2, n2, c2, l2, rfl, hnc2, hr2, hl2, hw2, hd2⟩ := open_ints Try.underlying43 Try.underlying5 (by kernel_rfl) (hval 2 43 v2 rfl rfl) h2
  have hb2 := slice_weight (by' := 1) Try.underlying43 (by kernel_rfl) hwt hd2
  replace hwt := rest_weight hwt
  obtain ⟨x, rfl, hk⟩ := key_open (show AllOk W (keyKs.map LK.int) cs0 from hk0)
  obtain ⟨y, rfl, hy⟩ := key_open (show AllOk W (keyKs.map LK.int) cs1 from hk1)
  simp only [reachBytes] at hb2
  subst hl2
  exact c_KeyBack W x y hk hy A2 c2 l2 hr2 (byt_of_wf hw2) hnc2 (by omega)
theorem KeyBack_lifted (os : Os) (started : os.Started) (H : Type) (enc : TypeId × Value → H) :
    ReturnsInHanded {} Try.checked os 6 .any (Rows.keyBackSpec.pre6 enc Try.prog Try.f6 Rows.keyBackRow.domain false) (Rows.keyBackSpec.post enc Try.prog Try.f6 false true false false) :=
  law_lifted (C := Try.checked) (tb := 4) own0 started (by kernel_rfl) Try.func6 ⟨#[], #[.agg #[.int .u8 0, .int .u16 0, .int .u8 0, .int .u8 0, .int .u8 0, .int .u8 0, .int .u8 0, .int .u8 0, .int .u8 0, .int .u8 0, .int .u8 0, .int .u32 0], .agg #[.int .u8 0, .int .u16 0, .int .u8 0, .int .u8 0, .int .u8 0, .int .u8 0, .int .u8 0, .int .u8 0, .int .u8 0, .int .u8 0, .int .u8 0, .int .u32 0], .slice none 0 0], []⟩ 8 (by kernel_rfl) (by kernel_rfl) (by kernel_rfl) (by kernel_rfl) (by kernel_rfl) laidOut0 rfl (by kernel_rfl)
    (fun ds hds => by match ds, hds with | [d0, d1, d2], _ => rfl) rfl Try.underlying4 (fun W base args ds ps hval hA hwt => KeyBack_walk W base args ds ps hval hA hwt)
theorem KeyBack_place : Try.prog.inPlace 6 = Rows.keyBackRow.inPlace := by kernel_rfl
theorem KeyBack_unf : Try.prog.unfollowed 6 = Rows.keyBackRow.unfollowed := by kernel_rfl
theorem KeyBack_rec : Try.prog.recurses 6 = Rows.keyBackRow.recurses := by kernel_rfl
theorem KeyBack_named : Try.prog.varsNamed 6 = Rows.keyBackRow.named := by kernel_rfl
theorem KeyBack_closed : joinedFacts Try.prog 6 Try.f6 Rows.keyBackSpec Rows.keyBackRow = true :=
  closed_of p_make p_lifts p_enter laidOut0 p_rowed p_stops p_knobs p_keys p_heard KeyBack_place KeyBack_unf KeyBack_rec KeyBack_named (by kernel_rfl)
theorem KeyBack_nm : Try.prog.funcNamed Rows.keyBackRow.func = some 6 := by kernel_rfl
theorem KeyBack_inst : Func.isInstance Try.prog Try.f6 Rows.keyBackRow.origin Rows.keyBackRow.targs := of_decide_eq_true (by kernel_rfl)
theorem KeyBack_wrap : Func.isWrapper Try.prog Try.f6 Rows.keyBackRow.wrapper Rows.keyBackRow.mainSum := by unfold Func.isWrapper; (rw [if_neg (by decide +kernel)]; exact ⟨rfl, rfl⟩)
theorem KeyBack_holds : Rows.KeyBackSaid :=
  OpenClaim.holds_of_wide 6 Try.f6 rfl rfl rfl rfl rfl rfl rfl ⟨rfl, rfl, rfl, rfl, rfl⟩ rfl rfl rfl rfl rfl KeyBack_nm Try.func6 KeyBack_closed KeyBack_inst KeyBack_wrap
    (fun os started H enc _ => KeyBack_lifted os started H enc)
end Go.Proofs.Ytpjpaipkkcengaa
