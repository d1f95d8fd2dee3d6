/- The statement codecdecodes holds: its own theorem, over the walks in the files before. -/
import Derived.Test.YtffmanidnlbjjaaGreatZCodecDecodes7
set_option linter.unusedSimpArgs false
set_option linter.unusedVariables false
set_option linter.unusedSimpArgs false
set_option linter.unusedVariables false
set_option maxHeartbeats 800000
set_option maxRecDepth 100000
namespace Go.Proofs.YtffmanidnlbjjaaGreat
open Go.ChangeShapes Go.WideShapes Go.ChangeAt Go.RowKit
theorem CodecDecodes_walk {H : Type} {enc : TypeId × Value → H} (W : World) (base : Nat) (args : Array Value) (ds : List (DataW H)) (ps : List MemPlace)
    (hval : ∀ (j : Nat) t v, Tryz.f8.params[j]? = some t → args[j]? = some v → Value.okWide Tryz.prog W .any base t v)
    (hA : DataW.TrodAll enc Tryz.prog W 0 (fun _ => true) true Tryz.f8.params.toList args.toList ds ps) (hwt : ∀ x ∈ DataW.weightsEach Tryz.prog Tryz.f8.params.toList ds, x ≤ reachBytes) :
    CallR Tryz.prog 8 args W fun v W' => v = .bool true ∧ Ext W W' := by
  rw [Tryz.params8] at hA hval hwt
  obtain ⟨v0, d0, rfl, rfl, h0⟩ := trodAll_one hA
  replace hwt : ∀ x ∈ DataW.weightsEach Tryz.prog [73] [d0], x ≤ reachBytes := hwt
  obtain ⟨A0, n0, c0, l0, rfl, hnc0, hr0, hl0, hw0, hd0⟩ := open_ints Tryz.underlying73 Tryz.underlying5 (by kernel_rfl) (hval 0 73 v0 rfl rfl) h0
  have hb0 := slice_weight (by' := 1) Tryz.underlying73 (by kernel_rfl) hwt hd0
  replace hwt := rest_weight hwt
  subst hl0
  exact c_CodecDecodes W A0 c0 l0 hr0 (byt_of_wf hw0) (by simp only [reachBytes] at hb0; omega) hnc0
theorem CodecDecodes_lifted (os : Os) (started : os.Started) (H : Type) (enc : TypeId × Value → H) :
    ReturnsInHanded {} Tryz.checked os 8 .any (Rows.codecDecodesSpec.pre6 enc Tryz.prog Tryz.f8 Rows.codecDecodesRow.domain false) (Rows.codecDecodesSpec.post enc Tryz.prog Tryz.f8 false true false false) :=
  law_lifted (C := Tryz.checked) (tb := 4) own0 started (by kernel_rfl) Tryz.func8 ⟨#[], #[.slice none 0 0], []⟩ 8 (by kernel_rfl) (by kernel_rfl) (by kernel_rfl) (by kernel_rfl) (by kernel_rfl) laidOut0 rfl (by kernel_rfl)
    (fun ds hds => by match ds, hds with | [d0], _ => rfl) rfl Tryz.underlying4 (fun W base args ds ps hval hA hwt => CodecDecodes_walk W base args ds ps hval hA hwt)
theorem CodecDecodes_place : Tryz.prog.inPlace 8 = Rows.codecDecodesRow.inPlace := by kernel_rfl
theorem CodecDecodes_unf : Tryz.prog.unfollowed 8 = Rows.codecDecodesRow.unfollowed := by kernel_rfl
theorem CodecDecodes_rec : Tryz.prog.recurses 8 = Rows.codecDecodesRow.recurses := by kernel_rfl
theorem CodecDecodes_named : Tryz.prog.varsNamed 8 = Rows.codecDecodesRow.named := by kernel_rfl
theorem CodecDecodes_closed : joinedFacts Tryz.prog 8 Tryz.f8 Rows.codecDecodesSpec Rows.codecDecodesRow = true :=
  closed_of p_make p_lifts p_enter laidOut0 p_rowed p_stops p_knobs p_keys p_heard CodecDecodes_place CodecDecodes_unf CodecDecodes_rec CodecDecodes_named (by kernel_rfl)
theorem CodecDecodes_nm : Tryz.prog.funcNamed Rows.codecDecodesRow.func = some 8 := by kernel_rfl
theorem CodecDecodes_inst : Func.isInstance Tryz.prog Tryz.f8 Rows.codecDecodesRow.origin Rows.codecDecodesRow.targs := of_decide_eq_true (by kernel_rfl)
theorem CodecDecodes_wrap : Func.isWrapper Tryz.prog Tryz.f8 Rows.codecDecodesRow.wrapper Rows.codecDecodesRow.mainSum := by unfold Func.isWrapper; (rw [if_neg (by decide +kernel)]; exact ⟨rfl, rfl⟩)
theorem CodecDecodes_holds : Rows.CodecDecodesSaid :=
  OpenClaim.holds_of_wide 8 Tryz.f8 rfl rfl rfl rfl rfl rfl rfl ⟨rfl, rfl, rfl, rfl, rfl⟩ rfl rfl rfl rfl rfl CodecDecodes_nm Tryz.func8 CodecDecodes_closed CodecDecodes_inst CodecDecodes_wrap
    (fun os started H enc _ => CodecDecodes_lifted os started H enc)
end Go.Proofs.YtffmanidnlbjjaaGreat
