/- The statement codecencodes holds: its own theorem, over the walks in the files before. -/
import Derived.Test.YtffmanidnlbjjaaGreatZCodecEncodes6
set_option linter.unusedSimpArgs false
set_option linter.unusedVariables false
set_option linter.unusedSimpArgs false
set_option linter.unusedVariables false
set_option maxHeartbeats 800000
set_option maxRecDepth 100000
namespace Go.Proofs.YtffmanidnlbjjaaGreat
open Go.ChangeShapes Go.WideShapes Go.ChangeAt Go.RowKit
theorem CodecEncodes_walk {H : Type} {enc : TypeId × Value → H} (W : World) (base : Nat) (args : Array Value) (ds : List (DataW H)) (ps : List MemPlace)
    (hval : ∀ (j : Nat) t v, Tryz.f9.params[j]? = some t → args[j]? = some v → Value.okWide Tryz.prog W .any base t v)
    (hA : DataW.TrodAll enc Tryz.prog W 0 (fun _ => true) true Tryz.f9.params.toList args.toList ds ps) (hwt : ∀ x ∈ DataW.weightsEach Tryz.prog Tryz.f9.params.toList ds, x ≤ reachBytes) :
    CallR Tryz.prog 9 args W fun v W' => v = .bool true ∧ Ext W W' := by
  rw [Tryz.params9] at hA hval hwt
  obtain ⟨v0, d0, rfl, rfl, h0⟩ := trodAll_one hA
  replace hwt : ∀ x ∈ DataW.weightsEach Tryz.prog [22] [d0], x ≤ reachBytes := hwt
  obtain ⟨A0, n0, c0, xs0, rfl, hnc0, hcm0, hr0, hok0, hd0⟩ := open_slice Tryz.underlying22 fl88 (sz := 21) rfl (by kernel_rfl) (by decide) (hval 0 22 v0 rfl rfl) h0
  have hb0 := slice_weight (by' := 40) Tryz.underlying22 (by kernel_rfl) hwt hd0
  replace hwt := rest_weight hwt
  obtain ⟨l0, hl0, rfl, hv0⟩ := open_rows hr0 hok0
  subst hl0
  exact c_CodecEncodes W A0 c0 l0 hr0 hv0 (by simp only [reachBytes] at hb0; omega)
theorem CodecEncodes_lifted (os : Os) (started : os.Started) (H : Type) (enc : TypeId × Value → H) :
    ReturnsInHanded {} Tryz.checked os 9 .any (Rows.codecEncodesSpec.pre6 enc Tryz.prog Tryz.f9 Rows.codecEncodesRow.domain false) (Rows.codecEncodesSpec.post enc Tryz.prog Tryz.f9 false true false false) :=
  law_lifted (C := Tryz.checked) (tb := 4) own0 started (by kernel_rfl) Tryz.func9 ⟨#[], #[.slice none 0 0], []⟩ 8 (by kernel_rfl) (by kernel_rfl) (by kernel_rfl) (by kernel_rfl) (by kernel_rfl) laidOut0 rfl (by kernel_rfl)
    (fun ds hds => by match ds, hds with | [d0], _ => rfl) rfl Tryz.underlying4 (fun W base args ds ps hval hA hwt => CodecEncodes_walk W base args ds ps hval hA hwt)
theorem CodecEncodes_place : Tryz.prog.inPlace 9 = Rows.codecEncodesRow.inPlace := by kernel_rfl
theorem CodecEncodes_unf : Tryz.prog.unfollowed 9 = Rows.codecEncodesRow.unfollowed := by kernel_rfl
theorem CodecEncodes_rec : Tryz.prog.recurses 9 = Rows.codecEncodesRow.recurses := by kernel_rfl
theorem CodecEncodes_named : Tryz.prog.varsNamed 9 = Rows.codecEncodesRow.named := by kernel_rfl
theorem CodecEncodes_closed : joinedFacts Tryz.prog 9 Tryz.f9 Rows.codecEncodesSpec Rows.codecEncodesRow = true :=
  closed_of p_make p_lifts p_enter laidOut0 p_rowed p_stops p_knobs p_keys p_heard CodecEncodes_place CodecEncodes_unf CodecEncodes_rec CodecEncodes_named (by kernel_rfl)
theorem CodecEncodes_nm : Tryz.prog.funcNamed Rows.codecEncodesRow.func = some 9 := by kernel_rfl
theorem CodecEncodes_inst : Func.isInstance Tryz.prog Tryz.f9 Rows.codecEncodesRow.origin Rows.codecEncodesRow.targs := of_decide_eq_true (by kernel_rfl)
theorem CodecEncodes_wrap : Func.isWrapper Tryz.prog Tryz.f9 Rows.codecEncodesRow.wrapper Rows.codecEncodesRow.mainSum := by unfold Func.isWrapper; (rw [if_neg (by decide +kernel)]; exact ⟨rfl, rfl⟩)
theorem CodecEncodes_holds : Rows.CodecEncodesSaid :=
  OpenClaim.holds_of_wide 9 Tryz.f9 rfl rfl rfl rfl rfl rfl rfl ⟨rfl, rfl, rfl, rfl, rfl⟩ rfl rfl rfl rfl rfl CodecEncodes_nm Tryz.func9 CodecEncodes_closed CodecEncodes_inst CodecEncodes_wrap
    (fun os started H enc _ => CodecEncodes_lifted os started H enc)
end Go.Proofs.YtffmanidnlbjjaaGreat
