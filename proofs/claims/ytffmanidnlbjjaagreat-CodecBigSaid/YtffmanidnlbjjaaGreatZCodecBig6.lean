/- The statement codecbig holds: its own theorem, over the walks in the files before. -/
import Derived.Test.YtffmanidnlbjjaaGreatZCodecBig5
set_option linter.unusedSimpArgs false
set_option linter.unusedVariables false
set_option linter.unusedSimpArgs false
set_option linter.unusedVariables false
set_option maxHeartbeats 800000
set_option maxRecDepth 100000
namespace Go.Proofs.YtffmanidnlbjjaaGreat
open Go.ChangeShapes Go.WideShapes Go.ChangeAt Go.RowKit
theorem CodecBig_walk {H : Type} {enc : TypeId × Value → H} (W : World) (base : Nat) (args : Array Value) (ds : List (DataW H)) (ps : List MemPlace)
    (hval : ∀ (j : Nat) t v, Tryz.f11.params[j]? = some t → args[j]? = some v → Value.okWide Tryz.prog W .any base t v)
    (hA : DataW.TrodAll enc Tryz.prog W 0 (fun _ => true) true Tryz.f11.params.toList args.toList ds ps) (hwt : ∀ x ∈ DataW.weightsEach Tryz.prog Tryz.f11.params.toList ds, x ≤ reachBytes) :
    CallR Tryz.prog 11 args W fun v W' => v = .bool true ∧ Ext W W' := by
  rw [Tryz.params11] at hA hval hwt
  obtain ⟨v0, v1, d0, d1, p0, p1, rfl, rfl, rfl, h0, h1⟩ := trodAll_two hA
  replace hwt : ∀ x ∈ DataW.weightsEach Tryz.prog [5, 39] [d0, d1], x ≤ reachBytes := hwt
  obtain ⟨a0, rfl, rfl, rfl, wf0⟩ := open_int Tryz.underlying5 (hval 0 5 v0 rfl rfl) h0
  replace hwt := rest_weight hwt
  obtain ⟨a1, rfl, rfl, rfl, wf1⟩ := open_int Tryz.underlying39 (hval 1 39 v1 rfl rfl) h1
  replace hwt := rest_weight hwt
  have h1 := bounds_u8 wf0
  have h2 := bounds_u16 wf1
  obtain ⟨a, rfl⟩ := Int.eq_ofNat_of_zero_le h1.1
  obtain ⟨b, rfl⟩ := Int.eq_ofNat_of_zero_le h2.1
  exact c_CodecBig a (by omega) b (by omega) W
theorem CodecBig_lifted (os : Os) (started : os.Started) (H : Type) (enc : TypeId × Value → H) :
    ReturnsInHanded {} Tryz.checked os 11 .any (Rows.codecBigSpec.pre6 enc Tryz.prog Tryz.f11 Rows.codecBigRow.domain false) (Rows.codecBigSpec.post enc Tryz.prog Tryz.f11 false true false false) :=
  law_lifted (C := Tryz.checked) (tb := 4) own0 started (by kernel_rfl) Tryz.func11 ⟨#[], #[.int .u8 0, .int .u16 0], []⟩ 8 (by kernel_rfl) (by kernel_rfl) (by kernel_rfl) (by kernel_rfl) (by kernel_rfl) laidOut0 rfl (by kernel_rfl)
    (fun ds hds => by match ds, hds with | [d0, d1], _ => rfl) rfl Tryz.underlying4 (fun W base args ds ps hval hA hwt => CodecBig_walk W base args ds ps hval hA hwt)
theorem CodecBig_place : Tryz.prog.inPlace 11 = Rows.codecBigRow.inPlace := by kernel_rfl
theorem CodecBig_unf : Tryz.prog.unfollowed 11 = Rows.codecBigRow.unfollowed := by kernel_rfl
theorem CodecBig_rec : Tryz.prog.recurses 11 = Rows.codecBigRow.recurses := by kernel_rfl
theorem CodecBig_named : Tryz.prog.varsNamed 11 = Rows.codecBigRow.named := by kernel_rfl
theorem CodecBig_closed : joinedFacts Tryz.prog 11 Tryz.f11 Rows.codecBigSpec Rows.codecBigRow = true :=
  closed_of p_make p_lifts p_enter laidOut0 p_rowed p_stops p_knobs p_keys p_heard CodecBig_place CodecBig_unf CodecBig_rec CodecBig_named (by kernel_rfl)
theorem CodecBig_nm : Tryz.prog.funcNamed Rows.codecBigRow.func = some 11 := by kernel_rfl
theorem CodecBig_inst : Func.isInstance Tryz.prog Tryz.f11 Rows.codecBigRow.origin Rows.codecBigRow.targs := of_decide_eq_true (by kernel_rfl)
theorem CodecBig_wrap : Func.isWrapper Tryz.prog Tryz.f11 Rows.codecBigRow.wrapper Rows.codecBigRow.mainSum := by unfold Func.isWrapper; (rw [if_neg (by decide +kernel)]; exact ⟨rfl, rfl⟩)
theorem CodecBig_holds : Rows.CodecBigSaid :=
  OpenClaim.holds_of_wide 11 Tryz.f11 rfl rfl rfl rfl rfl rfl rfl ⟨rfl, rfl, rfl, rfl, rfl⟩ rfl rfl rfl rfl rfl CodecBig_nm Tryz.func11 CodecBig_closed CodecBig_inst CodecBig_wrap
    (fun os started H enc _ => CodecBig_lifted os started H enc)
end Go.Proofs.YtffmanidnlbjjaaGreat
