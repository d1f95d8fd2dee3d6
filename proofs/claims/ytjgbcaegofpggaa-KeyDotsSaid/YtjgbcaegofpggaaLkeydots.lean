/- Contracts of functions, printed by a program of this seat (wip/tools/gen.py) out of its specs. -/
import Derived.Test.YtjgbcaegofpggaaCo
import Derived.Test.YtjgbcaegofpggaaTc
import Derived.Test.YtjgbcaegofpggaaPopen
set_option linter.unusedSimpArgs false
set_option linter.unusedVariables false
set_option maxHeartbeats 800000
set_option maxRecDepth 100000
namespace Go.Proofs.Ytjgbcaegofpggaa
open Go.ChangeShapes Go.WideShapes Go.ChangeAt Go.RowKit

theorem KeyDots_walk {H : Type} {enc : TypeId × Value → H} (W : World) (base : Nat) (args : Array Value) (ds : List (DataW H)) (ps : List MemPlace)
    (hval : ∀ (j : Nat) t v, Try.f14.params[j]? = some t → args[j]? = some v → Value.okWide Try.prog W .any base t v)
    (hA : DataW.TrodAll enc Try.prog W 0 (fun _ => true) true Try.f14.params.toList args.toList ds ps) (hwt : ∀ x ∈ DataW.weightsEach Try.prog Try.f14.params.toList ds, x ≤ reachBytes) :
    CallR Try.prog 14 args W fun v W' => v = .bool true ∧ Ext W W' := by
  rw [Try.params14] at hA hval hwt
  obtain ⟨v0, v1, d0, d1, p0, p1, rfl, rfl, rfl, h0, h1⟩ := trodAll_two hA
  replace hwt : ∀ x ∈ DataW.weightsEach Try.prog [89, 53] [d0, d1], x ≤ reachBytes := hwt
  obtain ⟨cs0, rfl, hk0⟩ := open_flat Try.underlying89 rfl fl89 (hval 0 89 v0 rfl rfl) h0
  replace hwt := rest_weight hwt
  obtain ⟨a1, rfl, rfl, rfl, wf1⟩ := open_int Try.underlying53 (hval 1 53 v1 rfl rfl) h1
  replace hwt := rest_weight hwt
  obtain ⟨x, rfl, hk⟩ := key_open (show AllOk (keyKs.map LK.int) cs0 from hk0)
  have hz := bounds_u64 wf1
  obtain ⟨z, rfl⟩ := Int.eq_ofNat_of_zero_le hz.1
  exact c_KeyDots x hk z (by omega) W

theorem KeyDots_lifted (os : Os) (started : os.Started) (H : Type) (enc : TypeId × Value → H) :
    ReturnsInHanded {} Try.checked os 14 .any (Rows.keyDotsSpec.pre6 enc Try.prog Try.f14 Rows.keyDotsRow.domain false) (Rows.keyDotsSpec.post enc Try.prog Try.f14 false true false false) :=
  law_lifted (C := Try.checked) (tb := 4) own0 started (by kernel_rfl) Try.func14 ⟨#[], #[.agg #[.int .u8 0, .int .u16 0, .int .u8 0, .int .u8 0, .int .u8 0, .int .u8 0, .int .u8 0, .int .u8 0, .int .u8 0, .int .u8 0, .int .u8 0, .int .u32 0], .int .u64 0], []⟩ 8 (by kernel_rfl) (by kernel_rfl) (by kernel_rfl) (by kernel_rfl) (by kernel_rfl) laidOut0 rfl (by kernel_rfl)
    (fun ds hds => by match ds, hds with | [d0, d1], _ => rfl) rfl Try.underlying4 (fun W base args ds ps hval hA hwt => KeyDots_walk W base args ds ps hval hA hwt)

theorem KeyDots_place : Try.prog.inPlace 14 = Rows.keyDotsRow.inPlace := by kernel_rfl
theorem KeyDots_unf : Try.prog.unfollowed 14 = Rows.keyDotsRow.unfollowed := by kernel_rfl
theorem KeyDots_rec : Try.prog.recurses 14 = Rows.keyDotsRow.recurses := by kernel_rfl
theorem KeyDots_named : Try.prog.varsNamed 14 = Rows.keyDotsRow.named := by kernel_rfl
theorem KeyDots_closed : joinedFacts Try.prog 14 Try.f14 Rows.keyDotsSpec Rows.keyDotsRow = true :=
  closed_of p_make p_lifts p_enter laidOut0 p_rowed p_stops p_knobs p_keys p_heard KeyDots_place KeyDots_unf KeyDots_rec KeyDots_named (by kernel_rfl)
theorem KeyDots_nm : Try.prog.funcNamed Rows.keyDotsRow.func = some 14 := by kernel_rfl
theorem KeyDots_inst : Func.isInstance Try.prog Try.f14 Rows.keyDotsRow.origin Rows.keyDotsRow.targs := of_decide_eq_true (by kernel_rfl)
theorem KeyDots_wrap : Func.isWrapper Try.prog Try.f14 Rows.keyDotsRow.wrapper Rows.keyDotsRow.mainSum := by unfold Func.isWrapper; first | (rw [if_pos (by decide +kernel)]; kernel_rfl) | (rw [if_neg (by decide +kernel)]; exact ⟨rfl, rfl⟩)
theorem KeyDots_holds : Rows.KeyDotsSaid :=
  OpenClaim.holds_of_wide 14 Try.f14 rfl rfl rfl rfl rfl rfl rfl ⟨rfl, rfl, rfl, rfl, rfl⟩ rfl rfl rfl rfl rfl KeyDots_nm Try.func14 KeyDots_closed KeyDots_inst KeyDots_wrap
    (fun os started H enc _ => KeyDots_lifted os started H enc)
end Go.Proofs.Ytjgbcaegofpggaa
