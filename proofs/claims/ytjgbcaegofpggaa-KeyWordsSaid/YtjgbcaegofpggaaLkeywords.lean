/- Contracts of functions, printed by a program of this seat (wip/tools/gen.py) out of its specs. -/
import Derived.Test.YtjgbcaegofpggaaCo
import Derived.Test.YtjgbcaegofpggaaTc
import Derived.Test.YtjgbcaegofpggaaPopen
set_option linter.unusedSimpArgs false
set_option linter.unusedVariables false
set_option maxHeartbeats 800000
set_option maxRecDepth 100000
namespace Go.Proofs.Ytjgbcaegofpggaa
open Go.ChangeShapes Go.WideShapes Go.ChangeAt Go.RowKit

theorem KeyWords_walk {H : Type} {enc : TypeId × Value → H} (W : World) (base : Nat) (args : Array Value) (ds : List (DataW H)) (ps : List MemPlace)
    (hval : ∀ (j : Nat) t v, Try.f15.params[j]? = some t → args[j]? = some v → Value.okWide Try.prog W .any base t v)
    (hA : DataW.TrodAll enc Try.prog W 0 (fun _ => true) true Try.f15.params.toList args.toList ds ps) (hwt : ∀ x ∈ DataW.weightsEach Try.prog Try.f15.params.toList ds, x ≤ reachBytes) :
    CallR Try.prog 15 args W fun v W' => v = .bool true ∧ Ext W W' := by
  rw [Try.params15] at hA hval hwt
  obtain ⟨v0, v1, v2, d0, d1, d2, p0, p1, p2, rfl, rfl, rfl, h0, h1, h2⟩ := trodAll_three hA
  replace hwt : ∀ x ∈ DataW.weightsEach Try.prog [89, 89, 93] [d0, d1, d2], x ≤ reachBytes := hwt
  obtain ⟨cs0, rfl, hk0⟩ := open_flat Try.underlying89 rfl fl89 (hval 0 89 v0 rfl rfl) h0
  replace hwt := rest_weight hwt
  obtain ⟨cs1, rfl, hk1⟩ := open_flat Try.underlying89 rfl fl89 (hval 1 89 v1 rfl rfl) h1
  replace hwt := rest_weight hwt
  obtain ⟨cs2, rfl, hk2⟩ := open_flat Try.underlying93 rfl fl93 (hval 2 93 v2 rfl rfl) h2
  obtain ⟨l2, rfl, hl2, hw2⟩ := allOk_ints hk2
  replace hwt := rest_weight hwt
  obtain ⟨x, rfl, hk⟩ := key_open (show AllOk (keyKs.map LK.int) cs0 from hk0)
  obtain ⟨y, rfl, hy⟩ := key_open (show AllOk (keyKs.map LK.int) cs1 from hk1)
  obtain ⟨a, b, c, ha, hb, hc, rfl⟩ := three_open hl2 hw2
  exact c_KeyWords x y hk hy a b c ha hb hc W

theorem KeyWords_lifted (os : Os) (started : os.Started) (H : Type) (enc : TypeId × Value → H) :
    ReturnsInHanded {} Try.checked os 15 .any (Rows.keyWordsSpec.pre6 enc Try.prog Try.f15 Rows.keyWordsRow.domain false) (Rows.keyWordsSpec.post enc Try.prog Try.f15 false true false false) :=
  law_lifted (C := Try.checked) (tb := 4) own0 started (by kernel_rfl) Try.func15 ⟨#[], #[.agg #[.int .u8 0, .int .u16 0, .int .u8 0, .int .u8 0, .int .u8 0, .int .u8 0, .int .u8 0, .int .u8 0, .int .u8 0, .int .u8 0, .int .u8 0, .int .u32 0], .agg #[.int .u8 0, .int .u16 0, .int .u8 0, .int .u8 0, .int .u8 0, .int .u8 0, .int .u8 0, .int .u8 0, .int .u8 0, .int .u8 0, .int .u8 0, .int .u32 0], .agg #[.int .u64 0, .int .u64 0, .int .u64 0]], []⟩ 8 (by kernel_rfl) (by kernel_rfl) (by kernel_rfl) (by kernel_rfl) (by kernel_rfl) laidOut0 rfl (by kernel_rfl)
    (fun ds hds => by match ds, hds with | [d0, d1, d2], _ => rfl) rfl Try.underlying4 (fun W base args ds ps hval hA hwt => KeyWords_walk W base args ds ps hval hA hwt)

theorem KeyWords_place : Try.prog.inPlace 15 = Rows.keyWordsRow.inPlace := by kernel_rfl
theorem KeyWords_unf : Try.prog.unfollowed 15 = Rows.keyWordsRow.unfollowed := by kernel_rfl
theorem KeyWords_rec : Try.prog.recurses 15 = Rows.keyWordsRow.recurses := by kernel_rfl
theorem KeyWords_named : Try.prog.varsNamed 15 = Rows.keyWordsRow.named := by kernel_rfl
theorem KeyWords_closed : joinedFacts Try.prog 15 Try.f15 Rows.keyWordsSpec Rows.keyWordsRow = true :=
  closed_of p_make p_lifts p_enter laidOut0 p_rowed p_stops p_knobs p_keys p_heard KeyWords_place KeyWords_unf KeyWords_rec KeyWords_named (by kernel_rfl)
theorem KeyWords_nm : Try.prog.funcNamed Rows.keyWordsRow.func = some 15 := by kernel_rfl
theorem KeyWords_inst : Func.isInstance Try.prog Try.f15 Rows.keyWordsRow.origin Rows.keyWordsRow.targs := of_decide_eq_true (by kernel_rfl)
theorem KeyWords_wrap : Func.isWrapper Try.prog Try.f15 Rows.keyWordsRow.wrapper Rows.keyWordsRow.mainSum := by unfold Func.isWrapper; first | (rw [if_pos (by decide +kernel)]; kernel_rfl) | (rw [if_neg (by decide +kernel)]; exact ⟨rfl, rfl⟩)
theorem KeyWords_holds : Rows.KeyWordsSaid :=
  OpenClaim.holds_of_wide 15 Try.f15 rfl rfl rfl rfl rfl rfl rfl ⟨rfl, rfl, rfl, rfl, rfl⟩ rfl rfl rfl rfl rfl KeyWords_nm Try.func15 KeyWords_closed KeyWords_inst KeyWords_wrap
    (fun os started H enc _ => KeyWords_lifted os started H enc)
end Go.Proofs.Ytjgbcaegofpggaa
