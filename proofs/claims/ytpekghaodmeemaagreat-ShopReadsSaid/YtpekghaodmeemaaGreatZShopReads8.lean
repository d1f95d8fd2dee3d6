/- The statement shopreads holds: its own theorem, over the walks in the files before. -/
import Derived.Test.YtpekghaodmeemaaGreatZShopReads7
set_option linter.unusedSimpArgs false
set_option linter.unusedVariables false
set_option linter.unusedSimpArgs false
set_option linter.unusedVariables false
set_option maxHeartbeats 800000
set_option maxRecDepth 100000
namespace Go.Proofs.YtpekghaodmeemaaGreat
open Go.ChangeShapes Go.WideShapes Go.ChangeAt Go.RowKit
theorem ShopReads_walk {H : Type} {enc : TypeId × Value → H} (W : World) (base : Nat) (args : Array Value) (ds : List (DataW H)) (ps : List MemPlace)
    (hval : ∀ (j : Nat) t v, Tryz.f6.params[j]? = some t → args[j]? = some v → Value.okWide Tryz.prog W .any base t v)
    (hA : DataW.TrodAll enc Tryz.prog W 0 (fun _ => true) true Tryz.f6.params.toList args.toList ds ps) (hwt : ∀ x ∈ DataW.weightsEach Tryz.prog Tryz.f6.params.toList ds, x ≤ reachBytes) :
    CallR Tryz.prog 6 args W fun v W' => v = .bool true ∧ Ext W W' := by
  rw [Tryz.params6] at hA hval hwt
  obtain ⟨v0, v1, d0, d1, p0, p1, rfl, rfl, rfl, h0, h1⟩ := trodAll_two hA
  replace hwt : ∀ x ∈ DataW.weightsEach Tryz.prog [22, 29] [d0, d1], x ≤ reachBytes := hwt
  obtain ⟨A0, n0, c0, xs0, rfl, hnc0, hcm0, hr0, hok0, hd0⟩ := open_slice U22 fl66 (sz := 21) rfl (by kernel_rfl) (by decide) (hval 0 22 v0 rfl rfl) h0
  have hb0 := slice_weight (by' := 40) U22 (by kernel_rfl) hwt hd0
  replace hwt := rest_weight hwt
  obtain ⟨cs1, rfl, hk1⟩ := open_flat U29 rfl fl29 (hval 1 29 v1 rfl rfl) h1
  replace hwt := rest_weight hwt
  obtain ⟨l0, hl0, rfl, hv0⟩ := open_rows hr0 hok0
  subst hl0
  obtain ⟨r, x, m, rfl, hr8, hx⟩ := ask18_open (show AllOk W (ask18Ks.map LK.int) cs1 from hk1)
  exact c_ShopReads W A0 c0 l0 hr0 hv0 (by simp only [reachBytes] at hb0; omega) r hr8 x hx m
theorem ShopReads_lifted (os : Os) (started : os.Started) (H : Type) (enc : TypeId × Value → H) :
    ReturnsInHanded {} Tryz.checked os 6 .any (Rows.shopReadsSpec.pre6 enc Tryz.prog Tryz.f6 Rows.shopReadsRow.domain false) (Rows.shopReadsSpec.post enc Tryz.prog Tryz.f6 false true false false) :=
  law_lifted (C := Tryz.checked) (tb := 4) own0 started (by kernel_rfl) Tryz.func6 ⟨#[], #[.slice none 0 0, .agg #[.int .u8 0, .int .i64 0, .int .u16 0, .int .u8 0, .int .u8 0, .int .u8 0, .int .u8 0, .int .u8 0, .int .u8 0, .int .u8 0, .int .u8 0, .int .i64 0, .int .u8 0, .int .u8 0, .int .u8 0, .int .u8 0, .int .u8 0, .int .u8 0, .int .u8 0, .int .u8 0, .int .i64 0]], []⟩ 8 (by kernel_rfl) (by kernel_rfl) (by kernel_rfl) (by kernel_rfl) (by kernel_rfl) laidOut0 rfl (by kernel_rfl)
    (fun ds hds => by match ds, hds with | [d0, d1], _ => rfl) rfl U4 (fun W base args ds ps hval hA hwt => ShopReads_walk W base args ds ps hval hA hwt)
theorem ShopReads_place : Tryz.prog.inPlace 6 = Rows.shopReadsRow.inPlace := by kernel_rfl
theorem ShopReads_unf : Tryz.prog.unfollowed 6 = Rows.shopReadsRow.unfollowed := by kernel_rfl
theorem ShopReads_rec : Tryz.prog.recurses 6 = Rows.shopReadsRow.recurses := by kernel_rfl
theorem ShopReads_named : Tryz.prog.varsNamed 6 = Rows.shopReadsRow.named := by kernel_rfl
theorem ShopReads_closed : joinedFacts Tryz.prog 6 Tryz.f6 Rows.shopReadsSpec Rows.shopReadsRow = true :=
  closed_of p_make p_lifts p_enter laidOut0 p_rowed p_stops p_knobs p_keys p_heard ShopReads_place ShopReads_unf ShopReads_rec ShopReads_named (by kernel_rfl)
theorem ShopReads_nm : Tryz.prog.funcNamed Rows.shopReadsRow.func = some 6 := by kernel_rfl
theorem ShopReads_inst : Func.isInstance Tryz.prog Tryz.f6 Rows.shopReadsRow.origin Rows.shopReadsRow.targs := of_decide_eq_true (by kernel_rfl)
theorem ShopReads_wrap : Func.isWrapper Tryz.prog Tryz.f6 Rows.shopReadsRow.wrapper Rows.shopReadsRow.mainSum := by unfold Func.isWrapper; (rw [if_neg (by decide +kernel)]; exact ⟨rfl, rfl⟩)
theorem ShopReads_holds : Rows.ShopReadsSaid :=
  OpenClaim.holds_of_wide 6 Tryz.f6 rfl rfl rfl rfl rfl rfl rfl ⟨rfl, rfl, rfl, rfl, rfl⟩ rfl rfl rfl rfl rfl ShopReads_nm Tryz.func6 ShopReads_closed ShopReads_inst ShopReads_wrap
    (fun os started H enc _ => ShopReads_lifted os started H enc)
end Go.Proofs.YtpekghaodmeemaaGreat
