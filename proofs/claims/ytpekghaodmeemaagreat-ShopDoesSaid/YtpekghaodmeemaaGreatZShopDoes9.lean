/- The statement shopdoes holds: its own theorem, over the walks in the files before. -/
import Derived.Test.YtpekghaodmeemaaGreatZShopDoes8
set_option linter.unusedSimpArgs false
set_option linter.unusedVariables false
set_option linter.unusedSimpArgs false
set_option linter.unusedVariables false
set_option maxHeartbeats 800000
set_option maxRecDepth 100000
namespace Go.Proofs.YtpekghaodmeemaaGreat
open Go.ChangeShapes Go.WideShapes Go.ChangeAt Go.RowKit
theorem ShopDoes_walk {H : Type} {enc : TypeId × Value → H} (W : World) (base : Nat) (args : Array Value) (ds : List (DataW H)) (ps : List MemPlace)
    (hval : ∀ (j : Nat) t v, Tryz.f5.params[j]? = some t → args[j]? = some v → Value.okWide Tryz.prog W .any base t v)
    (hA : DataW.TrodAll enc Tryz.prog W 0 (fun _ => true) true Tryz.f5.params.toList args.toList ds ps) (hwt : ∀ x ∈ DataW.weightsEach Tryz.prog Tryz.f5.params.toList ds, x ≤ reachBytes) :
    CallR Tryz.prog 5 args W fun v W' => v = .bool true ∧ Ext W W' := by
  rw [Tryz.params5] at hA hval hwt
  obtain ⟨v0, v1, d0, d1, p0, p1, rfl, rfl, rfl, h0, h1⟩ := trodAll_two hA
  replace hwt : ∀ x ∈ DataW.weightsEach Tryz.prog [22, 29] [d0, d1], x ≤ reachBytes := hwt
  obtain ⟨A0, n0, c0, xs0, rfl, hnc0, hcm0, hr0, hok0, hd0⟩ := open_slice U22 fl66 (sz := 21) rfl (by kernel_rfl) (by decide) (hval 0 22 v0 rfl rfl) h0
  have hb0 := slice_weight (by' := 40) U22 (by kernel_rfl) hwt hd0
  replace hwt := rest_weight hwt
  obtain ⟨cs1, rfl, hk1⟩ := open_flat U29 rfl fl29 (hval 1 29 v1 rfl rfl) h1
  replace hwt := rest_weight hwt
  obtain ⟨l0, hl0, rfl, hv0⟩ := open_rows hr0 hok0
  subst hl0
  obtain ⟨r, x, m, rfl, hr8, hx⟩ := ask18_open (show AllOk W (ask18Ks.map LK.int) cs1 from hk1)
  exact c_ShopDoes W A0 c0 l0 hr0 hv0 (by simp only [reachBytes] at hb0; omega) r hr8 x hx m
theorem ShopDoes_lifted (os : Os) (started : os.Started) (H : Type) (enc : TypeId × Value → H) :
    ReturnsInHanded {} Tryz.checked os 5 .any (Rows.shopDoesSpec.pre6 enc Tryz.prog Tryz.f5 Rows.shopDoesRow.domain false) (Rows.shopDoesSpec.post enc Tryz.prog Tryz.f5 false true false false) :=
  law_lifted (C := Tryz.checked) (tb := 4) own0 started (by kernel_rfl) Tryz.func5 ⟨#[], #[.slice none 0 0, .agg #[.int .u8 0, .int .i64 0, .int .u16 0, .int .u8 0, .int .u8 0, .int .u8 0, .int .u8 0, .int .u8 0, .int .u8 0, .int .u8 0, .int .u8 0, .int .i64 0, .int .u8 0, .int .u8 0, .int .u8 0, .int .u8 0, .int .u8 0, .int .u8 0, .int .u8 0, .int .u8 0, .int .i64 0]], []⟩ 8 (by kernel_rfl) (by kernel_rfl) (by kernel_rfl) (by kernel_rfl) (by kernel_rfl) laidOut0 rfl (by kernel_rfl)
    (fun ds hds => by match ds, hds with | [d0, d1], _ => rfl) rfl U4 (fun W base args ds ps hval hA hwt => ShopDoes_walk W base args ds ps hval hA hwt)
theorem ShopDoes_place : Tryz.prog.inPlace 5 = Rows.shopDoesRow.inPlace := by kernel_rfl
theorem ShopDoes_unf : Tryz.prog.unfollowed 5 = Rows.shopDoesRow.unfollowed := by kernel_rfl
theorem ShopDoes_rec : Tryz.prog.recurses 5 = Rows.shopDoesRow.recurses := by kernel_rfl
theorem ShopDoes_named : Tryz.prog.varsNamed 5 = Rows.shopDoesRow.named := by kernel_rfl
theorem ShopDoes_closed : joinedFacts Tryz.prog 5 Tryz.f5 Rows.shopDoesSpec Rows.shopDoesRow = true :=
  closed_of p_make p_lifts p_enter laidOut0 p_rowed p_stops p_knobs p_keys p_heard ShopDoes_place ShopDoes_unf ShopDoes_rec ShopDoes_named (by kernel_rfl)
theorem ShopDoes_nm : Tryz.prog.funcNamed Rows.shopDoesRow.func = some 5 := by kernel_rfl
theorem ShopDoes_inst : Func.isInstance Tryz.prog Tryz.f5 Rows.shopDoesRow.origin Rows.shopDoesRow.targs := of_decide_eq_true (by kernel_rfl)
theorem ShopDoes_wrap : Func.isWrapper Tryz.prog Tryz.f5 Rows.shopDoesRow.wrapper Rows.shopDoesRow.mainSum := by unfold Func.isWrapper; (rw [if_neg (by decide +kernel)]; exact ⟨rfl, rfl⟩)
theorem ShopDoes_holds : Rows.ShopDoesSaid :=
  OpenClaim.holds_of_wide 5 Tryz.f5 rfl rfl rfl rfl rfl rfl rfl ⟨rfl, rfl, rfl, rfl, rfl⟩ rfl rfl rfl rfl rfl ShopDoes_nm Tryz.func5 ShopDoes_closed ShopDoes_inst ShopDoes_wrap
    (fun os started H enc _ => ShopDoes_lifted os started H enc)
end Go.Proofs.YtpekghaodmeemaaGreat
