/- The statement shoproom holds: its own theorem, over the walks in the files before. -/
import Derived.Test.YtpekghaodmeemaaGreatZShopRoom7
set_option linter.unusedSimpArgs false
set_option linter.unusedVariables false
set_option linter.unusedSimpArgs false
set_option linter.unusedVariables false
set_option maxHeartbeats 800000
set_option maxRecDepth 100000
namespace Go.Proofs.YtpekghaodmeemaaGreat
open Go.ChangeShapes Go.WideShapes Go.ChangeAt Go.RowKit
theorem ShopRoom_walk {H : Type} {enc : TypeId × Value → H} (W : World) (base : Nat) (args : Array Value) (ds : List (DataW H)) (ps : List MemPlace)
    (hval : ∀ (j : Nat) t v, Tryz.f4.params[j]? = some t → args[j]? = some v → Value.okWide Tryz.prog W .any base t v)
    (hA : DataW.TrodAll enc Tryz.prog W 0 (fun _ => true) true Tryz.f4.params.toList args.toList ds ps) (hwt : ∀ x ∈ DataW.weightsEach Tryz.prog Tryz.f4.params.toList ds, x ≤ reachBytes) :
    CallR Tryz.prog 4 args W fun v W' => v = .bool true ∧ Ext W W' := by
  rw [Tryz.params4] at hA hval hwt
  obtain ⟨v0, v1, v2, d0, d1, d2, p0, p1, p2, rfl, rfl, rfl, h0, h1, h2⟩ := trodAll_three hA
  replace hwt : ∀ x ∈ DataW.weightsEach Tryz.prog [22, 29, 30] [d0, d1, d2], x ≤ reachBytes := hwt
  obtain ⟨A0, n0, c0, xs0, rfl, hnc0, hcm0, hr0, hok0, hd0⟩ := open_slice U22 fl66 (sz := 21) rfl (by kernel_rfl) (by decide) (hval 0 22 v0 rfl rfl) h0
  have hb0 := slice_weight (by' := 40) U22 (by kernel_rfl) hwt hd0
  replace hwt := rest_weight hwt
  obtain ⟨cs1, rfl, hk1⟩ := open_flat U29 rfl fl29 (hval 1 29 v1 rfl rfl) h1
  replace hwt := rest_weight hwt
  obtain ⟨A2, n2, c2, xs2, rfl, hnc2, hcm2, hr2, hok2, hd2⟩ := open_slice U30 fl27 (sz := 19) rfl (by kernel_rfl) (by decide) (hval 2 30 v2 rfl rfl) h2
  have hb2 := slice_weight (by' := 40) U30 (by kernel_rfl) hwt hd2
  replace hwt := rest_weight hwt
  obtain ⟨l0, hl0, rfl, hv0⟩ := open_rows hr0 hok0
  subst hl0
  obtain ⟨r, x, m, rfl, hr8, hx⟩ := ask18_open (show AllOk W (ask18Ks.map LK.int) cs1 from hk1)
  obtain ⟨l2, hl2, rfl, hv2⟩ := open_ops hr2 hok2
  subst hl2
  exact c_ShopRoom W A0 c0 l0 hr0 hv0 (by simp only [reachBytes] at hb0; omega) r hr8 x hx m A2 c2 l2 hr2 hv2
theorem ShopRoom_lifted (os : Os) (started : os.Started) (H : Type) (enc : TypeId × Value → H) :
    ReturnsInHanded {} Tryz.checked os 4 .any (Rows.shopRoomSpec.pre6 enc Tryz.prog Tryz.f4 Rows.shopRoomRow.domain false) (Rows.shopRoomSpec.post enc Tryz.prog Tryz.f4 false true false false) :=
  law_lifted (C := Tryz.checked) (tb := 4) own0 started (by kernel_rfl) Tryz.func4 ⟨#[], #[.slice none 0 0, .agg #[.int .u8 0, .int .i64 0, .int .u16 0, .int .u8 0, .int .u8 0, .int .u8 0, .int .u8 0, .int .u8 0, .int .u8 0, .int .u8 0, .int .u8 0, .int .i64 0, .int .u8 0, .int .u8 0, .int .u8 0, .int .u8 0, .int .u8 0, .int .u8 0, .int .u8 0, .int .u8 0, .int .i64 0], .slice none 0 0], []⟩ 8 (by kernel_rfl) (by kernel_rfl) (by kernel_rfl) (by kernel_rfl) (by kernel_rfl) laidOut0 rfl (by kernel_rfl)
    (fun ds hds => by match ds, hds with | [d0, d1, d2], _ => rfl) rfl U4 (fun W base args ds ps hval hA hwt => ShopRoom_walk W base args ds ps hval hA hwt)
theorem ShopRoom_place : Tryz.prog.inPlace 4 = Rows.shopRoomRow.inPlace := by kernel_rfl
theorem ShopRoom_unf : Tryz.prog.unfollowed 4 = Rows.shopRoomRow.unfollowed := by kernel_rfl
theorem ShopRoom_rec : Tryz.prog.recurses 4 = Rows.shopRoomRow.recurses := by kernel_rfl
theorem ShopRoom_named : Tryz.prog.varsNamed 4 = Rows.shopRoomRow.named := by kernel_rfl
theorem ShopRoom_closed : joinedFacts Tryz.prog 4 Tryz.f4 Rows.shopRoomSpec Rows.shopRoomRow = true :=
  closed_of p_make p_lifts p_enter laidOut0 p_rowed p_stops p_knobs p_keys p_heard ShopRoom_place ShopRoom_unf ShopRoom_rec ShopRoom_named (by kernel_rfl)
theorem ShopRoom_nm : Tryz.prog.funcNamed Rows.shopRoomRow.func = some 4 := by kernel_rfl
theorem ShopRoom_inst : Func.isInstance Tryz.prog Tryz.f4 Rows.shopRoomRow.origin Rows.shopRoomRow.targs := of_decide_eq_true (by kernel_rfl)
theorem ShopRoom_wrap : Func.isWrapper Tryz.prog Tryz.f4 Rows.shopRoomRow.wrapper Rows.shopRoomRow.mainSum := by unfold Func.isWrapper; (rw [if_neg (by decide +kernel)]; exact ⟨rfl, rfl⟩)
theorem ShopRoom_holds : Rows.ShopRoomSaid :=
  OpenClaim.holds_of_wide 4 Tryz.f4 rfl rfl rfl rfl rfl rfl rfl ⟨rfl, rfl, rfl, rfl, rfl⟩ rfl rfl rfl rfl rfl ShopRoom_nm Tryz.func4 ShopRoom_closed ShopRoom_inst ShopRoom_wrap
    (fun os started H enc _ => ShopRoom_lifted os started H enc)
end Go.Proofs.YtpekghaodmeemaaGreat
