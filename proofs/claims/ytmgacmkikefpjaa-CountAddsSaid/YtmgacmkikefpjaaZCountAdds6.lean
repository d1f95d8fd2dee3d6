/- The statement countadds holds: its own theorem, over the walks in the files before. -/
import Derived.Test.YtmgacmkikefpjaaZCountAdds5
set_option linter.unusedSimpArgs false
set_option linter.unusedVariables false
set_option linter.unusedSimpArgs false
set_option linter.unusedVariables false
set_option maxHeartbeats 800000
set_option maxRecDepth 100000
namespace Go.Proofs.Ytmgacmkikefpjaa
open Go.ChangeShapes Go.WideShapes Go.ChangeAt Go.RowKit
theorem CountAdds_walk {H : Type} {enc : TypeId × Value → H} (W : World) (base : Nat) (args : Array Value) (ds : List (DataW H)) (ps : List MemPlace)
    (hval : ∀ (j : Nat) t v, Try.f16.params[j]? = some t → args[j]? = some v → Value.okWide Try.prog W .any base t v)
    (hA : DataW.TrodAll enc Try.prog W 0 (fun _ => true) true Try.f16.params.toList args.toList ds ps) (hwt : ∀ x ∈ DataW.weightsEach Try.prog Try.f16.params.toList ds, x ≤ reachBytes) :
    CallR Try.prog 16 args W fun v W' => v = .bool true ∧ Ext W W' := by
  rw [Try.params16] at hA hval hwt
  obtain ⟨v0, v1, v2, d0, d1, d2, p0, p1, p2, rfl, rfl, rfl, h0, h1, h2⟩ := trodAll_three hA
  replace hwt : ∀ x ∈ DataW.weightsEach Try.prog [24, 83, 83] [d0, d1, d2], x ≤ reachBytes := hwt
  obtain ⟨A0, n0, c0, xs0, rfl, hnc0, hcm0, hr0, hok0, hd0⟩ := open_slice Try.underlying24 fl39 (sz := 21) rfl (by kernel_rfl) (by decide) (hval 0 24 v0 rfl rfl) h0
  have hb0 := slice_weight (by' := 40) Try.underlying24 (by kernel_rfl) hwt hd0
  replace hwt := rest_weight hwt
  obtain ⟨cs1, rfl, hk1⟩ := open_flat Try.underlying83 rfl fl83 (hval 1 83 v1 rfl rfl) h1
  replace hwt := rest_weight hwt
  obtain ⟨cs2, rfl, hk2⟩ := open_flat Try.underlying83 rfl fl83 (hval 2 83 v2 rfl rfl) h2
  replace hwt := rest_weight hwt
  obtain ⟨l0, hl0, rfl, hv0⟩ := open_rows hr0 hok0
  subst hl0
  obtain ⟨r, ct, it, n, rfl, hr8, hct, h8, hbt, hn1, hn2⟩ := ask15_open (show AllOk W (ask15Ks.map LK.int) cs1 from hk1)
  obtain ⟨r2, ct2, it2, nb, rfl, hr82, hct2, h82, hbt2, hnb1, hnb2⟩ := ask15_open (show AllOk W (ask15Ks.map LK.int) cs2 from hk2)
  exact c_CountAdds W A0 c0 l0 hr0 hv0 (by simp only [reachBytes] at hb0; omega) r hr8 ct hct it h8 hbt n hn1 hn2 r2 hr82 ct2 hct2 it2 h82 hbt2 nb hnb1 hnb2
theorem CountAdds_lifted (os : Os) (started : os.Started) (H : Type) (enc : TypeId × Value → H) :
    ReturnsInHanded {} Try.checked os 16 .any (Rows.countAddsSpec.pre6 enc Try.prog Try.f16 Rows.countAddsRow.domain false) (Rows.countAddsSpec.post enc Try.prog Try.f16 false true false false) :=
  law_lifted (C := Try.checked) (tb := 4) own0 started (by kernel_rfl) Try.func16 ⟨#[], #[.slice none 0 0, .agg #[.int .u8 0, .int .u16 0, .int .u8 0, .int .u8 0, .int .u8 0, .int .u8 0, .int .u8 0, .int .u8 0, .int .u8 0, .int .u8 0, .int .i64 0], .agg #[.int .u8 0, .int .u16 0, .int .u8 0, .int .u8 0, .int .u8 0, .int .u8 0, .int .u8 0, .int .u8 0, .int .u8 0, .int .u8 0, .int .i64 0]], []⟩ 8 (by kernel_rfl) (by kernel_rfl) (by kernel_rfl) (by kernel_rfl) (by kernel_rfl) laidOut0 rfl (by kernel_rfl)
    (fun ds hds => by match ds, hds with | [d0, d1, d2], _ => rfl) rfl Try.underlying4 (fun W base args ds ps hval hA hwt => CountAdds_walk W base args ds ps hval hA hwt)
theorem CountAdds_place : Try.prog.inPlace 16 = Rows.countAddsRow.inPlace := by kernel_rfl
theorem CountAdds_unf : Try.prog.unfollowed 16 = Rows.countAddsRow.unfollowed := by kernel_rfl
theorem CountAdds_rec : Try.prog.recurses 16 = Rows.countAddsRow.recurses := by kernel_rfl
theorem CountAdds_named : Try.prog.varsNamed 16 = Rows.countAddsRow.named := by kernel_rfl
theorem CountAdds_closed : joinedFacts Try.prog 16 Try.f16 Rows.countAddsSpec Rows.countAddsRow = true :=
  closed_of p_make p_lifts p_enter laidOut0 p_rowed p_stops p_knobs p_keys p_heard CountAdds_place CountAdds_unf CountAdds_rec CountAdds_named (by kernel_rfl)
theorem CountAdds_nm : Try.prog.funcNamed Rows.countAddsRow.func = some 16 := by kernel_rfl
theorem CountAdds_inst : Func.isInstance Try.prog Try.f16 Rows.countAddsRow.origin Rows.countAddsRow.targs := of_decide_eq_true (by kernel_rfl)
theorem CountAdds_wrap : Func.isWrapper Try.prog Try.f16 Rows.countAddsRow.wrapper Rows.countAddsRow.mainSum := by unfold Func.isWrapper; (rw [if_neg (by decide +kernel)]; exact ⟨rfl, rfl⟩)
theorem CountAdds_holds : Rows.CountAddsSaid :=
  OpenClaim.holds_of_wide 16 Try.f16 rfl rfl rfl rfl rfl rfl rfl ⟨rfl, rfl, rfl, rfl, rfl⟩ rfl rfl rfl rfl rfl CountAdds_nm Try.func16 CountAdds_closed CountAdds_inst CountAdds_wrap
    (fun os started H enc _ => CountAdds_lifted os started H enc)
end Go.Proofs.Ytmgacmkikefpjaa
