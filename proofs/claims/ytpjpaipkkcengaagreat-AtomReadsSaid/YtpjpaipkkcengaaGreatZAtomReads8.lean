/- The statement atomreads holds: its own theorem, over the walks in the files before. -/
import Derived.Test.YtpjpaipkkcengaaGreatZAtomReads7
set_option linter.unusedSimpArgs false
set_option linter.unusedVariables false
set_option linter.unusedSimpArgs false
set_option linter.unusedVariables false
set_option maxHeartbeats 800000
set_option maxRecDepth 100000
namespace Go.Proofs.YtpjpaipkkcengaaGreat
open Go.ChangeShapes Go.WideShapes Go.ChangeAt Go.RowKit
theorem AtomReads_walk {H : Type} {enc : TypeId × Value → H} (W : World) (base : Nat) (args : Array Value) (ds : List (DataW H)) (ps : List MemPlace)
    (hval : ∀ (j : Nat) t v, Tryz.f3.params[j]? = some t → args[j]? = some v → Value.okWide Tryz.prog W .any base t v)
    (hA : DataW.TrodAll enc Tryz.prog W 0 (fun _ => true) true Tryz.f3.params.toList args.toList ds ps) (hwt : ∀ x ∈ DataW.weightsEach Tryz.prog Tryz.f3.params.toList ds, x ≤ reachBytes) :
    CallR Tryz.prog 3 args W fun v W' => v = .bool true ∧ Ext W W' := by
  rw [Tryz.params3] at hA hval hwt
  obtain ⟨v0, v1, v2, d0, d1, d2, p0, p1, p2, rfl, rfl, rfl, h0, h1, h2⟩ := trodAll_three hA
  replace hwt : ∀ x ∈ DataW.weightsEach Tryz.prog [32, 33, 28] [d0, d1, d2], x ≤ reachBytes := hwt
  obtain ⟨cs0, rfl, hk0⟩ := open_flat Tryz.underlying32 rfl fl32 (hval 0 32 v0 rfl rfl) h0
  replace hwt := rest_weight hwt
  obtain ⟨A1, n1, c1, l1, rfl, hnc1, hr1, hl1, hw1, hd1⟩ := open_ints Tryz.underlying33 Tryz.underlying5 (by kernel_rfl) (hval 1 33 v1 rfl rfl) h1
  have hb1 := slice_weight (by' := 1) Tryz.underlying33 (by kernel_rfl) hwt hd1
  replace hwt := rest_weight hwt
  obtain ⟨a2, rfl, rfl, rfl, wf2⟩ := open_int Tryz.underlying28 (hval 2 28 v2 rfl rfl) h2
  replace hwt := rest_weight hwt
  obtain ⟨a, rfl, ha⟩ := atom_open (show AllOk W (atomKs.map LK.int) cs0 from hk0)
  have hs2 := bounds_u64 wf2
  obtain ⟨sd, rfl⟩ := Int.eq_ofNat_of_zero_le hs2.1
  simp only [reachBytes] at hb1
  subst hl1
  exact c_AtomReads W a ha A1 c1 l1 hr1 (byt_of_wf hw1) hnc1 (by omega) sd (by omega)
theorem AtomReads_lifted (os : Os) (started : os.Started) (H : Type) (enc : TypeId × Value → H) :
    ReturnsInHanded {} Tryz.checked os 3 .any (Rows.atomReadsSpec.pre6 enc Tryz.prog Tryz.f3 Rows.atomReadsRow.domain false) (Rows.atomReadsSpec.post enc Tryz.prog Tryz.f3 false true false false) :=
  law_lifted (C := Tryz.checked) (tb := 4) own0 started (by kernel_rfl) Tryz.func3 ⟨#[], #[.agg #[.int .u8 0, .int .u16 0, .int .u8 0, .int .u8 0, .int .u8 0, .int .u8 0, .int .u8 0, .int .u8 0, .int .u8 0, .int .u8 0, .int .u8 0, .int .u32 0, .int .u64 0, .int .u8 0, .int .u8 0, .int .u8 0, .int .u8 0, .int .u8 0, .int .u8 0, .int .u8 0, .int .u8 0], .slice none 0 0, .int .u64 0], []⟩ 8 (by kernel_rfl) (by kernel_rfl) (by kernel_rfl) (by kernel_rfl) (by kernel_rfl) laidOut0 rfl (by kernel_rfl)
    (fun ds hds => by match ds, hds with | [d0, d1, d2], _ => rfl) rfl Tryz.underlying4 (fun W base args ds ps hval hA hwt => AtomReads_walk W base args ds ps hval hA hwt)
theorem AtomReads_place : Tryz.prog.inPlace 3 = Rows.atomReadsRow.inPlace := by kernel_rfl
theorem AtomReads_unf : Tryz.prog.unfollowed 3 = Rows.atomReadsRow.unfollowed := by kernel_rfl
theorem AtomReads_rec : Tryz.prog.recurses 3 = Rows.atomReadsRow.recurses := by kernel_rfl
theorem AtomReads_named : Tryz.prog.varsNamed 3 = Rows.atomReadsRow.named := by kernel_rfl
theorem AtomReads_closed : joinedFacts Tryz.prog 3 Tryz.f3 Rows.atomReadsSpec Rows.atomReadsRow = true :=
  closed_of p_make p_lifts p_enter laidOut0 p_rowed p_stops p_knobs p_keys p_heard AtomReads_place AtomReads_unf AtomReads_rec AtomReads_named (by kernel_rfl)
theorem AtomReads_nm : Tryz.prog.funcNamed Rows.atomReadsRow.func = some 3 := by kernel_rfl
theorem AtomReads_inst : Func.isInstance Tryz.prog Tryz.f3 Rows.atomReadsRow.origin Rows.atomReadsRow.targs := of_decide_eq_true (by kernel_rfl)
theorem AtomReads_wrap : Func.isWrapper Tryz.prog Tryz.f3 Rows.atomReadsRow.wrapper Rows.atomReadsRow.mainSum := by unfold Func.isWrapper; (rw [if_neg (by decide +kernel)]; exact ⟨rfl, rfl⟩)
theorem AtomReads_holds : Rows.AtomReadsSaid :=
  OpenClaim.holds_of_wide 3 Tryz.f3 rfl rfl rfl rfl rfl rfl rfl ⟨rfl, rfl, rfl, rfl, rfl⟩ rfl rfl rfl rfl rfl AtomReads_nm Tryz.func3 AtomReads_closed AtomReads_inst AtomReads_wrap
    (fun os started H enc _ => AtomReads_lifted os started H enc)
end Go.Proofs.YtpjpaipkkcengaaGreat
