/- The statement atomback holds: its own theorem, over the walks in the files before. -/
import Derived.Test.YtpjpaipkkcengaaZAtomBack4
set_option linter.unusedSimpArgs false
set_option linter.unusedVariables false
set_option linter.unusedSimpArgs false
set_option linter.unusedVariables false
set_option maxHeartbeats 800000
set_option maxRecDepth 100000
namespace Go.Proofs.Ytpjpaipkkcengaa
open Go.ChangeShapes Go.WideShapes Go.ChangeAt Go.RowKit

theorem allOk_split {w : World} : ∀ {ks js : List LK} {cs : List Value}, AllOk w (ks ++ js) cs → ∃ a b, cs = a ++ b ∧ AllOk w ks a ∧ AllOk w js b
  | [], _, cs, h => ⟨[], cs, rfl, trivial, h⟩
  | _ :: _, _, [], h => h.elim
  | k :: ks, js, v :: cs, h => by
    obtain ⟨a, b, rfl, h1, h2⟩ := allOk_split (ks := ks) h.2
    exact ⟨v :: a, b, rfl, ⟨h.1, h1⟩, h2⟩
theorem val3_open {w : World} {cs : List Value} (h : AllOk w (valKs.map LK.int ++ (valKs.map LK.int ++ valKs.map LK.int)) cs) : ∃ x y z, cs = zi (valKs ++ valKs ++ valKs) (x ++ y ++ z) ∧ ValOk x ∧ ValOk y ∧ ValOk z := by
  obtain ⟨a, r, rfl, h1, h2⟩ := allOk_split h
  obtain ⟨b, c, rfl, h2, h3⟩ := allOk_split h2
  obtain ⟨x, rfl, hx⟩ := val_open h1
  obtain ⟨y, rfl, hy⟩ := val_open h2
  obtain ⟨z, rfl, hz⟩ := val_open h3
  refine ⟨x, y, z, ?_, hx, hy, hz⟩
  rw [zi_app (by simp [hx.len, hy.len]), zi_app (by simpa using hx.len), List.append_assoc]

theorem AtomBack_walk {H : Type} {enc : TypeId × Value → H} (W : World) (base : Nat) (args : Array Value) (ds : List (DataW H)) (ps : List MemPlace)
    (hval : ∀ (j : Nat) t v, Try.f7.params[j]? = some t → args[j]? = some v → Value.okWide Try.prog W .any base t v)
    (hA : DataW.TrodAll enc Try.prog W 0 (fun _ => true) true Try.f7.params.toList args.toList ds ps) (hwt : ∀ x ∈ DataW.weightsEach Try.prog Try.f7.params.toList ds, x ≤ reachBytes) :
    CallR Try.prog 7 args W fun v W' => v = .bool true ∧ Ext W W' := by
  rw [Try.params7] at hA hval hwt
  obtain ⟨v0, v1, v2, d0, d1, d2, p0, p1, p2, rfl, rfl, rfl, h0, h1, h2⟩ := trodAll_three hA
  replace hwt : ∀ x ∈ DataW.weightsEach Try.prog [79, 43, 80] [d0, d1, d2], x ≤ reachBytes := hwt
  obtain ⟨cs0, rfl, hk0⟩ := open_flat Try.underlying79 rfl fl79 (hval 0 79 v0 rfl rfl) h0
  replace hwt := rest_weight hwt
  obtain ⟨A1, n1, c1, l1, rfl, hnc1, hr1, hl1, hw1, hd1⟩ := open_ints Try.underlying43 Try.underlying5 (by kernel_rfl) (hval 1 43 v1 rfl rfl) h1
  have hb1 := slice_weight (by' := 1) Try.underlying43 (by kernel_rfl) hwt hd1
  replace hwt := rest_weight hwt
  obtain ⟨cs2, rfl, hk2⟩ := open_flat Try.underlying80 rfl fl80 (hval 2 80 v2 rfl rfl) h2
  replace hwt := rest_weight hwt
  obtain ⟨a, rfl, ha⟩ := atom_open (show AllOk W (atomKs.map LK.int) cs0 from hk0)
  obtain ⟨x, y, z, rfl, hx, hy, hz⟩ := val3_open (show AllOk W (valKs.map LK.int ++ (valKs.map LK.int ++ valKs.map LK.int)) cs2 from hk2)
  subst hl1
  exact c_AtomBack W a ha A1 c1 l1 hr1 (byt_of_wf hw1) hnc1 (by simp only [reachBytes] at hb1; omega) x y z hx hy hz
theorem AtomBack_lifted (os : Os) (started : os.Started) (H : Type) (enc : TypeId × Value → H) :
    ReturnsInHanded {} Try.checked os 7 .any (Rows.atomBackSpec.pre6 enc Try.prog Try.f7 Rows.atomBackRow.domain false) (Rows.atomBackSpec.post enc Try.prog Try.f7 false true false false) :=
  law_lifted (C := Try.checked) (tb := 4) own0 started (by kernel_rfl) Try.func7 ⟨#[], #[.agg #[.int .u8 0, .int .u16 0, .int .u8 0, .int .u8 0, .int .u8 0, .int .u8 0, .int .u8 0, .int .u8 0, .int .u8 0, .int .u8 0, .int .u8 0, .int .u32 0, .int .u64 0, .int .u8 0, .int .u8 0, .int .u8 0, .int .u8 0, .int .u8 0, .int .u8 0, .int .u8 0, .int .u8 0], .slice none 0 0, .agg #[.int .u64 0, .int .u8 0, .int .u8 0, .int .u8 0, .int .u8 0, .int .u8 0, .int .u8 0, .int .u8 0, .int .u8 0, .int .u64 0, .int .u8 0, .int .u8 0, .int .u8 0, .int .u8 0, .int .u8 0, .int .u8 0, .int .u8 0, .int .u8 0, .int .u64 0, .int .u8 0, .int .u8 0, .int .u8 0, .int .u8 0, .int .u8 0, .int .u8 0, .int .u8 0, .int .u8 0]], []⟩ 8 (by kernel_rfl) (by kernel_rfl) (by kernel_rfl) (by kernel_rfl) (by kernel_rfl) laidOut0 rfl (by kernel_rfl)
    (fun ds hds => by match ds, hds with | [d0, d1, d2], _ => rfl) rfl Try.underlying4 (fun W base args ds ps hval hA hwt => AtomBack_walk W base args ds ps hval hA hwt)
theorem AtomBack_place : Try.prog.inPlace 7 = Rows.atomBackRow.inPlace := by kernel_rfl
theorem AtomBack_unf : Try.prog.unfollowed 7 = Rows.atomBackRow.unfollowed := by kernel_rfl
theorem AtomBack_rec : Try.prog.recurses 7 = Rows.atomBackRow.recurses := by kernel_rfl
theorem AtomBack_named : Try.prog.varsNamed 7 = Rows.atomBackRow.named := by kernel_rfl
theorem AtomBack_closed : joinedFacts Try.prog 7 Try.f7 Rows.atomBackSpec Rows.atomBackRow = true :=
  closed_of p_make p_lifts p_enter laidOut0 p_rowed p_stops p_knobs p_keys p_heard AtomBack_place AtomBack_unf AtomBack_rec AtomBack_named (by kernel_rfl)
theorem AtomBack_nm : Try.prog.funcNamed Rows.atomBackRow.func = some 7 := by kernel_rfl
theorem AtomBack_inst : Func.isInstance Try.prog Try.f7 Rows.atomBackRow.origin Rows.atomBackRow.targs := of_decide_eq_true (by kernel_rfl)
theorem AtomBack_wrap : Func.isWrapper Try.prog Try.f7 Rows.atomBackRow.wrapper Rows.atomBackRow.mainSum := by unfold Func.isWrapper; (rw [if_neg (by decide +kernel)]; exact ⟨rfl, rfl⟩)
theorem AtomBack_holds : Rows.AtomBackSaid :=
  OpenClaim.holds_of_wide 7 Try.f7 rfl rfl rfl rfl rfl rfl rfl ⟨rfl, rfl, rfl, rfl, rfl⟩ rfl rfl rfl rfl rfl AtomBack_nm Try.func7 AtomBack_closed AtomBack_inst AtomBack_wrap
    (fun os started H enc _ => AtomBack_lifted os started H enc)
end Go.Proofs.Ytpjpaipkkcengaa
