/- Contracts of functions, printed by a program of this seat (wip/tools/gen.py) out of its specs. -/
import Derived.Test.YtpjpaipkkcengaaDu
import Derived.Test.YtpjpaipkkcengaaTc
set_option linter.unusedSimpArgs false
set_option linter.unusedVariables false
set_option maxHeartbeats 800000
set_option maxRecDepth 100000
namespace Go.Proofs.Ytpjpaipkkcengaa
open Go.ChangeShapes Go.WideShapes Go.ChangeAt Go.RowKit

theorem WireBack_walk {H : Type} {enc : TypeId × Value → H} (W : World) (base : Nat) (args : Array Value) (ds : List (DataW H)) (ps : List MemPlace)
    (hval : ∀ (j : Nat) t v, Try.f4.params[j]? = some t → args[j]? = some v → Value.okWide Try.prog W .any base t v)
    (hA : DataW.TrodAll enc Try.prog W 0 (fun _ => true) true Try.f4.params.toList args.toList ds ps) (hwt : ∀ x ∈ DataW.weightsEach Try.prog Try.f4.params.toList ds, x ≤ reachBytes) :
    CallR Try.prog 4 args W fun v W' => v = .bool true ∧ Ext W W' := by
  rw [Try.params4] at hA hval hwt
  obtain ⟨v0, d0, rfl, rfl, h0⟩ := trodAll_one hA
  replace hwt : ∀ x ∈ DataW.weightsEach Try.prog [36] [d0], x ≤ reachBytes := hwt
  obtain ⟨A0, n0, c0, xs0, rfl, hnc0, hcm0, hr0, hok0, hd0⟩ := open_slice Try.underlying36 fl45 (sz := 13) rfl (by kernel_rfl) (by decide) (hval 0 36 v0 rfl rfl) h0
  have hb0 := slice_weight (by' := 64) Try.underlying36 (by kernel_rfl) hwt hd0
  replace hwt := rest_weight hwt
  obtain ⟨ps, hpl, rfl, hps⟩ := rows_open (cells := pcL) (sz := 13) (fun cs h => pc_open (show AllOk W pcKs cs from h)) n0 xs0 hr0.1 hok0
  exact c_WireBack W A0 n0 c0 ps hr0 hpl hps hnc0 (by simp only [reachBytes] at hb0; omega)

theorem WireBack_lifted (os : Os) (started : os.Started) (H : Type) (enc : TypeId × Value → H) :
    ReturnsInHanded {} Try.checked os 4 .any (Rows.wireBackSpec.pre6 enc Try.prog Try.f4 Rows.wireBackRow.domain false) (Rows.wireBackSpec.post enc Try.prog Try.f4 false true false false) :=
  law_lifted (C := Try.checked) (tb := 4) own0 started (by kernel_rfl) Try.func4 ⟨#[], #[.slice none 0 0], []⟩ 8 (by kernel_rfl) (by kernel_rfl) (by kernel_rfl) (by kernel_rfl) (by kernel_rfl) laidOut0 rfl (by kernel_rfl)
    (fun ds hds => by match ds, hds with | [d0], _ => rfl) rfl Try.underlying4 (fun W base args ds ps hval hA hwt => WireBack_walk W base args ds ps hval hA hwt)

theorem WireBack_place : Try.prog.inPlace 4 = Rows.wireBackRow.inPlace := by kernel_rfl
theorem WireBack_unf : Try.prog.unfollowed 4 = Rows.wireBackRow.unfollowed := by kernel_rfl
theorem WireBack_rec : Try.prog.recurses 4 = Rows.wireBackRow.recurses := by kernel_rfl
theorem WireBack_named : Try.prog.varsNamed 4 = Rows.wireBackRow.named := by kernel_rfl
theorem WireBack_closed : joinedFacts Try.prog 4 Try.f4 Rows.wireBackSpec Rows.wireBackRow = true :=
  closed_of p_make p_lifts p_enter laidOut0 p_rowed p_stops p_knobs p_keys p_heard WireBack_place WireBack_unf WireBack_rec WireBack_named (by kernel_rfl)
theorem WireBack_nm : Try.prog.funcNamed Rows.wireBackRow.func = some 4 := by kernel_rfl
theorem WireBack_inst : Func.isInstance Try.prog Try.f4 Rows.wireBackRow.origin Rows.wireBackRow.targs := of_decide_eq_true (by kernel_rfl)
theorem WireBack_wrap : Func.isWrapper Try.prog Try.f4 Rows.wireBackRow.wrapper Rows.wireBackRow.mainSum := by unfold Func.isWrapper; first | (rw [if_pos (by decide +kernel)]; kernel_rfl) | (rw [if_neg (by decide +kernel)]; exact ⟨rfl, rfl⟩)
theorem WireBack_holds : Rows.WireBackSaid :=
  OpenClaim.holds_of_wide 4 Try.f4 rfl rfl rfl rfl rfl rfl rfl ⟨rfl, rfl, rfl, rfl, rfl⟩ rfl rfl rfl rfl rfl WireBack_nm Try.func4 WireBack_closed WireBack_inst WireBack_wrap
    (fun os started H enc _ => WireBack_lifted os started H enc)
end Go.Proofs.Ytpjpaipkkcengaa
