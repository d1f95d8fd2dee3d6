/- The statement boundatoms holds: its own theorem, over the walks in the files before. -/
import Derived.Test.YtpjpaipkkcengaaZBoundAtoms3
set_option linter.unusedSimpArgs false
set_option linter.unusedVariables false
set_option linter.unusedSimpArgs false
set_option linter.unusedVariables false
set_option maxHeartbeats 800000
set_option maxRecDepth 100000
namespace Go.Proofs.Ytpjpaipkkcengaa
open Go.ChangeShapes Go.WideShapes Go.ChangeAt Go.RowKit
theorem BoundAtoms_walk {H : Type} {enc : TypeId × Value → H} (W : World) (base : Nat) (args : Array Value) (ds : List (DataW H)) (ps : List MemPlace)
    (hval : ∀ (j : Nat) t v, Try.f8.params[j]? = some t → args[j]? = some v → Value.okWide Try.prog W .any base t v)
    (hA : DataW.TrodAll enc Try.prog W 0 (fun _ => true) true Try.f8.params.toList args.toList ds ps) (hwt : ∀ x ∈ DataW.weightsEach Try.prog Try.f8.params.toList ds, x ≤ reachBytes) :
    CallR Try.prog 8 args W fun v W' => v = .bool true ∧ Ext W W' := by
  rw [Try.params8] at hA hval hwt
  obtain ⟨v0, d0, rfl, rfl, h0⟩ := trodAll_one hA
  replace hwt : ∀ x ∈ DataW.weightsEach Try.prog [79] [d0], x ≤ reachBytes := hwt
  obtain ⟨cs0, rfl, hk0⟩ := open_flat Try.underlying79 rfl fl79 (hval 0 79 v0 rfl rfl) h0
  replace hwt := rest_weight hwt
  obtain ⟨a, rfl, ha⟩ := atom_open (show AllOk W (atomKs.map LK.int) cs0 from hk0)
  exact c_BoundAtoms a ha W
theorem BoundAtoms_lifted (os : Os) (started : os.Started) (H : Type) (enc : TypeId × Value → H) :
    ReturnsInHanded {} Try.checked os 8 .any (Rows.boundAtomsSpec.pre6 enc Try.prog Try.f8 Rows.boundAtomsRow.domain false) (Rows.boundAtomsSpec.post enc Try.prog Try.f8 false true false false) :=
  law_lifted (C := Try.checked) (tb := 4) own0 started (by kernel_rfl) Try.func8 ⟨#[], #[.agg #[.int .u8 0, .int .u16 0, .int .u8 0, .int .u8 0, .int .u8 0, .int .u8 0, .int .u8 0, .int .u8 0, .int .u8 0, .int .u8 0, .int .u8 0, .int .u32 0, .int .u64 0, .int .u8 0, .int .u8 0, .int .u8 0, .int .u8 0, .int .u8 0, .int .u8 0, .int .u8 0, .int .u8 0]], []⟩ 8 (by kernel_rfl) (by kernel_rfl) (by kernel_rfl) (by kernel_rfl) (by kernel_rfl) laidOut0 rfl (by kernel_rfl)
    (fun ds hds => by match ds, hds with | [d0], _ => rfl) rfl Try.underlying4 (fun W base args ds ps hval hA hwt => BoundAtoms_walk W base args ds ps hval hA hwt)
theorem BoundAtoms_place : Try.prog.inPlace 8 = Rows.boundAtomsRow.inPlace := by kernel_rfl
theorem BoundAtoms_unf : Try.prog.unfollowed 8 = Rows.boundAtomsRow.unfollowed := by kernel_rfl
theorem BoundAtoms_rec : Try.prog.recurses 8 = Rows.boundAtomsRow.recurses := by kernel_rfl
theorem BoundAtoms_named : Try.prog.varsNamed 8 = Rows.boundAtomsRow.named := by kernel_rfl
theorem BoundAtoms_closed : joinedFacts Try.prog 8 Try.f8 Rows.boundAtomsSpec Rows.boundAtomsRow = true :=
  closed_of p_make p_lifts p_enter laidOut0 p_rowed p_stops p_knobs p_keys p_heard BoundAtoms_place BoundAtoms_unf BoundAtoms_rec BoundAtoms_named (by kernel_rfl)
theorem BoundAtoms_nm : Try.prog.funcNamed Rows.boundAtomsRow.func = some 8 := by kernel_rfl
theorem BoundAtoms_inst : Func.isInstance Try.prog Try.f8 Rows.boundAtomsRow.origin Rows.boundAtomsRow.targs := of_decide_eq_true (by kernel_rfl)
theorem BoundAtoms_wrap : Func.isWrapper Try.prog Try.f8 Rows.boundAtomsRow.wrapper Rows.boundAtomsRow.mainSum := by unfold Func.isWrapper; (rw [if_neg (by decide +kernel)]; exact ⟨rfl, rfl⟩)
theorem BoundAtoms_holds : Rows.BoundAtomsSaid :=
  OpenClaim.holds_of_wide 8 Try.f8 rfl rfl rfl rfl rfl rfl rfl ⟨rfl, rfl, rfl, rfl, rfl⟩ rfl rfl rfl rfl rfl BoundAtoms_nm Try.func8 BoundAtoms_closed BoundAtoms_inst BoundAtoms_wrap
    (fun os started H enc _ => BoundAtoms_lifted os started H enc)
end Go.Proofs.Ytpjpaipkkcengaa
