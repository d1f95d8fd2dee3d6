/-
  No cell of these rows narrows 'for every input' (looked for: loops, veiled, ifaces, maps, wideKeys, modest, calm, conditions, laid).
  DERIVED. THE GIVEN ROWS OF THIS SEAT. 17 by the template 'for every input the law returns true; each argument reads behind the call as it read before'; 0 by the template 'total and deterministic' (their statements: YtpjpaipkkcengaaTotals.lean).
  GIVEN WITH THE SEED: the statements are not yours to turn. If you find one false, say at which input.
  Laid BY PROGRAM, IN A SANDBOX (cutbox-rows.mjs): the forced cells as the released guide's own fill.sh prints them over the translation 39029fb3389fef77… (all of the seat's roots in one cut). By AI agents, Wed Nov 11 2026. No macro, syntax, notation, axiom, sorry.
-/
import Derived.Test.YtpjpaipkkcengaaChecked
import GoSem.Claim
import GoSem.ClaimJoined
import GoSem.ClaimMapViews
import Derived.JoinedTies
import Derived.KernelRfl
namespace Go.Proofs.Ytpjpaipkkcengaa
/- THE CELL 'sum', in the pinned program and in every row, IS THE sha256 OF THE DUMP (.gsa) THAT YtpjpaipkkcengaaProg.lean LOADS. Nothing in Lean hashes anything: it is a label: what it is worth is what the hold of that sum in a sandbox is worth. -/
noncomputable def Try.pinned : Pinned := { name := "ytpjpaipkkcengaa", sum := "39029fb3389fef77e245fc6a0da5bc9fe7e59889d1c4786e445b57585ccf2bd9", checked := Try.checked }
namespace Rows
def none {H : Type} : Left H := { results := [], args := [] }

/-- 'handcartlaw12.VecCounts': WHATEVER THE INPUT: true; the input reads as it did. -/
def vecCountsSpec : ChangeSpec := { name := "vecCounts", fn := fun _ => fun
  | [d] => { results := [.lit (.bool true)], args := [d] }
  | _ => none }
def vecCountsRow : OpenClaim := { program := "ytpjpaipkkcengaa", sum := "39029fb3389fef77e245fc6a0da5bc9fe7e59889d1c4786e445b57585ccf2bd9", func := "handcart/handcartlaw12.VecCounts", spec := "vecCounts", unfollowed := true, recurses := true, plainKeys := false, apart := false }
def VecCountsSaid : Prop := vecCountsRow.holds Try.pinned (OpenSpec.ofChange vecCountsSpec)

/-- ITS FALSE NEIGHBOUR: 'it returns false'. Refute it at one input. -/
def vecCountsWrong : ChangeSpec := { name := "vecCounts", fn := fun _ => fun
  | [d] => { results := [.lit (.bool false)], args := [d] }
  | _ => none }
def VecCountsWrongFalsely : Prop := vecCountsRow.holds Try.pinned (OpenSpec.ofChange vecCountsWrong)

/-- 'handcartlaw07.WireBack': WHATEVER THE INPUT: true; the input reads as it did. -/
def wireBackSpec : ChangeSpec := { name := "wireBack", fn := fun _ => fun
  | [d] => { results := [.lit (.bool true)], args := [d] }
  | _ => none }
def wireBackRow : OpenClaim := { program := "ytpjpaipkkcengaa", sum := "39029fb3389fef77e245fc6a0da5bc9fe7e59889d1c4786e445b57585ccf2bd9", func := "handcart/handcartlaw07.WireBack", spec := "wireBack", unfollowed := true, recurses := true, plainKeys := false, apart := false }
def WireBackSaid : Prop := wireBackRow.holds Try.pinned (OpenSpec.ofChange wireBackSpec)

/-- ITS FALSE NEIGHBOUR: 'it returns false'. Refute it at one input. -/
def wireBackWrong : ChangeSpec := { name := "wireBack", fn := fun _ => fun
  | [d] => { results := [.lit (.bool false)], args := [d] }
  | _ => none }
def WireBackWrongFalsely : Prop := wireBackRow.holds Try.pinned (OpenSpec.ofChange wireBackWrong)

/-- 'handcartlaw08.KeyReads': WHATEVER THE INPUT: true; the input reads as it did. -/
def keyReadsSpec : ChangeSpec := { name := "keyReads", fn := fun _ => fun
  | [d1, d2] => { results := [.lit (.bool true)], args := [d1, d2] }
  | _ => none }
def keyReadsRow : OpenClaim := { program := "ytpjpaipkkcengaa", sum := "39029fb3389fef77e245fc6a0da5bc9fe7e59889d1c4786e445b57585ccf2bd9", func := "handcart/handcartlaw08.KeyReads", spec := "keyReads", unfollowed := true, recurses := true, plainKeys := false, apart := false }
def KeyReadsSaid : Prop := keyReadsRow.holds Try.pinned (OpenSpec.ofChange keyReadsSpec)

/-- ITS FALSE NEIGHBOUR: 'it returns false'. Refute it at one input. -/
def keyReadsWrong : ChangeSpec := { name := "keyReads", fn := fun _ => fun
  | [d1, d2] => { results := [.lit (.bool false)], args := [d1, d2] }
  | _ => none }
def KeyReadsWrongFalsely : Prop := keyReadsRow.holds Try.pinned (OpenSpec.ofChange keyReadsWrong)

/-- 'handcartlaw08.KeyBack': WHATEVER THE INPUT: true; the input reads as it did. -/
def keyBackSpec : ChangeSpec := { name := "keyBack", fn := fun _ => fun
  | [d1, d2, d3] => { results := [.lit (.bool true)], args := [d1, d2, d3] }
  | _ => none }
def keyBackRow : OpenClaim := { program := "ytpjpaipkkcengaa", sum := "39029fb3389fef77e245fc6a0da5bc9fe7e59889d1c4786e445b57585ccf2bd9", func := "handcart/handcartlaw08.KeyBack", spec := "keyBack", unfollowed := true, recurses := true, plainKeys := false, apart := false }
def KeyBackSaid : Prop := keyBackRow.holds Try.pinned (OpenSpec.ofChange keyBackSpec)

/-- ITS FALSE NEIGHBOUR: 'it returns false'. Refute it at one input. -/
def keyBackWrong : ChangeSpec := { name := "keyBack", fn := fun _ => fun
  | [d1, d2, d3] => { results := [.lit (.bool false)], args := [d1, d2, d3] }
  | _ => none }
def KeyBackWrongFalsely : Prop := keyBackRow.holds Try.pinned (OpenSpec.ofChange keyBackWrong)

/-- 'handcartlaw09.AtomBack': WHATEVER THE INPUT: true; the input reads as it did. -/
def atomBackSpec : ChangeSpec := { name := "atomBack", fn := fun _ => fun
  | [d1, d2, d3] => { results := [.lit (.bool true)], args := [d1, d2, d3] }
  | _ => none }
def atomBackRow : OpenClaim := { program := "ytpjpaipkkcengaa", sum := "39029fb3389fef77e245fc6a0da5bc9fe7e59889d1c4786e445b57585ccf2bd9", func := "handcart/handcartlaw09.AtomBack", spec := "atomBack", unfollowed := true, recurses := true, plainKeys := false, apart := false }
def AtomBackSaid : Prop := atomBackRow.holds Try.pinned (OpenSpec.ofChange atomBackSpec)

/-- ITS FALSE NEIGHBOUR: 'it returns false'. Refute it at one input. -/
def atomBackWrong : ChangeSpec := { name := "atomBack", fn := fun _ => fun
  | [d1, d2, d3] => { results := [.lit (.bool false)], args := [d1, d2, d3] }
  | _ => none }
def AtomBackWrongFalsely : Prop := atomBackRow.holds Try.pinned (OpenSpec.ofChange atomBackWrong)

/-- 'handcartlaw34.BoundAtoms': WHATEVER THE INPUT: true; the input reads as it did. -/
def boundAtomsSpec : ChangeSpec := { name := "boundAtoms", fn := fun _ => fun
  | [d] => { results := [.lit (.bool true)], args := [d] }
  | _ => none }
def boundAtomsRow : OpenClaim := { program := "ytpjpaipkkcengaa", sum := "39029fb3389fef77e245fc6a0da5bc9fe7e59889d1c4786e445b57585ccf2bd9", func := "handcart/handcartlaw34.BoundAtoms", spec := "boundAtoms", unfollowed := true, recurses := true, plainKeys := false, apart := false }
def BoundAtomsSaid : Prop := boundAtomsRow.holds Try.pinned (OpenSpec.ofChange boundAtomsSpec)

/-- ITS FALSE NEIGHBOUR: 'it returns false'. Refute it at one input. -/
def boundAtomsWrong : ChangeSpec := { name := "boundAtoms", fn := fun _ => fun
  | [d] => { results := [.lit (.bool false)], args := [d] }
  | _ => none }
def BoundAtomsWrongFalsely : Prop := boundAtomsRow.holds Try.pinned (OpenSpec.ofChange boundAtomsWrong)

/-- 'handcartlaw27.FrameReads': WHATEVER THE INPUT: true; the input reads as it did. -/
def frameReadsSpec : ChangeSpec := { name := "frameReads", fn := fun _ => fun
  | [d] => { results := [.lit (.bool true)], args := [d] }
  | _ => none }
def frameReadsRow : OpenClaim := { program := "ytpjpaipkkcengaa", sum := "39029fb3389fef77e245fc6a0da5bc9fe7e59889d1c4786e445b57585ccf2bd9", func := "handcart/handcartlaw27.FrameReads", spec := "frameReads", unfollowed := true, recurses := true, plainKeys := false, apart := false }
def FrameReadsSaid : Prop := frameReadsRow.holds Try.pinned (OpenSpec.ofChange frameReadsSpec)

/-- ITS FALSE NEIGHBOUR: 'it returns false'. Refute it at one input. -/
def frameReadsWrong : ChangeSpec := { name := "frameReads", fn := fun _ => fun
  | [d] => { results := [.lit (.bool false)], args := [d] }
  | _ => none }
def FrameReadsWrongFalsely : Prop := frameReadsRow.holds Try.pinned (OpenSpec.ofChange frameReadsWrong)

/-- 'handcartlaw27.FrameTurned': WHATEVER THE INPUT: true; the input reads as it did. -/
def frameTurnedSpec : ChangeSpec := { name := "frameTurned", fn := fun _ => fun
  | [d1, d2, d3] => { results := [.lit (.bool true)], args := [d1, d2, d3] }
  | _ => none }
def frameTurnedRow : OpenClaim := { program := "ytpjpaipkkcengaa", sum := "39029fb3389fef77e245fc6a0da5bc9fe7e59889d1c4786e445b57585ccf2bd9", func := "handcart/handcartlaw27.FrameTurned", spec := "frameTurned", unfollowed := true, recurses := true, plainKeys := false, apart := false }
def FrameTurnedSaid : Prop := frameTurnedRow.holds Try.pinned (OpenSpec.ofChange frameTurnedSpec)

/-- ITS FALSE NEIGHBOUR: 'it returns false'. Refute it at one input. -/
def frameTurnedWrong : ChangeSpec := { name := "frameTurned", fn := fun _ => fun
  | [d1, d2, d3] => { results := [.lit (.bool false)], args := [d1, d2, d3] }
  | _ => none }
def FrameTurnedWrongFalsely : Prop := frameTurnedRow.holds Try.pinned (OpenSpec.ofChange frameTurnedWrong)

/-- 'handcartlaw27.FrameBack': WHATEVER THE INPUT: true; the input reads as it did. -/
def frameBackSpec : ChangeSpec := { name := "frameBack", fn := fun _ => fun
  | [d1, d2] => { results := [.lit (.bool true)], args := [d1, d2] }
  | _ => none }
def frameBackRow : OpenClaim := { program := "ytpjpaipkkcengaa", sum := "39029fb3389fef77e245fc6a0da5bc9fe7e59889d1c4786e445b57585ccf2bd9", func := "handcart/handcartlaw27.FrameBack", spec := "frameBack", unfollowed := true, recurses := true, plainKeys := false, apart := false }
def FrameBackSaid : Prop := frameBackRow.holds Try.pinned (OpenSpec.ofChange frameBackSpec)

/-- ITS FALSE NEIGHBOUR: 'it returns false'. Refute it at one input. -/
def frameBackWrong : ChangeSpec := { name := "frameBack", fn := fun _ => fun
  | [d1, d2] => { results := [.lit (.bool false)], args := [d1, d2] }
  | _ => none }
def FrameBackWrongFalsely : Prop := frameBackRow.holds Try.pinned (OpenSpec.ofChange frameBackWrong)

/-- 'handcartlaw27.FrameCodes': WHATEVER THE INPUT: true; the input reads as it did. -/
def frameCodesSpec : ChangeSpec := { name := "frameCodes", fn := fun _ => fun
  | [d1, d2, d3] => { results := [.lit (.bool true)], args := [d1, d2, d3] }
  | _ => none }
def frameCodesRow : OpenClaim := { program := "ytpjpaipkkcengaa", sum := "39029fb3389fef77e245fc6a0da5bc9fe7e59889d1c4786e445b57585ccf2bd9", func := "handcart/handcartlaw27.FrameCodes", spec := "frameCodes", unfollowed := true, recurses := true, plainKeys := false, apart := false }
def FrameCodesSaid : Prop := frameCodesRow.holds Try.pinned (OpenSpec.ofChange frameCodesSpec)

/-- ITS FALSE NEIGHBOUR: 'it returns false'. Refute it at one input. -/
def frameCodesWrong : ChangeSpec := { name := "frameCodes", fn := fun _ => fun
  | [d1, d2, d3] => { results := [.lit (.bool false)], args := [d1, d2, d3] }
  | _ => none }
def FrameCodesWrongFalsely : Prop := frameCodesRow.holds Try.pinned (OpenSpec.ofChange frameCodesWrong)

/-- 'handcartlaw13.DotsAdds': WHATEVER THE INPUT: true; the input reads as it did. -/
def dotsAddsSpec : ChangeSpec := { name := "dotsAdds", fn := fun _ => fun
  | [d1, d2, d3] => { results := [.lit (.bool true)], args := [d1, d2, d3] }
  | _ => none }
def dotsAddsRow : OpenClaim := { program := "ytpjpaipkkcengaa", sum := "39029fb3389fef77e245fc6a0da5bc9fe7e59889d1c4786e445b57585ccf2bd9", func := "handcart/handcartlaw13.DotsAdds", spec := "dotsAdds", unfollowed := true, recurses := true, plainKeys := false, apart := false }
def DotsAddsSaid : Prop := dotsAddsRow.holds Try.pinned (OpenSpec.ofChange dotsAddsSpec)

/-- ITS FALSE NEIGHBOUR: 'it returns false'. Refute it at one input. -/
def dotsAddsWrong : ChangeSpec := { name := "dotsAdds", fn := fun _ => fun
  | [d1, d2, d3] => { results := [.lit (.bool false)], args := [d1, d2, d3] }
  | _ => none }
def DotsAddsWrongFalsely : Prop := dotsAddsRow.holds Try.pinned (OpenSpec.ofChange dotsAddsWrong)

/-- 'handcartlaw13.DotsAlone': WHATEVER THE INPUT: true; the input reads as it did. -/
def dotsAloneSpec : ChangeSpec := { name := "dotsAlone", fn := fun _ => fun
  | [d1, d2, d3] => { results := [.lit (.bool true)], args := [d1, d2, d3] }
  | _ => none }
def dotsAloneRow : OpenClaim := { program := "ytpjpaipkkcengaa", sum := "39029fb3389fef77e245fc6a0da5bc9fe7e59889d1c4786e445b57585ccf2bd9", func := "handcart/handcartlaw13.DotsAlone", spec := "dotsAlone", unfollowed := true, recurses := true, plainKeys := false, apart := false }
def DotsAloneSaid : Prop := dotsAloneRow.holds Try.pinned (OpenSpec.ofChange dotsAloneSpec)

/-- ITS FALSE NEIGHBOUR: 'it returns false'. Refute it at one input. -/
def dotsAloneWrong : ChangeSpec := { name := "dotsAlone", fn := fun _ => fun
  | [d1, d2, d3] => { results := [.lit (.bool false)], args := [d1, d2, d3] }
  | _ => none }
def DotsAloneWrongFalsely : Prop := dotsAloneRow.holds Try.pinned (OpenSpec.ofChange dotsAloneWrong)

/-- 'handcartlaw13.DotsJoins': WHATEVER THE INPUT: true; the input reads as it did. -/
def dotsJoinsSpec : ChangeSpec := { name := "dotsJoins", fn := fun _ => fun
  | [d1, d2] => { results := [.lit (.bool true)], args := [d1, d2] }
  | _ => none }
def dotsJoinsRow : OpenClaim := { program := "ytpjpaipkkcengaa", sum := "39029fb3389fef77e245fc6a0da5bc9fe7e59889d1c4786e445b57585ccf2bd9", func := "handcart/handcartlaw13.DotsJoins", spec := "dotsJoins", unfollowed := true, recurses := true, plainKeys := false, apart := false }
def DotsJoinsSaid : Prop := dotsJoinsRow.holds Try.pinned (OpenSpec.ofChange dotsJoinsSpec)

/-- ITS FALSE NEIGHBOUR: 'it returns false'. Refute it at one input. -/
def dotsJoinsWrong : ChangeSpec := { name := "dotsJoins", fn := fun _ => fun
  | [d1, d2] => { results := [.lit (.bool false)], args := [d1, d2] }
  | _ => none }
def DotsJoinsWrongFalsely : Prop := dotsJoinsRow.holds Try.pinned (OpenSpec.ofChange dotsJoinsWrong)

/-- 'handcartlaw10.LatAll': WHATEVER THE INPUT: true; the input reads as it did. -/
def latAllSpec : ChangeSpec := { name := "latAll", fn := fun _ => fun
  | [d1, d2] => { results := [.lit (.bool true)], args := [d1, d2] }
  | _ => none }
def latAllRow : OpenClaim := { program := "ytpjpaipkkcengaa", sum := "39029fb3389fef77e245fc6a0da5bc9fe7e59889d1c4786e445b57585ccf2bd9", func := "handcart/handcartlaw10.LatAll", spec := "latAll", unfollowed := true, recurses := true, plainKeys := false, apart := false }
def LatAllSaid : Prop := latAllRow.holds Try.pinned (OpenSpec.ofChange latAllSpec)

/-- ITS FALSE NEIGHBOUR: 'it returns false'. Refute it at one input. -/
def latAllWrong : ChangeSpec := { name := "latAll", fn := fun _ => fun
  | [d1, d2] => { results := [.lit (.bool false)], args := [d1, d2] }
  | _ => none }
def LatAllWrongFalsely : Prop := latAllRow.holds Try.pinned (OpenSpec.ofChange latAllWrong)

/-- 'handcartlaw10.LatNorms': WHATEVER THE INPUT: true; the input reads as it did. -/
def latNormsSpec : ChangeSpec := { name := "latNorms", fn := fun _ => fun
  | [d1, d2] => { results := [.lit (.bool true)], args := [d1, d2] }
  | _ => none }
def latNormsRow : OpenClaim := { program := "ytpjpaipkkcengaa", sum := "39029fb3389fef77e245fc6a0da5bc9fe7e59889d1c4786e445b57585ccf2bd9", func := "handcart/handcartlaw10.LatNorms", spec := "latNorms", unfollowed := true, recurses := true, plainKeys := false, apart := false }
def LatNormsSaid : Prop := latNormsRow.holds Try.pinned (OpenSpec.ofChange latNormsSpec)

/-- ITS FALSE NEIGHBOUR: 'it returns false'. Refute it at one input. -/
def latNormsWrong : ChangeSpec := { name := "latNorms", fn := fun _ => fun
  | [d1, d2] => { results := [.lit (.bool false)], args := [d1, d2] }
  | _ => none }
def LatNormsWrongFalsely : Prop := latNormsRow.holds Try.pinned (OpenSpec.ofChange latNormsWrong)

/-- 'handcartlaw10.LatJoins': WHATEVER THE INPUT: true; the input reads as it did. -/
def latJoinsSpec : ChangeSpec := { name := "latJoins", fn := fun _ => fun
  | [d1, d2] => { results := [.lit (.bool true)], args := [d1, d2] }
  | _ => none }
def latJoinsRow : OpenClaim := { program := "ytpjpaipkkcengaa", sum := "39029fb3389fef77e245fc6a0da5bc9fe7e59889d1c4786e445b57585ccf2bd9", func := "handcart/handcartlaw10.LatJoins", spec := "latJoins", unfollowed := true, recurses := true, plainKeys := false, apart := false }
def LatJoinsSaid : Prop := latJoinsRow.holds Try.pinned (OpenSpec.ofChange latJoinsSpec)

/-- ITS FALSE NEIGHBOUR: 'it returns false'. Refute it at one input. -/
def latJoinsWrong : ChangeSpec := { name := "latJoins", fn := fun _ => fun
  | [d1, d2] => { results := [.lit (.bool false)], args := [d1, d2] }
  | _ => none }
def LatJoinsWrongFalsely : Prop := latJoinsRow.holds Try.pinned (OpenSpec.ofChange latJoinsWrong)

/-- 'handcartlaw10.LatLeast': WHATEVER THE INPUT: true; the input reads as it did. -/
def latLeastSpec : ChangeSpec := { name := "latLeast", fn := fun _ => fun
  | [d1, d2, d3] => { results := [.lit (.bool true)], args := [d1, d2, d3] }
  | _ => none }
def latLeastRow : OpenClaim := { program := "ytpjpaipkkcengaa", sum := "39029fb3389fef77e245fc6a0da5bc9fe7e59889d1c4786e445b57585ccf2bd9", func := "handcart/handcartlaw10.LatLeast", spec := "latLeast", unfollowed := true, recurses := true, plainKeys := false, apart := false }
def LatLeastSaid : Prop := latLeastRow.holds Try.pinned (OpenSpec.ofChange latLeastSpec)

/-- ITS FALSE NEIGHBOUR: 'it returns false'. Refute it at one input. -/
def latLeastWrong : ChangeSpec := { name := "latLeast", fn := fun _ => fun
  | [d1, d2, d3] => { results := [.lit (.bool false)], args := [d1, d2, d3] }
  | _ => none }
def LatLeastWrongFalsely : Prop := latLeastRow.holds Try.pinned (OpenSpec.ofChange latLeastWrong)

/- THE SECOND FORM. 'bulk': how many values and letters a reading holds, each counted each time it is reached (what is shared counts as often as it is met; a slice's spare places count too). A statement '..UptoSaid' is the law's where the arguments, and the package variables that the reading takes, are together of bulk at most 1048576: NARROWER than '..Said'. Prove '..Said' where nothing that the law and all that it calls make is longer than what came in: it says more and counts as full. Else prove '..UptoSaid'. A law counts once. -/
mutual
def uptoBulk {H : Type} : DataW H → Nat
  | .lit (.string bytes) => bytes.length + 1
  | .lit _ => 1
  | .nil => 1
  | .ptr d => uptoBulk d + 1
  | .slice elems spare => uptoBulkAll elems + uptoBulkAll spare + 1
  | .agg parts => uptoBulkAll parts + 1
  | .iface _ d => uptoBulk d + 1
  | .map entries => uptoBulkEntries entries + 1
  | .held _ => 1
def uptoBulkAll {H : Type} : List (DataW H) → Nat
  | [] => 0
  | d :: r => uptoBulk d + uptoBulkAll r
def uptoBulkEntries {H : Type} : List (Lit × DataW H) → Nat
  | [] => 0
  | x :: r => uptoBulkEntry x + uptoBulkEntries r
def uptoBulkEntry {H : Type} : Lit × DataW H → Nat
  | (.string bytes, d) => bytes.length + uptoBulk d + 1
  | (_, d) => uptoBulk d + 1
 end
def uptoSmall : (H : Type) → List (DataW H) → Bool := fun _ ds => decide (uptoBulkAll ds ≤ 1048576)
def OpenSpec.upto (s : _root_.Go.ChangeSpec) : _root_.Go.OpenSpec := { _root_.Go.OpenSpec.ofChange s with cond := some uptoSmall }

/-- 'handcartlaw12.VecCounts', WHERE WHAT IT READS IS OF BULK AT MOST 1048576: true; the input reads as it did. -/
def vecCountsUptoRow : OpenClaim := { program := "ytpjpaipkkcengaa", sum := "39029fb3389fef77e245fc6a0da5bc9fe7e59889d1c4786e445b57585ccf2bd9", func := "handcart/handcartlaw12.VecCounts", spec := "vecCounts", unfollowed := true, recurses := true, plainKeys := false, apart := false, narrowed := true }
def VecCountsUptoSaid : Prop := vecCountsUptoRow.holds Try.pinned (OpenSpec.upto vecCountsSpec)

/-- 'handcartlaw07.WireBack', WHERE WHAT IT READS IS OF BULK AT MOST 1048576: true; the input reads as it did. -/
def wireBackUptoRow : OpenClaim := { program := "ytpjpaipkkcengaa", sum := "39029fb3389fef77e245fc6a0da5bc9fe7e59889d1c4786e445b57585ccf2bd9", func := "handcart/handcartlaw07.WireBack", spec := "wireBack", unfollowed := true, recurses := true, plainKeys := false, apart := false, narrowed := true }
def WireBackUptoSaid : Prop := wireBackUptoRow.holds Try.pinned (OpenSpec.upto wireBackSpec)

/-- 'handcartlaw08.KeyReads', WHERE WHAT IT READS IS OF BULK AT MOST 1048576: true; the input reads as it did. -/
def keyReadsUptoRow : OpenClaim := { program := "ytpjpaipkkcengaa", sum := "39029fb3389fef77e245fc6a0da5bc9fe7e59889d1c4786e445b57585ccf2bd9", func := "handcart/handcartlaw08.KeyReads", spec := "keyReads", unfollowed := true, recurses := true, plainKeys := false, apart := false, narrowed := true }
def KeyReadsUptoSaid : Prop := keyReadsUptoRow.holds Try.pinned (OpenSpec.upto keyReadsSpec)

/-- 'handcartlaw08.KeyBack', WHERE WHAT IT READS IS OF BULK AT MOST 1048576: true; the input reads as it did. -/
def keyBackUptoRow : OpenClaim := { program := "ytpjpaipkkcengaa", sum := "39029fb3389fef77e245fc6a0da5bc9fe7e59889d1c4786e445b57585ccf2bd9", func := "handcart/handcartlaw08.KeyBack", spec := "keyBack", unfollowed := true, recurses := true, plainKeys := false, apart := false, narrowed := true }
def KeyBackUptoSaid : Prop := keyBackUptoRow.holds Try.pinned (OpenSpec.upto keyBackSpec)

/-- 'handcartlaw09.AtomBack', WHERE WHAT IT READS IS OF BULK AT MOST 1048576: true; the input reads as it did. -/
def atomBackUptoRow : OpenClaim := { program := "ytpjpaipkkcengaa", sum := "39029fb3389fef77e245fc6a0da5bc9fe7e59889d1c4786e445b57585ccf2bd9", func := "handcart/handcartlaw09.AtomBack", spec := "atomBack", unfollowed := true, recurses := true, plainKeys := false, apart := false, narrowed := true }
def AtomBackUptoSaid : Prop := atomBackUptoRow.holds Try.pinned (OpenSpec.upto atomBackSpec)

/-- 'handcartlaw34.BoundAtoms', WHERE WHAT IT READS IS OF BULK AT MOST 1048576: true; the input reads as it did. -/
def boundAtomsUptoRow : OpenClaim := { program := "ytpjpaipkkcengaa", sum := "39029fb3389fef77e245fc6a0da5bc9fe7e59889d1c4786e445b57585ccf2bd9", func := "handcart/handcartlaw34.BoundAtoms", spec := "boundAtoms", unfollowed := true, recurses := true, plainKeys := false, apart := false, narrowed := true }
def BoundAtomsUptoSaid : Prop := boundAtomsUptoRow.holds Try.pinned (OpenSpec.upto boundAtomsSpec)

/-- 'handcartlaw27.FrameReads', WHERE WHAT IT READS IS OF BULK AT MOST 1048576: true; the input reads as it did. -/
def frameReadsUptoRow : OpenClaim := { program := "ytpjpaipkkcengaa", sum := "39029fb3389fef77e245fc6a0da5bc9fe7e59889d1c4786e445b57585ccf2bd9", func := "handcart/handcartlaw27.FrameReads", spec := "frameReads", unfollowed := true, recurses := true, plainKeys := false, apart := false, narrowed := true }
def FrameReadsUptoSaid : Prop := frameReadsUptoRow.holds Try.pinned (OpenSpec.upto frameReadsSpec)

/-- 'handcartlaw27.FrameTurned', WHERE WHAT IT READS IS OF BULK AT MOST 1048576: true; the input reads as it did. -/
def frameTurnedUptoRow : OpenClaim := { program := "ytpjpaipkkcengaa", sum := "39029fb3389fef77e245fc6a0da5bc9fe7e59889d1c4786e445b57585ccf2bd9", func := "handcart/handcartlaw27.FrameTurned", spec := "frameTurned", unfollowed := true, recurses := true, plainKeys := false, apart := false, narrowed := true }
def FrameTurnedUptoSaid : Prop := frameTurnedUptoRow.holds Try.pinned (OpenSpec.upto frameTurnedSpec)

/-- 'handcartlaw27.FrameBack', WHERE WHAT IT READS IS OF BULK AT MOST 1048576: true; the input reads as it did. -/
def frameBackUptoRow : OpenClaim := { program := "ytpjpaipkkcengaa", sum := "39029fb3389fef77e245fc6a0da5bc9fe7e59889d1c4786e445b57585ccf2bd9", func := "handcart/handcartlaw27.FrameBack", spec := "frameBack", unfollowed := true, recurses := true, plainKeys := false, apart := false, narrowed := true }
def FrameBackUptoSaid : Prop := frameBackUptoRow.holds Try.pinned (OpenSpec.upto frameBackSpec)

/-- 'handcartlaw27.FrameCodes', WHERE WHAT IT READS IS OF BULK AT MOST 1048576: true; the input reads as it did. -/
def frameCodesUptoRow : OpenClaim := { program := "ytpjpaipkkcengaa", sum := "39029fb3389fef77e245fc6a0da5bc9fe7e59889d1c4786e445b57585ccf2bd9", func := "handcart/handcartlaw27.FrameCodes", spec := "frameCodes", unfollowed := true, recurses := true, plainKeys := false, apart := false, narrowed := true }
def FrameCodesUptoSaid : Prop := frameCodesUptoRow.holds Try.pinned (OpenSpec.upto frameCodesSpec)

/-- 'handcartlaw13.DotsAdds', WHERE WHAT IT READS IS OF BULK AT MOST 1048576: true; the input reads as it did. -/
def dotsAddsUptoRow : OpenClaim := { program := "ytpjpaipkkcengaa", sum := "39029fb3389fef77e245fc6a0da5bc9fe7e59889d1c4786e445b57585ccf2bd9", func := "handcart/handcartlaw13.DotsAdds", spec := "dotsAdds", unfollowed := true, recurses := true, plainKeys := false, apart := false, narrowed := true }
def DotsAddsUptoSaid : Prop := dotsAddsUptoRow.holds Try.pinned (OpenSpec.upto dotsAddsSpec)

/-- 'handcartlaw13.DotsAlone', WHERE WHAT IT READS IS OF BULK AT MOST 1048576: true; the input reads as it did. -/
def dotsAloneUptoRow : OpenClaim := { program := "ytpjpaipkkcengaa", sum := "39029fb3389fef77e245fc6a0da5bc9fe7e59889d1c4786e445b57585ccf2bd9", func := "handcart/handcartlaw13.DotsAlone", spec := "dotsAlone", unfollowed := true, recurses := true, plainKeys := false, apart := false, narrowed := true }
def DotsAloneUptoSaid : Prop := dotsAloneUptoRow.holds Try.pinned (OpenSpec.upto dotsAloneSpec)

/-- 'handcartlaw13.DotsJoins', WHERE WHAT IT READS IS OF BULK AT MOST 1048576: true; the input reads as it did. -/
def dotsJoinsUptoRow : OpenClaim := { program := "ytpjpaipkkcengaa", sum := "39029fb3389fef77e245fc6a0da5bc9fe7e59889d1c4786e445b57585ccf2bd9", func := "handcart/handcartlaw13.DotsJoins", spec := "dotsJoins", unfollowed := true, recurses := true, plainKeys := false, apart := false, narrowed := true }
def DotsJoinsUptoSaid : Prop := dotsJoinsUptoRow.holds Try.pinned (OpenSpec.upto dotsJoinsSpec)

/-- 'handcartlaw10.LatAll', WHERE WHAT IT READS IS OF BULK AT MOST 1048576: true; the input reads as it did. -/
def latAllUptoRow : OpenClaim := { program := "ytpjpaipkkcengaa", sum := "39029fb3389fef77e245fc6a0da5bc9fe7e59889d1c4786e445b57585ccf2bd9", func := "handcart/handcartlaw10.LatAll", spec := "latAll", unfollowed := true, recurses := true, plainKeys := false, apart := false, narrowed := true }
def LatAllUptoSaid : Prop := latAllUptoRow.holds Try.pinned (OpenSpec.upto latAllSpec)

/-- 'handcartlaw10.LatNorms', WHERE WHAT IT READS IS OF BULK AT MOST 1048576: true; the input reads as it did. -/
def latNormsUptoRow : OpenClaim := { program := "ytpjpaipkkcengaa", sum := "39029fb3389fef77e245fc6a0da5bc9fe7e59889d1c4786e445b57585ccf2bd9", func := "handcart/handcartlaw10.LatNorms", spec := "latNorms", unfollowed := true, recurses := true, plainKeys := false, apart := false, narrowed := true }
def LatNormsUptoSaid : Prop := latNormsUptoRow.holds Try.pinned (OpenSpec.upto latNormsSpec)

/-- 'handcartlaw10.LatJoins', WHERE WHAT IT READS IS OF BULK AT MOST 1048576: true; the input reads as it did. -/
def latJoinsUptoRow : OpenClaim := { program := "ytpjpaipkkcengaa", sum := "39029fb3389fef77e245fc6a0da5bc9fe7e59889d1c4786e445b57585ccf2bd9", func := "handcart/handcartlaw10.LatJoins", spec := "latJoins", unfollowed := true, recurses := true, plainKeys := false, apart := false, narrowed := true }
def LatJoinsUptoSaid : Prop := latJoinsUptoRow.holds Try.pinned (OpenSpec.upto latJoinsSpec)

/-- 'handcartlaw10.LatLeast', WHERE WHAT IT READS IS OF BULK AT MOST 1048576: true; the input reads as it did. -/
def latLeastUptoRow : OpenClaim := { program := "ytpjpaipkkcengaa", sum := "39029fb3389fef77e245fc6a0da5bc9fe7e59889d1c4786e445b57585ccf2bd9", func := "handcart/handcartlaw10.LatLeast", spec := "latLeast", unfollowed := true, recurses := true, plainKeys := false, apart := false, narrowed := true }
def LatLeastUptoSaid : Prop := latLeastUptoRow.holds Try.pinned (OpenSpec.upto latLeastSpec)

end Rows
end Go.Proofs.Ytpjpaipkkcengaa
