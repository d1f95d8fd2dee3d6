/-
  No cell of these rows narrows 'for every input' (looked for: loops, veiled, ifaces, maps, wideKeys, modest, calm, conditions, laid).
  DERIVED. THE GIVEN ROWS OF THIS SEAT. 26 by the template 'for every input the law returns true; each argument reads behind the call as it read before'; 0 by the template 'total and deterministic' (their statements: YtjgbcaegofpggaaTotals.lean).
  GIVEN WITH THE SEED: the statements are not yours to turn. If you find one false, say at which input.
  Laid BY PROGRAM, IN A SANDBOX (cutbox-rows.mjs): the forced cells as the released guide's own fill.sh prints them over the translation 05ed9cf3ac4d9b34… (all of the seat's roots in one cut). By AI agents, Wed Nov 11 2026. No macro, syntax, notation, axiom, sorry.
-/
import Derived.Test.YtjgbcaegofpggaaChecked
import GoSem.Claim
import GoSem.ClaimJoined
import GoSem.ClaimMapViews
import Derived.JoinedTies
import Derived.KernelRfl
namespace Go.Proofs.Ytjgbcaegofpggaa
/- THE CELL 'sum', in the pinned program and in every row, IS THE sha256 OF THE DUMP (.gsa) THAT YtjgbcaegofpggaaProg.lean LOADS. Nothing in Lean hashes anything: it is a label: what it is worth is what the hold of that sum in a sandbox is worth. -/
noncomputable def Try.pinned : Pinned := { name := "ytjgbcaegofpggaa", sum := "05ed9cf3ac4d9b347bfa8080a09cc84be4f3c6096f8ecbb66da5b0dbadbb1001", checked := Try.checked }
namespace Rows
def none {H : Type} : Left H := { results := [], args := [] }

/-- 'handcartlaw12.VecCompares': WHATEVER THE INPUT: true; the input reads as it did. -/
def vecComparesSpec : ChangeSpec := { name := "vecCompares", fn := fun _ => fun
  | [d1, d2] => { results := [.lit (.bool true)], args := [d1, d2] }
  | _ => none }
def vecComparesRow : OpenClaim := { program := "ytjgbcaegofpggaa", sum := "05ed9cf3ac4d9b347bfa8080a09cc84be4f3c6096f8ecbb66da5b0dbadbb1001", func := "handcart/handcartlaw12.VecCompares", spec := "vecCompares", unfollowed := true, recurses := true, plainKeys := false, apart := false }
def VecComparesSaid : Prop := vecComparesRow.holds Try.pinned (OpenSpec.ofChange vecComparesSpec)

/-- ITS FALSE NEIGHBOUR: 'it returns false'. Refute it at one input. -/
def vecComparesWrong : ChangeSpec := { name := "vecCompares", fn := fun _ => fun
  | [d1, d2] => { results := [.lit (.bool false)], args := [d1, d2] }
  | _ => none }
def VecComparesWrongFalsely : Prop := vecComparesRow.holds Try.pinned (OpenSpec.ofChange vecComparesWrong)

/-- 'handcartlaw12.VecCounts': WHATEVER THE INPUT: true; the input reads as it did. -/
def vecCountsSpec : ChangeSpec := { name := "vecCounts", fn := fun _ => fun
  | [d] => { results := [.lit (.bool true)], args := [d] }
  | _ => none }
def vecCountsRow : OpenClaim := { program := "ytjgbcaegofpggaa", sum := "05ed9cf3ac4d9b347bfa8080a09cc84be4f3c6096f8ecbb66da5b0dbadbb1001", func := "handcart/handcartlaw12.VecCounts", spec := "vecCounts", unfollowed := true, recurses := true, plainKeys := false, apart := false }
def VecCountsSaid : Prop := vecCountsRow.holds Try.pinned (OpenSpec.ofChange vecCountsSpec)

/-- ITS FALSE NEIGHBOUR: 'it returns false'. Refute it at one input. -/
def vecCountsWrong : ChangeSpec := { name := "vecCounts", fn := fun _ => fun
  | [d] => { results := [.lit (.bool false)], args := [d] }
  | _ => none }
def VecCountsWrongFalsely : Prop := vecCountsRow.holds Try.pinned (OpenSpec.ofChange vecCountsWrong)

/-- 'handcartlaw05.CrcSums': WHATEVER THE INPUT: true; the input reads as it did. -/
def crcSumsSpec : ChangeSpec := { name := "crcSums", fn := fun _ => fun
  | [d1, d2] => { results := [.lit (.bool true)], args := [d1, d2] }
  | _ => none }
def crcSumsRow : OpenClaim := { program := "ytjgbcaegofpggaa", sum := "05ed9cf3ac4d9b347bfa8080a09cc84be4f3c6096f8ecbb66da5b0dbadbb1001", func := "handcart/handcartlaw05.CrcSums", spec := "crcSums", unfollowed := true, recurses := true, plainKeys := false, apart := false }
def CrcSumsSaid : Prop := crcSumsRow.holds Try.pinned (OpenSpec.ofChange crcSumsSpec)

/-- ITS FALSE NEIGHBOUR: 'it returns false'. Refute it at one input. -/
def crcSumsWrong : ChangeSpec := { name := "crcSums", fn := fun _ => fun
  | [d1, d2] => { results := [.lit (.bool false)], args := [d1, d2] }
  | _ => none }
def CrcSumsWrongFalsely : Prop := crcSumsRow.holds Try.pinned (OpenSpec.ofChange crcSumsWrong)

/-- 'handcartlaw05.CrcOpens': WHATEVER THE INPUT: true; the input reads as it did. -/
def crcOpensSpec : ChangeSpec := { name := "crcOpens", fn := fun _ => fun
  | [d] => { results := [.lit (.bool true)], args := [d] }
  | _ => none }
def crcOpensRow : OpenClaim := { program := "ytjgbcaegofpggaa", sum := "05ed9cf3ac4d9b347bfa8080a09cc84be4f3c6096f8ecbb66da5b0dbadbb1001", func := "handcart/handcartlaw05.CrcOpens", spec := "crcOpens", unfollowed := true, recurses := true, plainKeys := false, apart := false }
def CrcOpensSaid : Prop := crcOpensRow.holds Try.pinned (OpenSpec.ofChange crcOpensSpec)

/-- ITS FALSE NEIGHBOUR: 'it returns false'. Refute it at one input. -/
def crcOpensWrong : ChangeSpec := { name := "crcOpens", fn := fun _ => fun
  | [d] => { results := [.lit (.bool false)], args := [d] }
  | _ => none }
def CrcOpensWrongFalsely : Prop := crcOpensRow.holds Try.pinned (OpenSpec.ofChange crcOpensWrong)

/-- 'handcartlaw05.CrcTells': WHATEVER THE INPUT: true; the input reads as it did. -/
def crcTellsSpec : ChangeSpec := { name := "crcTells", fn := fun _ => fun
  | [d1, d2, d3] => { results := [.lit (.bool true)], args := [d1, d2, d3] }
  | _ => none }
def crcTellsRow : OpenClaim := { program := "ytjgbcaegofpggaa", sum := "05ed9cf3ac4d9b347bfa8080a09cc84be4f3c6096f8ecbb66da5b0dbadbb1001", func := "handcart/handcartlaw05.CrcTells", spec := "crcTells", unfollowed := true, recurses := true, plainKeys := false, apart := false }
def CrcTellsSaid : Prop := crcTellsRow.holds Try.pinned (OpenSpec.ofChange crcTellsSpec)

/-- ITS FALSE NEIGHBOUR: 'it returns false'. Refute it at one input. -/
def crcTellsWrong : ChangeSpec := { name := "crcTells", fn := fun _ => fun
  | [d1, d2, d3] => { results := [.lit (.bool false)], args := [d1, d2, d3] }
  | _ => none }
def CrcTellsWrongFalsely : Prop := crcTellsRow.holds Try.pinned (OpenSpec.ofChange crcTellsWrong)

/-- 'handcartlaw03.PackVars': WHATEVER THE INPUT: true; the input reads as it did. -/
def packVarsSpec : ChangeSpec := { name := "packVars", fn := fun _ => fun
  | [d1, d2] => { results := [.lit (.bool true)], args := [d1, d2] }
  | _ => none }
def packVarsRow : OpenClaim := { program := "ytjgbcaegofpggaa", sum := "05ed9cf3ac4d9b347bfa8080a09cc84be4f3c6096f8ecbb66da5b0dbadbb1001", func := "handcart/handcartlaw03.PackVars", spec := "packVars", unfollowed := true, recurses := true, plainKeys := false, apart := false }
def PackVarsSaid : Prop := packVarsRow.holds Try.pinned (OpenSpec.ofChange packVarsSpec)

/-- ITS FALSE NEIGHBOUR: 'it returns false'. Refute it at one input. -/
def packVarsWrong : ChangeSpec := { name := "packVars", fn := fun _ => fun
  | [d1, d2] => { results := [.lit (.bool false)], args := [d1, d2] }
  | _ => none }
def PackVarsWrongFalsely : Prop := packVarsRow.holds Try.pinned (OpenSpec.ofChange packVarsWrong)

/-- 'handcartlaw03.PackPuts': WHATEVER THE INPUT: true; the input reads as it did. -/
def packPutsSpec : ChangeSpec := { name := "packPuts", fn := fun _ => fun
  | [d1, d2, d3] => { results := [.lit (.bool true)], args := [d1, d2, d3] }
  | _ => none }
def packPutsRow : OpenClaim := { program := "ytjgbcaegofpggaa", sum := "05ed9cf3ac4d9b347bfa8080a09cc84be4f3c6096f8ecbb66da5b0dbadbb1001", func := "handcart/handcartlaw03.PackPuts", spec := "packPuts", unfollowed := true, recurses := true, plainKeys := false, apart := false }
def PackPutsSaid : Prop := packPutsRow.holds Try.pinned (OpenSpec.ofChange packPutsSpec)

/-- ITS FALSE NEIGHBOUR: 'it returns false'. Refute it at one input. -/
def packPutsWrong : ChangeSpec := { name := "packPuts", fn := fun _ => fun
  | [d1, d2, d3] => { results := [.lit (.bool false)], args := [d1, d2, d3] }
  | _ => none }
def PackPutsWrongFalsely : Prop := packPutsRow.holds Try.pinned (OpenSpec.ofChange packPutsWrong)

/-- 'handcartlaw03.PackBack': WHATEVER THE INPUT: true; the input reads as it did. -/
def packBackSpec : ChangeSpec := { name := "packBack", fn := fun _ => fun
  | [d1, d2, d3] => { results := [.lit (.bool true)], args := [d1, d2, d3] }
  | _ => none }
def packBackRow : OpenClaim := { program := "ytjgbcaegofpggaa", sum := "05ed9cf3ac4d9b347bfa8080a09cc84be4f3c6096f8ecbb66da5b0dbadbb1001", func := "handcart/handcartlaw03.PackBack", spec := "packBack", unfollowed := true, recurses := true, plainKeys := false, apart := false }
def PackBackSaid : Prop := packBackRow.holds Try.pinned (OpenSpec.ofChange packBackSpec)

/-- ITS FALSE NEIGHBOUR: 'it returns false'. Refute it at one input. -/
def packBackWrong : ChangeSpec := { name := "packBack", fn := fun _ => fun
  | [d1, d2, d3] => { results := [.lit (.bool false)], args := [d1, d2, d3] }
  | _ => none }
def PackBackWrongFalsely : Prop := packBackRow.holds Try.pinned (OpenSpec.ofChange packBackWrong)

/-- 'handcartlaw07.WireWrites': WHATEVER THE INPUT: true; the input reads as it did. -/
def wireWritesSpec : ChangeSpec := { name := "wireWrites", fn := fun _ => fun
  | [d] => { results := [.lit (.bool true)], args := [d] }
  | _ => none }
def wireWritesRow : OpenClaim := { program := "ytjgbcaegofpggaa", sum := "05ed9cf3ac4d9b347bfa8080a09cc84be4f3c6096f8ecbb66da5b0dbadbb1001", func := "handcart/handcartlaw07.WireWrites", spec := "wireWrites", unfollowed := true, recurses := true, plainKeys := false, apart := false }
def WireWritesSaid : Prop := wireWritesRow.holds Try.pinned (OpenSpec.ofChange wireWritesSpec)

/-- ITS FALSE NEIGHBOUR: 'it returns false'. Refute it at one input. -/
def wireWritesWrong : ChangeSpec := { name := "wireWrites", fn := fun _ => fun
  | [d] => { results := [.lit (.bool false)], args := [d] }
  | _ => none }
def WireWritesWrongFalsely : Prop := wireWritesRow.holds Try.pinned (OpenSpec.ofChange wireWritesWrong)

/-- 'handcartlaw07.WireReads': WHATEVER THE INPUT: true; the input reads as it did. -/
def wireReadsSpec : ChangeSpec := { name := "wireReads", fn := fun _ => fun
  | [d1, d2] => { results := [.lit (.bool true)], args := [d1, d2] }
  | _ => none }
def wireReadsRow : OpenClaim := { program := "ytjgbcaegofpggaa", sum := "05ed9cf3ac4d9b347bfa8080a09cc84be4f3c6096f8ecbb66da5b0dbadbb1001", func := "handcart/handcartlaw07.WireReads", spec := "wireReads", unfollowed := true, recurses := true, plainKeys := false, apart := false }
def WireReadsSaid : Prop := wireReadsRow.holds Try.pinned (OpenSpec.ofChange wireReadsSpec)

/-- ITS FALSE NEIGHBOUR: 'it returns false'. Refute it at one input. -/
def wireReadsWrong : ChangeSpec := { name := "wireReads", fn := fun _ => fun
  | [d1, d2] => { results := [.lit (.bool false)], args := [d1, d2] }
  | _ => none }
def WireReadsWrongFalsely : Prop := wireReadsRow.holds Try.pinned (OpenSpec.ofChange wireReadsWrong)

/-- 'handcartlaw07.WireBack': WHATEVER THE INPUT: true; the input reads as it did. -/
def wireBackSpec : ChangeSpec := { name := "wireBack", fn := fun _ => fun
  | [d] => { results := [.lit (.bool true)], args := [d] }
  | _ => none }
def wireBackRow : OpenClaim := { program := "ytjgbcaegofpggaa", sum := "05ed9cf3ac4d9b347bfa8080a09cc84be4f3c6096f8ecbb66da5b0dbadbb1001", func := "handcart/handcartlaw07.WireBack", spec := "wireBack", unfollowed := true, recurses := true, plainKeys := false, apart := false }
def WireBackSaid : Prop := wireBackRow.holds Try.pinned (OpenSpec.ofChange wireBackSpec)

/-- ITS FALSE NEIGHBOUR: 'it returns false'. Refute it at one input. -/
def wireBackWrong : ChangeSpec := { name := "wireBack", fn := fun _ => fun
  | [d] => { results := [.lit (.bool false)], args := [d] }
  | _ => none }
def WireBackWrongFalsely : Prop := wireBackRow.holds Try.pinned (OpenSpec.ofChange wireBackWrong)

/-- 'handcartlaw08.KeyDots': WHATEVER THE INPUT: true; the input reads as it did. -/
def keyDotsSpec : ChangeSpec := { name := "keyDots", fn := fun _ => fun
  | [d1, d2] => { results := [.lit (.bool true)], args := [d1, d2] }
  | _ => none }
def keyDotsRow : OpenClaim := { program := "ytjgbcaegofpggaa", sum := "05ed9cf3ac4d9b347bfa8080a09cc84be4f3c6096f8ecbb66da5b0dbadbb1001", func := "handcart/handcartlaw08.KeyDots", spec := "keyDots", unfollowed := true, recurses := true, plainKeys := false, apart := false }
def KeyDotsSaid : Prop := keyDotsRow.holds Try.pinned (OpenSpec.ofChange keyDotsSpec)

/-- ITS FALSE NEIGHBOUR: 'it returns false'. Refute it at one input. -/
def keyDotsWrong : ChangeSpec := { name := "keyDots", fn := fun _ => fun
  | [d1, d2] => { results := [.lit (.bool false)], args := [d1, d2] }
  | _ => none }
def KeyDotsWrongFalsely : Prop := keyDotsRow.holds Try.pinned (OpenSpec.ofChange keyDotsWrong)

/-- 'handcartlaw08.KeyWords': WHATEVER THE INPUT: true; the input reads as it did. -/
def keyWordsSpec : ChangeSpec := { name := "keyWords", fn := fun _ => fun
  | [d1, d2, d3] => { results := [.lit (.bool true)], args := [d1, d2, d3] }
  | _ => none }
def keyWordsRow : OpenClaim := { program := "ytjgbcaegofpggaa", sum := "05ed9cf3ac4d9b347bfa8080a09cc84be4f3c6096f8ecbb66da5b0dbadbb1001", func := "handcart/handcartlaw08.KeyWords", spec := "keyWords", unfollowed := true, recurses := true, plainKeys := false, apart := false }
def KeyWordsSaid : Prop := keyWordsRow.holds Try.pinned (OpenSpec.ofChange keyWordsSpec)

/-- ITS FALSE NEIGHBOUR: 'it returns false'. Refute it at one input. -/
def keyWordsWrong : ChangeSpec := { name := "keyWords", fn := fun _ => fun
  | [d1, d2, d3] => { results := [.lit (.bool false)], args := [d1, d2, d3] }
  | _ => none }
def KeyWordsWrongFalsely : Prop := keyWordsRow.holds Try.pinned (OpenSpec.ofChange keyWordsWrong)

/-- 'handcartlaw08.KeyReads': WHATEVER THE INPUT: true; the input reads as it did. -/
def keyReadsSpec : ChangeSpec := { name := "keyReads", fn := fun _ => fun
  | [d1, d2] => { results := [.lit (.bool true)], args := [d1, d2] }
  | _ => none }
def keyReadsRow : OpenClaim := { program := "ytjgbcaegofpggaa", sum := "05ed9cf3ac4d9b347bfa8080a09cc84be4f3c6096f8ecbb66da5b0dbadbb1001", func := "handcart/handcartlaw08.KeyReads", spec := "keyReads", unfollowed := true, recurses := true, plainKeys := false, apart := false }
def KeyReadsSaid : Prop := keyReadsRow.holds Try.pinned (OpenSpec.ofChange keyReadsSpec)

/-- ITS FALSE NEIGHBOUR: 'it returns false'. Refute it at one input. -/
def keyReadsWrong : ChangeSpec := { name := "keyReads", fn := fun _ => fun
  | [d1, d2] => { results := [.lit (.bool false)], args := [d1, d2] }
  | _ => none }
def KeyReadsWrongFalsely : Prop := keyReadsRow.holds Try.pinned (OpenSpec.ofChange keyReadsWrong)

/-- 'handcartlaw08.KeyBack': WHATEVER THE INPUT: true; the input reads as it did. -/
def keyBackSpec : ChangeSpec := { name := "keyBack", fn := fun _ => fun
  | [d1, d2, d3] => { results := [.lit (.bool true)], args := [d1, d2, d3] }
  | _ => none }
def keyBackRow : OpenClaim := { program := "ytjgbcaegofpggaa", sum := "05ed9cf3ac4d9b347bfa8080a09cc84be4f3c6096f8ecbb66da5b0dbadbb1001", func := "handcart/handcartlaw08.KeyBack", spec := "keyBack", unfollowed := true, recurses := true, plainKeys := false, apart := false }
def KeyBackSaid : Prop := keyBackRow.holds Try.pinned (OpenSpec.ofChange keyBackSpec)

/-- ITS FALSE NEIGHBOUR: 'it returns false'. Refute it at one input. -/
def keyBackWrong : ChangeSpec := { name := "keyBack", fn := fun _ => fun
  | [d1, d2, d3] => { results := [.lit (.bool false)], args := [d1, d2, d3] }
  | _ => none }
def KeyBackWrongFalsely : Prop := keyBackRow.holds Try.pinned (OpenSpec.ofChange keyBackWrong)

/-- 'handcartlaw09.AtomStamps': WHATEVER THE INPUT: true; the input reads as it did. -/
def atomStampsSpec : ChangeSpec := { name := "atomStamps", fn := fun _ => fun
  | [d1, d2, d3] => { results := [.lit (.bool true)], args := [d1, d2, d3] }
  | _ => none }
def atomStampsRow : OpenClaim := { program := "ytjgbcaegofpggaa", sum := "05ed9cf3ac4d9b347bfa8080a09cc84be4f3c6096f8ecbb66da5b0dbadbb1001", func := "handcart/handcartlaw09.AtomStamps", spec := "atomStamps", unfollowed := true, recurses := true, plainKeys := false, apart := false }
def AtomStampsSaid : Prop := atomStampsRow.holds Try.pinned (OpenSpec.ofChange atomStampsSpec)

/-- ITS FALSE NEIGHBOUR: 'it returns false'. Refute it at one input. -/
def atomStampsWrong : ChangeSpec := { name := "atomStamps", fn := fun _ => fun
  | [d1, d2, d3] => { results := [.lit (.bool false)], args := [d1, d2, d3] }
  | _ => none }
def AtomStampsWrongFalsely : Prop := atomStampsRow.holds Try.pinned (OpenSpec.ofChange atomStampsWrong)

/-- 'handcartlaw09.AtomOvers': WHATEVER THE INPUT: true; the input reads as it did. -/
def atomOversSpec : ChangeSpec := { name := "atomOvers", fn := fun _ => fun
  | [d1, d2, d3] => { results := [.lit (.bool true)], args := [d1, d2, d3] }
  | _ => none }
def atomOversRow : OpenClaim := { program := "ytjgbcaegofpggaa", sum := "05ed9cf3ac4d9b347bfa8080a09cc84be4f3c6096f8ecbb66da5b0dbadbb1001", func := "handcart/handcartlaw09.AtomOvers", spec := "atomOvers", unfollowed := true, recurses := true, plainKeys := false, apart := false }
def AtomOversSaid : Prop := atomOversRow.holds Try.pinned (OpenSpec.ofChange atomOversSpec)

/-- ITS FALSE NEIGHBOUR: 'it returns false'. Refute it at one input. -/
def atomOversWrong : ChangeSpec := { name := "atomOvers", fn := fun _ => fun
  | [d1, d2, d3] => { results := [.lit (.bool false)], args := [d1, d2, d3] }
  | _ => none }
def AtomOversWrongFalsely : Prop := atomOversRow.holds Try.pinned (OpenSpec.ofChange atomOversWrong)

/-- 'handcartlaw09.AtomBack': WHATEVER THE INPUT: true; the input reads as it did. -/
def atomBackSpec : ChangeSpec := { name := "atomBack", fn := fun _ => fun
  | [d1, d2, d3] => { results := [.lit (.bool true)], args := [d1, d2, d3] }
  | _ => none }
def atomBackRow : OpenClaim := { program := "ytjgbcaegofpggaa", sum := "05ed9cf3ac4d9b347bfa8080a09cc84be4f3c6096f8ecbb66da5b0dbadbb1001", func := "handcart/handcartlaw09.AtomBack", spec := "atomBack", unfollowed := true, recurses := true, plainKeys := false, apart := false }
def AtomBackSaid : Prop := atomBackRow.holds Try.pinned (OpenSpec.ofChange atomBackSpec)

/-- ITS FALSE NEIGHBOUR: 'it returns false'. Refute it at one input. -/
def atomBackWrong : ChangeSpec := { name := "atomBack", fn := fun _ => fun
  | [d1, d2, d3] => { results := [.lit (.bool false)], args := [d1, d2, d3] }
  | _ => none }
def AtomBackWrongFalsely : Prop := atomBackRow.holds Try.pinned (OpenSpec.ofChange atomBackWrong)

/-- 'handcartlaw34.BoundAtoms': WHATEVER THE INPUT: true; the input reads as it did. -/
def boundAtomsSpec : ChangeSpec := { name := "boundAtoms", fn := fun _ => fun
  | [d] => { results := [.lit (.bool true)], args := [d] }
  | _ => none }
def boundAtomsRow : OpenClaim := { program := "ytjgbcaegofpggaa", sum := "05ed9cf3ac4d9b347bfa8080a09cc84be4f3c6096f8ecbb66da5b0dbadbb1001", func := "handcart/handcartlaw34.BoundAtoms", spec := "boundAtoms", unfollowed := true, recurses := true, plainKeys := false, apart := false }
def BoundAtomsSaid : Prop := boundAtomsRow.holds Try.pinned (OpenSpec.ofChange boundAtomsSpec)

/-- ITS FALSE NEIGHBOUR: 'it returns false'. Refute it at one input. -/
def boundAtomsWrong : ChangeSpec := { name := "boundAtoms", fn := fun _ => fun
  | [d] => { results := [.lit (.bool false)], args := [d] }
  | _ => none }
def BoundAtomsWrongFalsely : Prop := boundAtomsRow.holds Try.pinned (OpenSpec.ofChange boundAtomsWrong)

/-- 'handcartlaw27.FrameReads': WHATEVER THE INPUT: true; the input reads as it did. -/
def frameReadsSpec : ChangeSpec := { name := "frameReads", fn := fun _ => fun
  | [d] => { results := [.lit (.bool true)], args := [d] }
  | _ => none }
def frameReadsRow : OpenClaim := { program := "ytjgbcaegofpggaa", sum := "05ed9cf3ac4d9b347bfa8080a09cc84be4f3c6096f8ecbb66da5b0dbadbb1001", func := "handcart/handcartlaw27.FrameReads", spec := "frameReads", unfollowed := true, recurses := true, plainKeys := false, apart := false }
def FrameReadsSaid : Prop := frameReadsRow.holds Try.pinned (OpenSpec.ofChange frameReadsSpec)

/-- ITS FALSE NEIGHBOUR: 'it returns false'. Refute it at one input. -/
def frameReadsWrong : ChangeSpec := { name := "frameReads", fn := fun _ => fun
  | [d] => { results := [.lit (.bool false)], args := [d] }
  | _ => none }
def FrameReadsWrongFalsely : Prop := frameReadsRow.holds Try.pinned (OpenSpec.ofChange frameReadsWrong)

/-- 'handcartlaw27.FrameTurned': WHATEVER THE INPUT: true; the input reads as it did. -/
def frameTurnedSpec : ChangeSpec := { name := "frameTurned", fn := fun _ => fun
  | [d1, d2, d3] => { results := [.lit (.bool true)], args := [d1, d2, d3] }
  | _ => none }
def frameTurnedRow : OpenClaim := { program := "ytjgbcaegofpggaa", sum := "05ed9cf3ac4d9b347bfa8080a09cc84be4f3c6096f8ecbb66da5b0dbadbb1001", func := "handcart/handcartlaw27.FrameTurned", spec := "frameTurned", unfollowed := true, recurses := true, plainKeys := false, apart := false }
def FrameTurnedSaid : Prop := frameTurnedRow.holds Try.pinned (OpenSpec.ofChange frameTurnedSpec)

/-- ITS FALSE NEIGHBOUR: 'it returns false'. Refute it at one input. -/
def frameTurnedWrong : ChangeSpec := { name := "frameTurned", fn := fun _ => fun
  | [d1, d2, d3] => { results := [.lit (.bool false)], args := [d1, d2, d3] }
  | _ => none }
def FrameTurnedWrongFalsely : Prop := frameTurnedRow.holds Try.pinned (OpenSpec.ofChange frameTurnedWrong)

/-- 'handcartlaw27.FrameBack': WHATEVER THE INPUT: true; the input reads as it did. -/
def frameBackSpec : ChangeSpec := { name := "frameBack", fn := fun _ => fun
  | [d1, d2] => { results := [.lit (.bool true)], args := [d1, d2] }
  | _ => none }
def frameBackRow : OpenClaim := { program := "ytjgbcaegofpggaa", sum := "05ed9cf3ac4d9b347bfa8080a09cc84be4f3c6096f8ecbb66da5b0dbadbb1001", func := "handcart/handcartlaw27.FrameBack", spec := "frameBack", unfollowed := true, recurses := true, plainKeys := false, apart := false }
def FrameBackSaid : Prop := frameBackRow.holds Try.pinned (OpenSpec.ofChange frameBackSpec)

/-- ITS FALSE NEIGHBOUR: 'it returns false'. Refute it at one input. -/
def frameBackWrong : ChangeSpec := { name := "frameBack", fn := fun _ => fun
  | [d1, d2] => { results := [.lit (.bool false)], args := [d1, d2] }
  | _ => none }
def FrameBackWrongFalsely : Prop := frameBackRow.holds Try.pinned (OpenSpec.ofChange frameBackWrong)

/-- 'handcartlaw27.FrameCodes': WHATEVER THE INPUT: true; the input reads as it did. -/
def frameCodesSpec : ChangeSpec := { name := "frameCodes", fn := fun _ => fun
  | [d1, d2, d3] => { results := [.lit (.bool true)], args := [d1, d2, d3] }
  | _ => none }
def frameCodesRow : OpenClaim := { program := "ytjgbcaegofpggaa", sum := "05ed9cf3ac4d9b347bfa8080a09cc84be4f3c6096f8ecbb66da5b0dbadbb1001", func := "handcart/handcartlaw27.FrameCodes", spec := "frameCodes", unfollowed := true, recurses := true, plainKeys := false, apart := false }
def FrameCodesSaid : Prop := frameCodesRow.holds Try.pinned (OpenSpec.ofChange frameCodesSpec)

/-- ITS FALSE NEIGHBOUR: 'it returns false'. Refute it at one input. -/
def frameCodesWrong : ChangeSpec := { name := "frameCodes", fn := fun _ => fun
  | [d1, d2, d3] => { results := [.lit (.bool false)], args := [d1, d2, d3] }
  | _ => none }
def FrameCodesWrongFalsely : Prop := frameCodesRow.holds Try.pinned (OpenSpec.ofChange frameCodesWrong)

/-- 'handcartlaw13.DotsAdds': WHATEVER THE INPUT: true; the input reads as it did. -/
def dotsAddsSpec : ChangeSpec := { name := "dotsAdds", fn := fun _ => fun
  | [d1, d2, d3] => { results := [.lit (.bool true)], args := [d1, d2, d3] }
  | _ => none }
def dotsAddsRow : OpenClaim := { program := "ytjgbcaegofpggaa", sum := "05ed9cf3ac4d9b347bfa8080a09cc84be4f3c6096f8ecbb66da5b0dbadbb1001", func := "handcart/handcartlaw13.DotsAdds", spec := "dotsAdds", unfollowed := true, recurses := true, plainKeys := false, apart := false }
def DotsAddsSaid : Prop := dotsAddsRow.holds Try.pinned (OpenSpec.ofChange dotsAddsSpec)

/-- ITS FALSE NEIGHBOUR: 'it returns false'. Refute it at one input. -/
def dotsAddsWrong : ChangeSpec := { name := "dotsAdds", fn := fun _ => fun
  | [d1, d2, d3] => { results := [.lit (.bool false)], args := [d1, d2, d3] }
  | _ => none }
def DotsAddsWrongFalsely : Prop := dotsAddsRow.holds Try.pinned (OpenSpec.ofChange dotsAddsWrong)

/-- 'handcartlaw13.DotsAlone': WHATEVER THE INPUT: true; the input reads as it did. -/
def dotsAloneSpec : ChangeSpec := { name := "dotsAlone", fn := fun _ => fun
  | [d1, d2, d3] => { results := [.lit (.bool true)], args := [d1, d2, d3] }
  | _ => none }
def dotsAloneRow : OpenClaim := { program := "ytjgbcaegofpggaa", sum := "05ed9cf3ac4d9b347bfa8080a09cc84be4f3c6096f8ecbb66da5b0dbadbb1001", func := "handcart/handcartlaw13.DotsAlone", spec := "dotsAlone", unfollowed := true, recurses := true, plainKeys := false, apart := false }
def DotsAloneSaid : Prop := dotsAloneRow.holds Try.pinned (OpenSpec.ofChange dotsAloneSpec)

/-- ITS FALSE NEIGHBOUR: 'it returns false'. Refute it at one input. -/
def dotsAloneWrong : ChangeSpec := { name := "dotsAlone", fn := fun _ => fun
  | [d1, d2, d3] => { results := [.lit (.bool false)], args := [d1, d2, d3] }
  | _ => none }
def DotsAloneWrongFalsely : Prop := dotsAloneRow.holds Try.pinned (OpenSpec.ofChange dotsAloneWrong)

/-- 'handcartlaw13.DotsJoins': WHATEVER THE INPUT: true; the input reads as it did. -/
def dotsJoinsSpec : ChangeSpec := { name := "dotsJoins", fn := fun _ => fun
  | [d1, d2] => { results := [.lit (.bool true)], args := [d1, d2] }
  | _ => none }
def dotsJoinsRow : OpenClaim := { program := "ytjgbcaegofpggaa", sum := "05ed9cf3ac4d9b347bfa8080a09cc84be4f3c6096f8ecbb66da5b0dbadbb1001", func := "handcart/handcartlaw13.DotsJoins", spec := "dotsJoins", unfollowed := true, recurses := true, plainKeys := false, apart := false }
def DotsJoinsSaid : Prop := dotsJoinsRow.holds Try.pinned (OpenSpec.ofChange dotsJoinsSpec)

/-- ITS FALSE NEIGHBOUR: 'it returns false'. Refute it at one input. -/
def dotsJoinsWrong : ChangeSpec := { name := "dotsJoins", fn := fun _ => fun
  | [d1, d2] => { results := [.lit (.bool false)], args := [d1, d2] }
  | _ => none }
def DotsJoinsWrongFalsely : Prop := dotsJoinsRow.holds Try.pinned (OpenSpec.ofChange dotsJoinsWrong)

/- THE SECOND FORM. 'bulk': how many values and letters a reading holds, each counted each time it is reached (what is shared counts as often as it is met; a slice's spare places count too). A statement '..UptoSaid' is the law's where the arguments, and the package variables that the reading takes, are together of bulk at most 1048576: NARROWER than '..Said'. Prove '..Said' where nothing that the law and all that it calls make is longer than what came in: it says more and counts as full. Else prove '..UptoSaid'. A law counts once. -/
mutual
def uptoBulk {H : Type} : DataW H → Nat
  | .lit (.string bytes) => bytes.length + 1
  | .lit _ => 1
  | .nil => 1
  | .ptr d => uptoBulk d + 1
  | .slice elems spare => uptoBulkAll elems + uptoBulkAll spare + 1
  | .agg parts => uptoBulkAll parts + 1
  | .iface _ d => uptoBulk d + 1
  | .map entries => uptoBulkEntries entries + 1
  | .held _ => 1
def uptoBulkAll {H : Type} : List (DataW H) → Nat
  | [] => 0
  | d :: r => uptoBulk d + uptoBulkAll r
def uptoBulkEntries {H : Type} : List (Lit × DataW H) → Nat
  | [] => 0
  | x :: r => uptoBulkEntry x + uptoBulkEntries r
def uptoBulkEntry {H : Type} : Lit × DataW H → Nat
  | (.string bytes, d) => bytes.length + uptoBulk d + 1
  | (_, d) => uptoBulk d + 1
 end
def uptoSmall : (H : Type) → List (DataW H) → Bool := fun _ ds => decide (uptoBulkAll ds ≤ 1048576)
def OpenSpec.upto (s : _root_.Go.ChangeSpec) : _root_.Go.OpenSpec := { _root_.Go.OpenSpec.ofChange s with cond := some uptoSmall }

/-- 'handcartlaw12.VecCompares', WHERE WHAT IT READS IS OF BULK AT MOST 1048576: true; the input reads as it did. -/
def vecComparesUptoRow : OpenClaim := { program := "ytjgbcaegofpggaa", sum := "05ed9cf3ac4d9b347bfa8080a09cc84be4f3c6096f8ecbb66da5b0dbadbb1001", func := "handcart/handcartlaw12.VecCompares", spec := "vecCompares", unfollowed := true, recurses := true, plainKeys := false, apart := false, narrowed := true }
def VecComparesUptoSaid : Prop := vecComparesUptoRow.holds Try.pinned (OpenSpec.upto vecComparesSpec)

/-- 'handcartlaw12.VecCounts', WHERE WHAT IT READS IS OF BULK AT MOST 1048576: true; the input reads as it did. -/
def vecCountsUptoRow : OpenClaim := { program := "ytjgbcaegofpggaa", sum := "05ed9cf3ac4d9b347bfa8080a09cc84be4f3c6096f8ecbb66da5b0dbadbb1001", func := "handcart/handcartlaw12.VecCounts", spec := "vecCounts", unfollowed := true, recurses := true, plainKeys := false, apart := false, narrowed := true }
def VecCountsUptoSaid : Prop := vecCountsUptoRow.holds Try.pinned (OpenSpec.upto vecCountsSpec)

/-- 'handcartlaw05.CrcSums', WHERE WHAT IT READS IS OF BULK AT MOST 1048576: true; the input reads as it did. -/
def crcSumsUptoRow : OpenClaim := { program := "ytjgbcaegofpggaa", sum := "05ed9cf3ac4d9b347bfa8080a09cc84be4f3c6096f8ecbb66da5b0dbadbb1001", func := "handcart/handcartlaw05.CrcSums", spec := "crcSums", unfollowed := true, recurses := true, plainKeys := false, apart := false, narrowed := true }
def CrcSumsUptoSaid : Prop := crcSumsUptoRow.holds Try.pinned (OpenSpec.upto crcSumsSpec)

/-- 'handcartlaw05.CrcOpens', WHERE WHAT IT READS IS OF BULK AT MOST 1048576: true; the input reads as it did. -/
def crcOpensUptoRow : OpenClaim := { program := "ytjgbcaegofpggaa", sum := "05ed9cf3ac4d9b347bfa8080a09cc84be4f3c6096f8ecbb66da5b0dbadbb1001", func := "handcart/handcartlaw05.CrcOpens", spec := "crcOpens", unfollowed := true, recurses := true, plainKeys := false, apart := false, narrowed := true }
def CrcOpensUptoSaid : Prop := crcOpensUptoRow.holds Try.pinned (OpenSpec.upto crcOpensSpec)

/-- 'handcartlaw05.CrcTells', WHERE WHAT IT READS IS OF BULK AT MOST 1048576: true; the input reads as it did. -/
def crcTellsUptoRow : OpenClaim := { program := "ytjgbcaegofpggaa", sum := "05ed9cf3ac4d9b347bfa8080a09cc84be4f3c6096f8ecbb66da5b0dbadbb1001", func := "handcart/handcartlaw05.CrcTells", spec := "crcTells", unfollowed := true, recurses := true, plainKeys := false, apart := false, narrowed := true }
def CrcTellsUptoSaid : Prop := crcTellsUptoRow.holds Try.pinned (OpenSpec.upto crcTellsSpec)

/-- 'handcartlaw03.PackVars', WHERE WHAT IT READS IS OF BULK AT MOST 1048576: true; the input reads as it did. -/
def packVarsUptoRow : OpenClaim := { program := "ytjgbcaegofpggaa", sum := "05ed9cf3ac4d9b347bfa8080a09cc84be4f3c6096f8ecbb66da5b0dbadbb1001", func := "handcart/handcartlaw03.PackVars", spec := "packVars", unfollowed := true, recurses := true, plainKeys := false, apart := false, narrowed := true }
def PackVarsUptoSaid : Prop := packVarsUptoRow.holds Try.pinned (OpenSpec.upto packVarsSpec)

/-- 'handcartlaw03.PackPuts', WHERE WHAT IT READS IS OF BULK AT MOST 1048576: true; the input reads as it did. -/
def packPutsUptoRow : OpenClaim := { program := "ytjgbcaegofpggaa", sum := "05ed9cf3ac4d9b347bfa8080a09cc84be4f3c6096f8ecbb66da5b0dbadbb1001", func := "handcart/handcartlaw03.PackPuts", spec := "packPuts", unfollowed := true, recurses := true, plainKeys := false, apart := false, narrowed := true }
def PackPutsUptoSaid : Prop := packPutsUptoRow.holds Try.pinned (OpenSpec.upto packPutsSpec)

/-- 'handcartlaw03.PackBack', WHERE WHAT IT READS IS OF BULK AT MOST 1048576: true; the input reads as it did. -/
def packBackUptoRow : OpenClaim := { program := "ytjgbcaegofpggaa", sum := "05ed9cf3ac4d9b347bfa8080a09cc84be4f3c6096f8ecbb66da5b0dbadbb1001", func := "handcart/handcartlaw03.PackBack", spec := "packBack", unfollowed := true, recurses := true, plainKeys := false, apart := false, narrowed := true }
def PackBackUptoSaid : Prop := packBackUptoRow.holds Try.pinned (OpenSpec.upto packBackSpec)

/-- 'handcartlaw07.WireWrites', WHERE WHAT IT READS IS OF BULK AT MOST 1048576: true; the input reads as it did. -/
def wireWritesUptoRow : OpenClaim := { program := "ytjgbcaegofpggaa", sum := "05ed9cf3ac4d9b347bfa8080a09cc84be4f3c6096f8ecbb66da5b0dbadbb1001", func := "handcart/handcartlaw07.WireWrites", spec := "wireWrites", unfollowed := true, recurses := true, plainKeys := false, apart := false, narrowed := true }
def WireWritesUptoSaid : Prop := wireWritesUptoRow.holds Try.pinned (OpenSpec.upto wireWritesSpec)

/-- 'handcartlaw07.WireReads', WHERE WHAT IT READS IS OF BULK AT MOST 1048576: true; the input reads as it did. -/
def wireReadsUptoRow : OpenClaim := { program := "ytjgbcaegofpggaa", sum := "05ed9cf3ac4d9b347bfa8080a09cc84be4f3c6096f8ecbb66da5b0dbadbb1001", func := "handcart/handcartlaw07.WireReads", spec := "wireReads", unfollowed := true, recurses := true, plainKeys := false, apart := false, narrowed := true }
def WireReadsUptoSaid : Prop := wireReadsUptoRow.holds Try.pinned (OpenSpec.upto wireReadsSpec)

/-- 'handcartlaw07.WireBack', WHERE WHAT IT READS IS OF BULK AT MOST 1048576: true; the input reads as it did. -/
def wireBackUptoRow : OpenClaim := { program := "ytjgbcaegofpggaa", sum := "05ed9cf3ac4d9b347bfa8080a09cc84be4f3c6096f8ecbb66da5b0dbadbb1001", func := "handcart/handcartlaw07.WireBack", spec := "wireBack", unfollowed := true, recurses := true, plainKeys := false, apart := false, narrowed := true }
def WireBackUptoSaid : Prop := wireBackUptoRow.holds Try.pinned (OpenSpec.upto wireBackSpec)

/-- 'handcartlaw08.KeyDots', WHERE WHAT IT READS IS OF BULK AT MOST 1048576: true; the input reads as it did. -/
def keyDotsUptoRow : OpenClaim := { program := "ytjgbcaegofpggaa", sum := "05ed9cf3ac4d9b347bfa8080a09cc84be4f3c6096f8ecbb66da5b0dbadbb1001", func := "handcart/handcartlaw08.KeyDots", spec := "keyDots", unfollowed := true, recurses := true, plainKeys := false, apart := false, narrowed := true }
def KeyDotsUptoSaid : Prop := keyDotsUptoRow.holds Try.pinned (OpenSpec.upto keyDotsSpec)

/-- 'handcartlaw08.KeyWords', WHERE WHAT IT READS IS OF BULK AT MOST 1048576: true; the input reads as it did. -/
def keyWordsUptoRow : OpenClaim := { program := "ytjgbcaegofpggaa", sum := "05ed9cf3ac4d9b347bfa8080a09cc84be4f3c6096f8ecbb66da5b0dbadbb1001", func := "handcart/handcartlaw08.KeyWords", spec := "keyWords", unfollowed := true, recurses := true, plainKeys := false, apart := false, narrowed := true }
def KeyWordsUptoSaid : Prop := keyWordsUptoRow.holds Try.pinned (OpenSpec.upto keyWordsSpec)

/-- 'handcartlaw08.KeyReads', WHERE WHAT IT READS IS OF BULK AT MOST 1048576: true; the input reads as it did. -/
def keyReadsUptoRow : OpenClaim := { program := "ytjgbcaegofpggaa", sum := "05ed9cf3ac4d9b347bfa8080a09cc84be4f3c6096f8ecbb66da5b0dbadbb1001", func := "handcart/handcartlaw08.KeyReads", spec := "keyReads", unfollowed := true, recurses := true, plainKeys := false, apart := false, narrowed := true }
def KeyReadsUptoSaid : Prop := keyReadsUptoRow.holds Try.pinned (OpenSpec.upto keyReadsSpec)

/-- 'handcartlaw08.KeyBack', WHERE WHAT IT READS IS OF BULK AT MOST 1048576: true; the input reads as it did. -/
def keyBackUptoRow : OpenClaim := { program := "ytjgbcaegofpggaa", sum := "05ed9cf3ac4d9b347bfa8080a09cc84be4f3c6096f8ecbb66da5b0dbadbb1001", func := "handcart/handcartlaw08.KeyBack", spec := "keyBack", unfollowed := true, recurses := true, plainKeys := false, apart := false, narrowed := true }
def KeyBackUptoSaid : Prop := keyBackUptoRow.holds Try.pinned (OpenSpec.upto keyBackSpec)

/-- 'handcartlaw09.AtomStamps', WHERE WHAT IT READS IS OF BULK AT MOST 1048576: true; the input reads as it did. -/
def atomStampsUptoRow : OpenClaim := { program := "ytjgbcaegofpggaa", sum := "05ed9cf3ac4d9b347bfa8080a09cc84be4f3c6096f8ecbb66da5b0dbadbb1001", func := "handcart/handcartlaw09.AtomStamps", spec := "atomStamps", unfollowed := true, recurses := true, plainKeys := false, apart := false, narrowed := true }
def AtomStampsUptoSaid : Prop := atomStampsUptoRow.holds Try.pinned (OpenSpec.upto atomStampsSpec)

/-- 'handcartlaw09.AtomOvers', WHERE WHAT IT READS IS OF BULK AT MOST 1048576: true; the input reads as it did. -/
def atomOversUptoRow : OpenClaim := { program := "ytjgbcaegofpggaa", sum := "05ed9cf3ac4d9b347bfa8080a09cc84be4f3c6096f8ecbb66da5b0dbadbb1001", func := "handcart/handcartlaw09.AtomOvers", spec := "atomOvers", unfollowed := true, recurses := true, plainKeys := false, apart := false, narrowed := true }
def AtomOversUptoSaid : Prop := atomOversUptoRow.holds Try.pinned (OpenSpec.upto atomOversSpec)

/-- 'handcartlaw09.AtomBack', WHERE WHAT IT READS IS OF BULK AT MOST 1048576: true; the input reads as it did. -/
def atomBackUptoRow : OpenClaim := { program := "ytjgbcaegofpggaa", sum := "05ed9cf3ac4d9b347bfa8080a09cc84be4f3c6096f8ecbb66da5b0dbadbb1001", func := "handcart/handcartlaw09.AtomBack", spec := "atomBack", unfollowed := true, recurses := true, plainKeys := false, apart := false, narrowed := true }
def AtomBackUptoSaid : Prop := atomBackUptoRow.holds Try.pinned (OpenSpec.upto atomBackSpec)

/-- 'handcartlaw34.BoundAtoms', WHERE WHAT IT READS IS OF BULK AT MOST 1048576: true; the input reads as it did. -/
def boundAtomsUptoRow : OpenClaim := { program := "ytjgbcaegofpggaa", sum := "05ed9cf3ac4d9b347bfa8080a09cc84be4f3c6096f8ecbb66da5b0dbadbb1001", func := "handcart/handcartlaw34.BoundAtoms", spec := "boundAtoms", unfollowed := true, recurses := true, plainKeys := false, apart := false, narrowed := true }
def BoundAtomsUptoSaid : Prop := boundAtomsUptoRow.holds Try.pinned (OpenSpec.upto boundAtomsSpec)

/-- 'handcartlaw27.FrameReads', WHERE WHAT IT READS IS OF BULK AT MOST 1048576: true; the input reads as it did. -/
def frameReadsUptoRow : OpenClaim := { program := "ytjgbcaegofpggaa", sum := "05ed9cf3ac4d9b347bfa8080a09cc84be4f3c6096f8ecbb66da5b0dbadbb1001", func := "handcart/handcartlaw27.FrameReads", spec := "frameReads", unfollowed := true, recurses := true, plainKeys := false, apart := false, narrowed := true }
def FrameReadsUptoSaid : Prop := frameReadsUptoRow.holds Try.pinned (OpenSpec.upto frameReadsSpec)

/-- 'handcartlaw27.FrameTurned', WHERE WHAT IT READS IS OF BULK AT MOST 1048576: true; the input reads as it did. -/
def frameTurnedUptoRow : OpenClaim := { program := "ytjgbcaegofpggaa", sum := "05ed9cf3ac4d9b347bfa8080a09cc84be4f3c6096f8ecbb66da5b0dbadbb1001", func := "handcart/handcartlaw27.FrameTurned", spec := "frameTurned", unfollowed := true, recurses := true, plainKeys := false, apart := false, narrowed := true }
def FrameTurnedUptoSaid : Prop := frameTurnedUptoRow.holds Try.pinned (OpenSpec.upto frameTurnedSpec)

/-- 'handcartlaw27.FrameBack', WHERE WHAT IT READS IS OF BULK AT MOST 1048576: true; the input reads as it did. -/
def frameBackUptoRow : OpenClaim := { program := "ytjgbcaegofpggaa", sum := "05ed9cf3ac4d9b347bfa8080a09cc84be4f3c6096f8ecbb66da5b0dbadbb1001", func := "handcart/handcartlaw27.FrameBack", spec := "frameBack", unfollowed := true, recurses := true, plainKeys := false, apart := false, narrowed := true }
def FrameBackUptoSaid : Prop := frameBackUptoRow.holds Try.pinned (OpenSpec.upto frameBackSpec)

/-- 'handcartlaw27.FrameCodes', WHERE WHAT IT READS IS OF BULK AT MOST 1048576: true; the input reads as it did. -/
def frameCodesUptoRow : OpenClaim := { program := "ytjgbcaegofpggaa", sum := "05ed9cf3ac4d9b347bfa8080a09cc84be4f3c6096f8ecbb66da5b0dbadbb1001", func := "handcart/handcartlaw27.FrameCodes", spec := "frameCodes", unfollowed := true, recurses := true, plainKeys := false, apart := false, narrowed := true }
def FrameCodesUptoSaid : Prop := frameCodesUptoRow.holds Try.pinned (OpenSpec.upto frameCodesSpec)

/-- 'handcartlaw13.DotsAdds', WHERE WHAT IT READS IS OF BULK AT MOST 1048576: true; the input reads as it did. -/
def dotsAddsUptoRow : OpenClaim := { program := "ytjgbcaegofpggaa", sum := "05ed9cf3ac4d9b347bfa8080a09cc84be4f3c6096f8ecbb66da5b0dbadbb1001", func := "handcart/handcartlaw13.DotsAdds", spec := "dotsAdds", unfollowed := true, recurses := true, plainKeys := false, apart := false, narrowed := true }
def DotsAddsUptoSaid : Prop := dotsAddsUptoRow.holds Try.pinned (OpenSpec.upto dotsAddsSpec)

/-- 'handcartlaw13.DotsAlone', WHERE WHAT IT READS IS OF BULK AT MOST 1048576: true; the input reads as it did. -/
def dotsAloneUptoRow : OpenClaim := { program := "ytjgbcaegofpggaa", sum := "05ed9cf3ac4d9b347bfa8080a09cc84be4f3c6096f8ecbb66da5b0dbadbb1001", func := "handcart/handcartlaw13.DotsAlone", spec := "dotsAlone", unfollowed := true, recurses := true, plainKeys := false, apart := false, narrowed := true }
def DotsAloneUptoSaid : Prop := dotsAloneUptoRow.holds Try.pinned (OpenSpec.upto dotsAloneSpec)

/-- 'handcartlaw13.DotsJoins', WHERE WHAT IT READS IS OF BULK AT MOST 1048576: true; the input reads as it did. -/
def dotsJoinsUptoRow : OpenClaim := { program := "ytjgbcaegofpggaa", sum := "05ed9cf3ac4d9b347bfa8080a09cc84be4f3c6096f8ecbb66da5b0dbadbb1001", func := "handcart/handcartlaw13.DotsJoins", spec := "dotsJoins", unfollowed := true, recurses := true, plainKeys := false, apart := false, narrowed := true }
def DotsJoinsUptoSaid : Prop := dotsJoinsUptoRow.holds Try.pinned (OpenSpec.upto dotsJoinsSpec)

end Rows
end Go.Proofs.Ytjgbcaegofpggaa
