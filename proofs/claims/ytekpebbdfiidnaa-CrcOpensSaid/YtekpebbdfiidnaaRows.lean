/-
  No cell of these rows narrows 'for every input' (looked for: loops, veiled, ifaces, maps, wideKeys, modest, calm, conditions, laid).
  DERIVED. THE GIVEN ROWS OF THIS SEAT. 12 by the template 'for every input the law returns true; each argument reads behind the call as it read before'; 0 by the template 'total and deterministic' (their statements: YtekpebbdfiidnaaTotals.lean).
  GIVEN WITH THE SEED: the statements are not yours to turn. If you find one false, say at which input.
  Laid BY PROGRAM, IN A SANDBOX (cutbox-rows.mjs): the forced cells as the released guide's own fill.sh prints them over the translation 5480684a7c331be8… (all of the seat's roots in one cut). By AI agents, Wed Nov 11 2026. No macro, syntax, notation, axiom, sorry.
-/
import Derived.Test.YtekpebbdfiidnaaChecked
import GoSem.Claim
import GoSem.ClaimJoined
import GoSem.ClaimMapViews
import Derived.JoinedTies
import Derived.KernelRfl
namespace Go.Proofs.Ytekpebbdfiidnaa
/- THE CELL 'sum', in the pinned program and in every row, IS THE sha256 OF THE DUMP (.gsa) THAT YtekpebbdfiidnaaProg.lean LOADS. Nothing in Lean hashes anything: it is a label: what it is worth is what the hold of that sum in a sandbox is worth. -/
noncomputable def Try.pinned : Pinned := { name := "ytekpebbdfiidnaa", sum := "5480684a7c331be8dbadd6d06a926b92f58bf0d36b68876743011c3d49ec4658", checked := Try.checked }
namespace Rows
def none {H : Type} : Left H := { results := [], args := [] }

/-- 'handcartlaw12.VecCompares': WHATEVER THE INPUT: true; the input reads as it did. -/
def vecComparesSpec : ChangeSpec := { name := "vecCompares", fn := fun _ => fun
  | [d1, d2] => { results := [.lit (.bool true)], args := [d1, d2] }
  | _ => none }
def vecComparesRow : OpenClaim := { program := "ytekpebbdfiidnaa", sum := "5480684a7c331be8dbadd6d06a926b92f58bf0d36b68876743011c3d49ec4658", func := "handcart/handcartlaw12.VecCompares", spec := "vecCompares", unfollowed := true, recurses := true, plainKeys := false, apart := false }
def VecComparesSaid : Prop := vecComparesRow.holds Try.pinned (OpenSpec.ofChange vecComparesSpec)

/-- ITS FALSE NEIGHBOUR: 'it returns false'. Refute it at one input. -/
def vecComparesWrong : ChangeSpec := { name := "vecCompares", fn := fun _ => fun
  | [d1, d2] => { results := [.lit (.bool false)], args := [d1, d2] }
  | _ => none }
def VecComparesWrongFalsely : Prop := vecComparesRow.holds Try.pinned (OpenSpec.ofChange vecComparesWrong)

/-- 'handcartlaw05.CrcSums': WHATEVER THE INPUT: true; the input reads as it did. -/
def crcSumsSpec : ChangeSpec := { name := "crcSums", fn := fun _ => fun
  | [d1, d2] => { results := [.lit (.bool true)], args := [d1, d2] }
  | _ => none }
def crcSumsRow : OpenClaim := { program := "ytekpebbdfiidnaa", sum := "5480684a7c331be8dbadd6d06a926b92f58bf0d36b68876743011c3d49ec4658", func := "handcart/handcartlaw05.CrcSums", spec := "crcSums", unfollowed := true, recurses := true, plainKeys := false, apart := false }
def CrcSumsSaid : Prop := crcSumsRow.holds Try.pinned (OpenSpec.ofChange crcSumsSpec)

/-- ITS FALSE NEIGHBOUR: 'it returns false'. Refute it at one input. -/
def crcSumsWrong : ChangeSpec := { name := "crcSums", fn := fun _ => fun
  | [d1, d2] => { results := [.lit (.bool false)], args := [d1, d2] }
  | _ => none }
def CrcSumsWrongFalsely : Prop := crcSumsRow.holds Try.pinned (OpenSpec.ofChange crcSumsWrong)

/-- 'handcartlaw05.CrcOpens': WHATEVER THE INPUT: true; the input reads as it did. -/
def crcOpensSpec : ChangeSpec := { name := "crcOpens", fn := fun _ => fun
  | [d] => { results := [.lit (.bool true)], args := [d] }
  | _ => none }
def crcOpensRow : OpenClaim := { program := "ytekpebbdfiidnaa", sum := "5480684a7c331be8dbadd6d06a926b92f58bf0d36b68876743011c3d49ec4658", func := "handcart/handcartlaw05.CrcOpens", spec := "crcOpens", unfollowed := true, recurses := true, plainKeys := false, apart := false }
def CrcOpensSaid : Prop := crcOpensRow.holds Try.pinned (OpenSpec.ofChange crcOpensSpec)

/-- ITS FALSE NEIGHBOUR: 'it returns false'. Refute it at one input. -/
def crcOpensWrong : ChangeSpec := { name := "crcOpens", fn := fun _ => fun
  | [d] => { results := [.lit (.bool false)], args := [d] }
  | _ => none }
def CrcOpensWrongFalsely : Prop := crcOpensRow.holds Try.pinned (OpenSpec.ofChange crcOpensWrong)

/-- 'handcartlaw05.CrcTells': WHATEVER THE INPUT: true; the input reads as it did. -/
def crcTellsSpec : ChangeSpec := { name := "crcTells", fn := fun _ => fun
  | [d1, d2, d3] => { results := [.lit (.bool true)], args := [d1, d2, d3] }
  | _ => none }
def crcTellsRow : OpenClaim := { program := "ytekpebbdfiidnaa", sum := "5480684a7c331be8dbadd6d06a926b92f58bf0d36b68876743011c3d49ec4658", func := "handcart/handcartlaw05.CrcTells", spec := "crcTells", unfollowed := true, recurses := true, plainKeys := false, apart := false }
def CrcTellsSaid : Prop := crcTellsRow.holds Try.pinned (OpenSpec.ofChange crcTellsSpec)

/-- ITS FALSE NEIGHBOUR: 'it returns false'. Refute it at one input. -/
def crcTellsWrong : ChangeSpec := { name := "crcTells", fn := fun _ => fun
  | [d1, d2, d3] => { results := [.lit (.bool false)], args := [d1, d2, d3] }
  | _ => none }
def CrcTellsWrongFalsely : Prop := crcTellsRow.holds Try.pinned (OpenSpec.ofChange crcTellsWrong)

/-- 'handcartlaw12.VecCounts': WHATEVER THE INPUT: true; the input reads as it did. -/
def vecCountsSpec : ChangeSpec := { name := "vecCounts", fn := fun _ => fun
  | [d] => { results := [.lit (.bool true)], args := [d] }
  | _ => none }
def vecCountsRow : OpenClaim := { program := "ytekpebbdfiidnaa", sum := "5480684a7c331be8dbadd6d06a926b92f58bf0d36b68876743011c3d49ec4658", func := "handcart/handcartlaw12.VecCounts", spec := "vecCounts", unfollowed := true, recurses := true, plainKeys := false, apart := false }
def VecCountsSaid : Prop := vecCountsRow.holds Try.pinned (OpenSpec.ofChange vecCountsSpec)

/-- ITS FALSE NEIGHBOUR: 'it returns false'. Refute it at one input. -/
def vecCountsWrong : ChangeSpec := { name := "vecCounts", fn := fun _ => fun
  | [d] => { results := [.lit (.bool false)], args := [d] }
  | _ => none }
def VecCountsWrongFalsely : Prop := vecCountsRow.holds Try.pinned (OpenSpec.ofChange vecCountsWrong)

/-- 'handcartlaw03.PackVars': WHATEVER THE INPUT: true; the input reads as it did. -/
def packVarsSpec : ChangeSpec := { name := "packVars", fn := fun _ => fun
  | [d1, d2] => { results := [.lit (.bool true)], args := [d1, d2] }
  | _ => none }
def packVarsRow : OpenClaim := { program := "ytekpebbdfiidnaa", sum := "5480684a7c331be8dbadd6d06a926b92f58bf0d36b68876743011c3d49ec4658", func := "handcart/handcartlaw03.PackVars", spec := "packVars", unfollowed := true, recurses := true, plainKeys := false, apart := false }
def PackVarsSaid : Prop := packVarsRow.holds Try.pinned (OpenSpec.ofChange packVarsSpec)

/-- ITS FALSE NEIGHBOUR: 'it returns false'. Refute it at one input. -/
def packVarsWrong : ChangeSpec := { name := "packVars", fn := fun _ => fun
  | [d1, d2] => { results := [.lit (.bool false)], args := [d1, d2] }
  | _ => none }
def PackVarsWrongFalsely : Prop := packVarsRow.holds Try.pinned (OpenSpec.ofChange packVarsWrong)

/-- 'handcartlaw08.KeyDots': WHATEVER THE INPUT: true; the input reads as it did. -/
def keyDotsSpec : ChangeSpec := { name := "keyDots", fn := fun _ => fun
  | [d1, d2] => { results := [.lit (.bool true)], args := [d1, d2] }
  | _ => none }
def keyDotsRow : OpenClaim := { program := "ytekpebbdfiidnaa", sum := "5480684a7c331be8dbadd6d06a926b92f58bf0d36b68876743011c3d49ec4658", func := "handcart/handcartlaw08.KeyDots", spec := "keyDots", unfollowed := true, recurses := true, plainKeys := false, apart := false }
def KeyDotsSaid : Prop := keyDotsRow.holds Try.pinned (OpenSpec.ofChange keyDotsSpec)

/-- ITS FALSE NEIGHBOUR: 'it returns false'. Refute it at one input. -/
def keyDotsWrong : ChangeSpec := { name := "keyDots", fn := fun _ => fun
  | [d1, d2] => { results := [.lit (.bool false)], args := [d1, d2] }
  | _ => none }
def KeyDotsWrongFalsely : Prop := keyDotsRow.holds Try.pinned (OpenSpec.ofChange keyDotsWrong)

/-- 'handcartlaw03.PackPuts': WHATEVER THE INPUT: true; the input reads as it did. -/
def packPutsSpec : ChangeSpec := { name := "packPuts", fn := fun _ => fun
  | [d1, d2, d3] => { results := [.lit (.bool true)], args := [d1, d2, d3] }
  | _ => none }
def packPutsRow : OpenClaim := { program := "ytekpebbdfiidnaa", sum := "5480684a7c331be8dbadd6d06a926b92f58bf0d36b68876743011c3d49ec4658", func := "handcart/handcartlaw03.PackPuts", spec := "packPuts", unfollowed := true, recurses := true, plainKeys := false, apart := false }
def PackPutsSaid : Prop := packPutsRow.holds Try.pinned (OpenSpec.ofChange packPutsSpec)

/-- ITS FALSE NEIGHBOUR: 'it returns false'. Refute it at one input. -/
def packPutsWrong : ChangeSpec := { name := "packPuts", fn := fun _ => fun
  | [d1, d2, d3] => { results := [.lit (.bool false)], args := [d1, d2, d3] }
  | _ => none }
def PackPutsWrongFalsely : Prop := packPutsRow.holds Try.pinned (OpenSpec.ofChange packPutsWrong)

/-- 'handcartlaw03.PackBack': WHATEVER THE INPUT: true; the input reads as it did. -/
def packBackSpec : ChangeSpec := { name := "packBack", fn := fun _ => fun
  | [d1, d2, d3] => { results := [.lit (.bool true)], args := [d1, d2, d3] }
  | _ => none }
def packBackRow : OpenClaim := { program := "ytekpebbdfiidnaa", sum := "5480684a7c331be8dbadd6d06a926b92f58bf0d36b68876743011c3d49ec4658", func := "handcart/handcartlaw03.PackBack", spec := "packBack", unfollowed := true, recurses := true, plainKeys := false, apart := false }
def PackBackSaid : Prop := packBackRow.holds Try.pinned (OpenSpec.ofChange packBackSpec)

/-- ITS FALSE NEIGHBOUR: 'it returns false'. Refute it at one input. -/
def packBackWrong : ChangeSpec := { name := "packBack", fn := fun _ => fun
  | [d1, d2, d3] => { results := [.lit (.bool false)], args := [d1, d2, d3] }
  | _ => none }
def PackBackWrongFalsely : Prop := packBackRow.holds Try.pinned (OpenSpec.ofChange packBackWrong)

/-- 'handcartlaw07.WireWrites': WHATEVER THE INPUT: true; the input reads as it did. -/
def wireWritesSpec : ChangeSpec := { name := "wireWrites", fn := fun _ => fun
  | [d] => { results := [.lit (.bool true)], args := [d] }
  | _ => none }
def wireWritesRow : OpenClaim := { program := "ytekpebbdfiidnaa", sum := "5480684a7c331be8dbadd6d06a926b92f58bf0d36b68876743011c3d49ec4658", func := "handcart/handcartlaw07.WireWrites", spec := "wireWrites", unfollowed := true, recurses := true, plainKeys := false, apart := false }
def WireWritesSaid : Prop := wireWritesRow.holds Try.pinned (OpenSpec.ofChange wireWritesSpec)

/-- ITS FALSE NEIGHBOUR: 'it returns false'. Refute it at one input. -/
def wireWritesWrong : ChangeSpec := { name := "wireWrites", fn := fun _ => fun
  | [d] => { results := [.lit (.bool false)], args := [d] }
  | _ => none }
def WireWritesWrongFalsely : Prop := wireWritesRow.holds Try.pinned (OpenSpec.ofChange wireWritesWrong)

/-- 'handcartlaw08.KeyWords': WHATEVER THE INPUT: true; the input reads as it did. -/
def keyWordsSpec : ChangeSpec := { name := "keyWords", fn := fun _ => fun
  | [d1, d2, d3] => { results := [.lit (.bool true)], args := [d1, d2, d3] }
  | _ => none }
def keyWordsRow : OpenClaim := { program := "ytekpebbdfiidnaa", sum := "5480684a7c331be8dbadd6d06a926b92f58bf0d36b68876743011c3d49ec4658", func := "handcart/handcartlaw08.KeyWords", spec := "keyWords", unfollowed := true, recurses := true, plainKeys := false, apart := false }
def KeyWordsSaid : Prop := keyWordsRow.holds Try.pinned (OpenSpec.ofChange keyWordsSpec)

/-- ITS FALSE NEIGHBOUR: 'it returns false'. Refute it at one input. -/
def keyWordsWrong : ChangeSpec := { name := "keyWords", fn := fun _ => fun
  | [d1, d2, d3] => { results := [.lit (.bool false)], args := [d1, d2, d3] }
  | _ => none }
def KeyWordsWrongFalsely : Prop := keyWordsRow.holds Try.pinned (OpenSpec.ofChange keyWordsWrong)

/-- 'handcartlaw09.AtomStamps': WHATEVER THE INPUT: true; the input reads as it did. -/
def atomStampsSpec : ChangeSpec := { name := "atomStamps", fn := fun _ => fun
  | [d1, d2, d3] => { results := [.lit (.bool true)], args := [d1, d2, d3] }
  | _ => none }
def atomStampsRow : OpenClaim := { program := "ytekpebbdfiidnaa", sum := "5480684a7c331be8dbadd6d06a926b92f58bf0d36b68876743011c3d49ec4658", func := "handcart/handcartlaw09.AtomStamps", spec := "atomStamps", unfollowed := true, recurses := true, plainKeys := false, apart := false }
def AtomStampsSaid : Prop := atomStampsRow.holds Try.pinned (OpenSpec.ofChange atomStampsSpec)

/-- ITS FALSE NEIGHBOUR: 'it returns false'. Refute it at one input. -/
def atomStampsWrong : ChangeSpec := { name := "atomStamps", fn := fun _ => fun
  | [d1, d2, d3] => { results := [.lit (.bool false)], args := [d1, d2, d3] }
  | _ => none }
def AtomStampsWrongFalsely : Prop := atomStampsRow.holds Try.pinned (OpenSpec.ofChange atomStampsWrong)

/- THE SECOND FORM. 'bulk': how many values and letters a reading holds, each counted each time it is reached (what is shared counts as often as it is met; a slice's spare places count too). A statement '..UptoSaid' is the law's where the arguments, and the package variables that the reading takes, are together of bulk at most 1048576: NARROWER than '..Said'. Prove '..Said' where nothing that the law and all that it calls make is longer than what came in: it says more and counts as full. Else prove '..UptoSaid'. A law counts once. -/
mutual
def uptoBulk {H : Type} : DataW H → Nat
  | .lit (.string bytes) => bytes.length + 1
  | .lit _ => 1
  | .nil => 1
  | .ptr d => uptoBulk d + 1
  | .slice elems spare => uptoBulkAll elems + uptoBulkAll spare + 1
  | .agg parts => uptoBulkAll parts + 1
  | .iface _ d => uptoBulk d + 1
  | .map entries => uptoBulkEntries entries + 1
  | .held _ => 1
def uptoBulkAll {H : Type} : List (DataW H) → Nat
  | [] => 0
  | d :: r => uptoBulk d + uptoBulkAll r
def uptoBulkEntries {H : Type} : List (Lit × DataW H) → Nat
  | [] => 0
  | x :: r => uptoBulkEntry x + uptoBulkEntries r
def uptoBulkEntry {H : Type} : Lit × DataW H → Nat
  | (.string bytes, d) => bytes.length + uptoBulk d + 1
  | (_, d) => uptoBulk d + 1
 end
def uptoSmall : (H : Type) → List (DataW H) → Bool := fun _ ds => decide (uptoBulkAll ds ≤ 1048576)
def OpenSpec.upto (s : _root_.Go.ChangeSpec) : _root_.Go.OpenSpec := { _root_.Go.OpenSpec.ofChange s with cond := some uptoSmall }

/-- 'handcartlaw12.VecCompares', WHERE WHAT IT READS IS OF BULK AT MOST 1048576: true; the input reads as it did. -/
def vecComparesUptoRow : OpenClaim := { program := "ytekpebbdfiidnaa", sum := "5480684a7c331be8dbadd6d06a926b92f58bf0d36b68876743011c3d49ec4658", func := "handcart/handcartlaw12.VecCompares", spec := "vecCompares", unfollowed := true, recurses := true, plainKeys := false, apart := false, narrowed := true }
def VecComparesUptoSaid : Prop := vecComparesUptoRow.holds Try.pinned (OpenSpec.upto vecComparesSpec)

/-- 'handcartlaw05.CrcSums', WHERE WHAT IT READS IS OF BULK AT MOST 1048576: true; the input reads as it did. -/
def crcSumsUptoRow : OpenClaim := { program := "ytekpebbdfiidnaa", sum := "5480684a7c331be8dbadd6d06a926b92f58bf0d36b68876743011c3d49ec4658", func := "handcart/handcartlaw05.CrcSums", spec := "crcSums", unfollowed := true, recurses := true, plainKeys := false, apart := false, narrowed := true }
def CrcSumsUptoSaid : Prop := crcSumsUptoRow.holds Try.pinned (OpenSpec.upto crcSumsSpec)

/-- 'handcartlaw05.CrcOpens', WHERE WHAT IT READS IS OF BULK AT MOST 1048576: true; the input reads as it did. -/
def crcOpensUptoRow : OpenClaim := { program := "ytekpebbdfiidnaa", sum := "5480684a7c331be8dbadd6d06a926b92f58bf0d36b68876743011c3d49ec4658", func := "handcart/handcartlaw05.CrcOpens", spec := "crcOpens", unfollowed := true, recurses := true, plainKeys := false, apart := false, narrowed := true }
def CrcOpensUptoSaid : Prop := crcOpensUptoRow.holds Try.pinned (OpenSpec.upto crcOpensSpec)

/-- 'handcartlaw05.CrcTells', WHERE WHAT IT READS IS OF BULK AT MOST 1048576: true; the input reads as it did. -/
def crcTellsUptoRow : OpenClaim := { program := "ytekpebbdfiidnaa", sum := "5480684a7c331be8dbadd6d06a926b92f58bf0d36b68876743011c3d49ec4658", func := "handcart/handcartlaw05.CrcTells", spec := "crcTells", unfollowed := true, recurses := true, plainKeys := false, apart := false, narrowed := true }
def CrcTellsUptoSaid : Prop := crcTellsUptoRow.holds Try.pinned (OpenSpec.upto crcTellsSpec)

/-- 'handcartlaw12.VecCounts', WHERE WHAT IT READS IS OF BULK AT MOST 1048576: true; the input reads as it did. -/
def vecCountsUptoRow : OpenClaim := { program := "ytekpebbdfiidnaa", sum := "5480684a7c331be8dbadd6d06a926b92f58bf0d36b68876743011c3d49ec4658", func := "handcart/handcartlaw12.VecCounts", spec := "vecCounts", unfollowed := true, recurses := true, plainKeys := false, apart := false, narrowed := true }
def VecCountsUptoSaid : Prop := vecCountsUptoRow.holds Try.pinned (OpenSpec.upto vecCountsSpec)

/-- 'handcartlaw03.PackVars', WHERE WHAT IT READS IS OF BULK AT MOST 1048576: true; the input reads as it did. -/
def packVarsUptoRow : OpenClaim := { program := "ytekpebbdfiidnaa", sum := "5480684a7c331be8dbadd6d06a926b92f58bf0d36b68876743011c3d49ec4658", func := "handcart/handcartlaw03.PackVars", spec := "packVars", unfollowed := true, recurses := true, plainKeys := false, apart := false, narrowed := true }
def PackVarsUptoSaid : Prop := packVarsUptoRow.holds Try.pinned (OpenSpec.upto packVarsSpec)

/-- 'handcartlaw08.KeyDots', WHERE WHAT IT READS IS OF BULK AT MOST 1048576: true; the input reads as it did. -/
def keyDotsUptoRow : OpenClaim := { program := "ytekpebbdfiidnaa", sum := "5480684a7c331be8dbadd6d06a926b92f58bf0d36b68876743011c3d49ec4658", func := "handcart/handcartlaw08.KeyDots", spec := "keyDots", unfollowed := true, recurses := true, plainKeys := false, apart := false, narrowed := true }
def KeyDotsUptoSaid : Prop := keyDotsUptoRow.holds Try.pinned (OpenSpec.upto keyDotsSpec)

/-- 'handcartlaw03.PackPuts', WHERE WHAT IT READS IS OF BULK AT MOST 1048576: true; the input reads as it did. -/
def packPutsUptoRow : OpenClaim := { program := "ytekpebbdfiidnaa", sum := "5480684a7c331be8dbadd6d06a926b92f58bf0d36b68876743011c3d49ec4658", func := "handcart/handcartlaw03.PackPuts", spec := "packPuts", unfollowed := true, recurses := true, plainKeys := false, apart := false, narrowed := true }
def PackPutsUptoSaid : Prop := packPutsUptoRow.holds Try.pinned (OpenSpec.upto packPutsSpec)

/-- 'handcartlaw03.PackBack', WHERE WHAT IT READS IS OF BULK AT MOST 1048576: true; the input reads as it did. -/
def packBackUptoRow : OpenClaim := { program := "ytekpebbdfiidnaa", sum := "5480684a7c331be8dbadd6d06a926b92f58bf0d36b68876743011c3d49ec4658", func := "handcart/handcartlaw03.PackBack", spec := "packBack", unfollowed := true, recurses := true, plainKeys := false, apart := false, narrowed := true }
def PackBackUptoSaid : Prop := packBackUptoRow.holds Try.pinned (OpenSpec.upto packBackSpec)

/-- 'handcartlaw07.WireWrites', WHERE WHAT IT READS IS OF BULK AT MOST 1048576: true; the input reads as it did. -/
def wireWritesUptoRow : OpenClaim := { program := "ytekpebbdfiidnaa", sum := "5480684a7c331be8dbadd6d06a926b92f58bf0d36b68876743011c3d49ec4658", func := "handcart/handcartlaw07.WireWrites", spec := "wireWrites", unfollowed := true, recurses := true, plainKeys := false, apart := false, narrowed := true }
def WireWritesUptoSaid : Prop := wireWritesUptoRow.holds Try.pinned (OpenSpec.upto wireWritesSpec)

/-- 'handcartlaw08.KeyWords', WHERE WHAT IT READS IS OF BULK AT MOST 1048576: true; the input reads as it did. -/
def keyWordsUptoRow : OpenClaim := { program := "ytekpebbdfiidnaa", sum := "5480684a7c331be8dbadd6d06a926b92f58bf0d36b68876743011c3d49ec4658", func := "handcart/handcartlaw08.KeyWords", spec := "keyWords", unfollowed := true, recurses := true, plainKeys := false, apart := false, narrowed := true }
def KeyWordsUptoSaid : Prop := keyWordsUptoRow.holds Try.pinned (OpenSpec.upto keyWordsSpec)

/-- 'handcartlaw09.AtomStamps', WHERE WHAT IT READS IS OF BULK AT MOST 1048576: true; the input reads as it did. -/
def atomStampsUptoRow : OpenClaim := { program := "ytekpebbdfiidnaa", sum := "5480684a7c331be8dbadd6d06a926b92f58bf0d36b68876743011c3d49ec4658", func := "handcart/handcartlaw09.AtomStamps", spec := "atomStamps", unfollowed := true, recurses := true, plainKeys := false, apart := false, narrowed := true }
def AtomStampsUptoSaid : Prop := atomStampsUptoRow.holds Try.pinned (OpenSpec.upto atomStampsSpec)

end Rows
end Go.Proofs.Ytekpebbdfiidnaa
