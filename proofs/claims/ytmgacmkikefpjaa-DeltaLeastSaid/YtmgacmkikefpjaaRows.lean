/-
  No cell of these rows narrows 'for every input' (looked for: loops, veiled, ifaces, maps, wideKeys, modest, calm, conditions, laid).
  DERIVED. THE GIVEN ROWS OF THIS SEAT. 18 by the template 'for every input the law returns true; each argument reads behind the call as it read before'; 0 by the template 'total and deterministic' (their statements: YtmgacmkikefpjaaTotals.lean).
  GIVEN WITH THE SEED: the statements are not yours to turn. If you find one false, say at which input.
  Laid BY PROGRAM, IN A SANDBOX (cutbox-rows.mjs): the forced cells as the released guide's own fill.sh prints them over the translation 1c987314c2873ad3… (all of the seat's roots in one cut). By AI agents, Wed Nov 11 2026. No macro, syntax, notation, axiom, sorry.
-/
import Derived.Test.YtmgacmkikefpjaaChecked
import GoSem.Claim
import GoSem.ClaimJoined
import GoSem.ClaimMapViews
import Derived.JoinedTies
import Derived.KernelRfl
namespace Go.Proofs.Ytmgacmkikefpjaa
/- THE CELL 'sum', in the pinned program and in every row, IS THE sha256 OF THE DUMP (.gsa) THAT YtmgacmkikefpjaaProg.lean LOADS. Nothing in Lean hashes anything: it is a label: what it is worth is what the hold of that sum in a sandbox is worth. -/
noncomputable def Try.pinned : Pinned := { name := "ytmgacmkikefpjaa", sum := "1c987314c2873ad3f63a5760e3a8ff5cbe133fb2a24c1fbca7e50caea1bb0576", checked := Try.checked }
namespace Rows
def none {H : Type} : Left H := { results := [], args := [] }

/-- 'handcartlaw10.LatAll': WHATEVER THE INPUT: true; the input reads as it did. -/
def latAllSpec : ChangeSpec := { name := "latAll", fn := fun _ => fun
  | [d1, d2] => { results := [.lit (.bool true)], args := [d1, d2] }
  | _ => none }
def latAllRow : OpenClaim := { program := "ytmgacmkikefpjaa", sum := "1c987314c2873ad3f63a5760e3a8ff5cbe133fb2a24c1fbca7e50caea1bb0576", func := "handcart/handcartlaw10.LatAll", spec := "latAll", unfollowed := true, recurses := true, plainKeys := false, apart := false }
def LatAllSaid : Prop := latAllRow.holds Try.pinned (OpenSpec.ofChange latAllSpec)

/-- ITS FALSE NEIGHBOUR: 'it returns false'. Refute it at one input. -/
def latAllWrong : ChangeSpec := { name := "latAll", fn := fun _ => fun
  | [d1, d2] => { results := [.lit (.bool false)], args := [d1, d2] }
  | _ => none }
def LatAllWrongFalsely : Prop := latAllRow.holds Try.pinned (OpenSpec.ofChange latAllWrong)

/-- 'handcartlaw10.LatNorms': WHATEVER THE INPUT: true; the input reads as it did. -/
def latNormsSpec : ChangeSpec := { name := "latNorms", fn := fun _ => fun
  | [d1, d2] => { results := [.lit (.bool true)], args := [d1, d2] }
  | _ => none }
def latNormsRow : OpenClaim := { program := "ytmgacmkikefpjaa", sum := "1c987314c2873ad3f63a5760e3a8ff5cbe133fb2a24c1fbca7e50caea1bb0576", func := "handcart/handcartlaw10.LatNorms", spec := "latNorms", unfollowed := true, recurses := true, plainKeys := false, apart := false }
def LatNormsSaid : Prop := latNormsRow.holds Try.pinned (OpenSpec.ofChange latNormsSpec)

/-- ITS FALSE NEIGHBOUR: 'it returns false'. Refute it at one input. -/
def latNormsWrong : ChangeSpec := { name := "latNorms", fn := fun _ => fun
  | [d1, d2] => { results := [.lit (.bool false)], args := [d1, d2] }
  | _ => none }
def LatNormsWrongFalsely : Prop := latNormsRow.holds Try.pinned (OpenSpec.ofChange latNormsWrong)

/-- 'handcartlaw10.LatJoins': WHATEVER THE INPUT: true; the input reads as it did. -/
def latJoinsSpec : ChangeSpec := { name := "latJoins", fn := fun _ => fun
  | [d1, d2] => { results := [.lit (.bool true)], args := [d1, d2] }
  | _ => none }
def latJoinsRow : OpenClaim := { program := "ytmgacmkikefpjaa", sum := "1c987314c2873ad3f63a5760e3a8ff5cbe133fb2a24c1fbca7e50caea1bb0576", func := "handcart/handcartlaw10.LatJoins", spec := "latJoins", unfollowed := true, recurses := true, plainKeys := false, apart := false }
def LatJoinsSaid : Prop := latJoinsRow.holds Try.pinned (OpenSpec.ofChange latJoinsSpec)

/-- ITS FALSE NEIGHBOUR: 'it returns false'. Refute it at one input. -/
def latJoinsWrong : ChangeSpec := { name := "latJoins", fn := fun _ => fun
  | [d1, d2] => { results := [.lit (.bool false)], args := [d1, d2] }
  | _ => none }
def LatJoinsWrongFalsely : Prop := latJoinsRow.holds Try.pinned (OpenSpec.ofChange latJoinsWrong)

/-- 'handcartlaw10.LatLeast': WHATEVER THE INPUT: true; the input reads as it did. -/
def latLeastSpec : ChangeSpec := { name := "latLeast", fn := fun _ => fun
  | [d1, d2, d3] => { results := [.lit (.bool true)], args := [d1, d2, d3] }
  | _ => none }
def latLeastRow : OpenClaim := { program := "ytmgacmkikefpjaa", sum := "1c987314c2873ad3f63a5760e3a8ff5cbe133fb2a24c1fbca7e50caea1bb0576", func := "handcart/handcartlaw10.LatLeast", spec := "latLeast", unfollowed := true, recurses := true, plainKeys := false, apart := false }
def LatLeastSaid : Prop := latLeastRow.holds Try.pinned (OpenSpec.ofChange latLeastSpec)

/-- ITS FALSE NEIGHBOUR: 'it returns false'. Refute it at one input. -/
def latLeastWrong : ChangeSpec := { name := "latLeast", fn := fun _ => fun
  | [d1, d2, d3] => { results := [.lit (.bool false)], args := [d1, d2, d3] }
  | _ => none }
def LatLeastWrongFalsely : Prop := latLeastRow.holds Try.pinned (OpenSpec.ofChange latLeastWrong)

/-- 'handcartlaw16.NoteLast': WHATEVER THE INPUT: true; the input reads as it did. -/
def noteLastSpec : ChangeSpec := { name := "noteLast", fn := fun _ => fun
  | [d1, d2, d3] => { results := [.lit (.bool true)], args := [d1, d2, d3] }
  | _ => none }
def noteLastRow : OpenClaim := { program := "ytmgacmkikefpjaa", sum := "1c987314c2873ad3f63a5760e3a8ff5cbe133fb2a24c1fbca7e50caea1bb0576", func := "handcart/handcartlaw16.NoteLast", spec := "noteLast", unfollowed := true, recurses := true, plainKeys := false, apart := false }
def NoteLastSaid : Prop := noteLastRow.holds Try.pinned (OpenSpec.ofChange noteLastSpec)

/-- ITS FALSE NEIGHBOUR: 'it returns false'. Refute it at one input. -/
def noteLastWrong : ChangeSpec := { name := "noteLast", fn := fun _ => fun
  | [d1, d2, d3] => { results := [.lit (.bool false)], args := [d1, d2, d3] }
  | _ => none }
def NoteLastWrongFalsely : Prop := noteLastRow.holds Try.pinned (OpenSpec.ofChange noteLastWrong)

/-- 'handcartlaw16.NotePuts': WHATEVER THE INPUT: true; the input reads as it did. -/
def notePutsSpec : ChangeSpec := { name := "notePuts", fn := fun _ => fun
  | [d1, d2, d3] => { results := [.lit (.bool true)], args := [d1, d2, d3] }
  | _ => none }
def notePutsRow : OpenClaim := { program := "ytmgacmkikefpjaa", sum := "1c987314c2873ad3f63a5760e3a8ff5cbe133fb2a24c1fbca7e50caea1bb0576", func := "handcart/handcartlaw16.NotePuts", spec := "notePuts", unfollowed := true, recurses := true, plainKeys := false, apart := false }
def NotePutsSaid : Prop := notePutsRow.holds Try.pinned (OpenSpec.ofChange notePutsSpec)

/-- ITS FALSE NEIGHBOUR: 'it returns false'. Refute it at one input. -/
def notePutsWrong : ChangeSpec := { name := "notePuts", fn := fun _ => fun
  | [d1, d2, d3] => { results := [.lit (.bool false)], args := [d1, d2, d3] }
  | _ => none }
def NotePutsWrongFalsely : Prop := notePutsRow.holds Try.pinned (OpenSpec.ofChange notePutsWrong)

/-- 'handcartlaw11.DeltaLeast': WHATEVER THE INPUT: true; the input reads as it did. -/
def deltaLeastSpec : ChangeSpec := { name := "deltaLeast", fn := fun _ => fun
  | [d1, d2, d3] => { results := [.lit (.bool true)], args := [d1, d2, d3] }
  | _ => none }
def deltaLeastRow : OpenClaim := { program := "ytmgacmkikefpjaa", sum := "1c987314c2873ad3f63a5760e3a8ff5cbe133fb2a24c1fbca7e50caea1bb0576", func := "handcart/handcartlaw11.DeltaLeast", spec := "deltaLeast", unfollowed := true, recurses := true, plainKeys := false, apart := false }
def DeltaLeastSaid : Prop := deltaLeastRow.holds Try.pinned (OpenSpec.ofChange deltaLeastSpec)

/-- ITS FALSE NEIGHBOUR: 'it returns false'. Refute it at one input. -/
def deltaLeastWrong : ChangeSpec := { name := "deltaLeast", fn := fun _ => fun
  | [d1, d2, d3] => { results := [.lit (.bool false)], args := [d1, d2, d3] }
  | _ => none }
def DeltaLeastWrongFalsely : Prop := deltaLeastRow.holds Try.pinned (OpenSpec.ofChange deltaLeastWrong)

/-- 'handcartlaw11.DeltaNeedless': WHATEVER THE INPUT: true; the input reads as it did. -/
def deltaNeedlessSpec : ChangeSpec := { name := "deltaNeedless", fn := fun _ => fun
  | [d] => { results := [.lit (.bool true)], args := [d] }
  | _ => none }
def deltaNeedlessRow : OpenClaim := { program := "ytmgacmkikefpjaa", sum := "1c987314c2873ad3f63a5760e3a8ff5cbe133fb2a24c1fbca7e50caea1bb0576", func := "handcart/handcartlaw11.DeltaNeedless", spec := "deltaNeedless", unfollowed := true, recurses := true, plainKeys := false, apart := false }
def DeltaNeedlessSaid : Prop := deltaNeedlessRow.holds Try.pinned (OpenSpec.ofChange deltaNeedlessSpec)

/-- ITS FALSE NEIGHBOUR: 'it returns false'. Refute it at one input. -/
def deltaNeedlessWrong : ChangeSpec := { name := "deltaNeedless", fn := fun _ => fun
  | [d] => { results := [.lit (.bool false)], args := [d] }
  | _ => none }
def DeltaNeedlessWrongFalsely : Prop := deltaNeedlessRow.holds Try.pinned (OpenSpec.ofChange deltaNeedlessWrong)

/-- 'handcartlaw11.DeltaParts': WHATEVER THE INPUT: true; the input reads as it did. -/
def deltaPartsSpec : ChangeSpec := { name := "deltaParts", fn := fun _ => fun
  | [d1, d2, d3] => { results := [.lit (.bool true)], args := [d1, d2, d3] }
  | _ => none }
def deltaPartsRow : OpenClaim := { program := "ytmgacmkikefpjaa", sum := "1c987314c2873ad3f63a5760e3a8ff5cbe133fb2a24c1fbca7e50caea1bb0576", func := "handcart/handcartlaw11.DeltaParts", spec := "deltaParts", unfollowed := true, recurses := true, plainKeys := false, apart := false }
def DeltaPartsSaid : Prop := deltaPartsRow.holds Try.pinned (OpenSpec.ofChange deltaPartsSpec)

/-- ITS FALSE NEIGHBOUR: 'it returns false'. Refute it at one input. -/
def deltaPartsWrong : ChangeSpec := { name := "deltaParts", fn := fun _ => fun
  | [d1, d2, d3] => { results := [.lit (.bool false)], args := [d1, d2, d3] }
  | _ => none }
def DeltaPartsWrongFalsely : Prop := deltaPartsRow.holds Try.pinned (OpenSpec.ofChange deltaPartsWrong)

/-- 'handcartlaw11.DeltaStands': WHATEVER THE INPUT: true; the input reads as it did. -/
def deltaStandsSpec : ChangeSpec := { name := "deltaStands", fn := fun _ => fun
  | [d] => { results := [.lit (.bool true)], args := [d] }
  | _ => none }
def deltaStandsRow : OpenClaim := { program := "ytmgacmkikefpjaa", sum := "1c987314c2873ad3f63a5760e3a8ff5cbe133fb2a24c1fbca7e50caea1bb0576", func := "handcart/handcartlaw11.DeltaStands", spec := "deltaStands", unfollowed := true, recurses := true, plainKeys := false, apart := false }
def DeltaStandsSaid : Prop := deltaStandsRow.holds Try.pinned (OpenSpec.ofChange deltaStandsSpec)

/-- ITS FALSE NEIGHBOUR: 'it returns false'. Refute it at one input. -/
def deltaStandsWrong : ChangeSpec := { name := "deltaStands", fn := fun _ => fun
  | [d] => { results := [.lit (.bool false)], args := [d] }
  | _ => none }
def DeltaStandsWrongFalsely : Prop := deltaStandsRow.holds Try.pinned (OpenSpec.ofChange deltaStandsWrong)

/-- 'handcartlaw14.TagsAdds': WHATEVER THE INPUT: true; the input reads as it did. -/
def tagsAddsSpec : ChangeSpec := { name := "tagsAdds", fn := fun _ => fun
  | [d1, d2, d3] => { results := [.lit (.bool true)], args := [d1, d2, d3] }
  | _ => none }
def tagsAddsRow : OpenClaim := { program := "ytmgacmkikefpjaa", sum := "1c987314c2873ad3f63a5760e3a8ff5cbe133fb2a24c1fbca7e50caea1bb0576", func := "handcart/handcartlaw14.TagsAdds", spec := "tagsAdds", unfollowed := true, recurses := true, plainKeys := false, apart := false }
def TagsAddsSaid : Prop := tagsAddsRow.holds Try.pinned (OpenSpec.ofChange tagsAddsSpec)

/-- ITS FALSE NEIGHBOUR: 'it returns false'. Refute it at one input. -/
def tagsAddsWrong : ChangeSpec := { name := "tagsAdds", fn := fun _ => fun
  | [d1, d2, d3] => { results := [.lit (.bool false)], args := [d1, d2, d3] }
  | _ => none }
def TagsAddsWrongFalsely : Prop := tagsAddsRow.holds Try.pinned (OpenSpec.ofChange tagsAddsWrong)

/-- 'handcartlaw14.TagsWin': WHATEVER THE INPUT: true; the input reads as it did. -/
def tagsWinSpec : ChangeSpec := { name := "tagsWin", fn := fun _ => fun
  | [d1, d2, d3] => { results := [.lit (.bool true)], args := [d1, d2, d3] }
  | _ => none }
def tagsWinRow : OpenClaim := { program := "ytmgacmkikefpjaa", sum := "1c987314c2873ad3f63a5760e3a8ff5cbe133fb2a24c1fbca7e50caea1bb0576", func := "handcart/handcartlaw14.TagsWin", spec := "tagsWin", unfollowed := true, recurses := true, plainKeys := false, apart := false }
def TagsWinSaid : Prop := tagsWinRow.holds Try.pinned (OpenSpec.ofChange tagsWinSpec)

/-- ITS FALSE NEIGHBOUR: 'it returns false'. Refute it at one input. -/
def tagsWinWrong : ChangeSpec := { name := "tagsWin", fn := fun _ => fun
  | [d1, d2, d3] => { results := [.lit (.bool false)], args := [d1, d2, d3] }
  | _ => none }
def TagsWinWrongFalsely : Prop := tagsWinRow.holds Try.pinned (OpenSpec.ofChange tagsWinWrong)

/-- 'handcartlaw15.CountTurns': WHATEVER THE INPUT: true; the input reads as it did. -/
def countTurnsSpec : ChangeSpec := { name := "countTurns", fn := fun _ => fun
  | [d1, d2] => { results := [.lit (.bool true)], args := [d1, d2] }
  | _ => none }
def countTurnsRow : OpenClaim := { program := "ytmgacmkikefpjaa", sum := "1c987314c2873ad3f63a5760e3a8ff5cbe133fb2a24c1fbca7e50caea1bb0576", func := "handcart/handcartlaw15.CountTurns", spec := "countTurns", unfollowed := true, recurses := true, plainKeys := false, apart := false }
def CountTurnsSaid : Prop := countTurnsRow.holds Try.pinned (OpenSpec.ofChange countTurnsSpec)

/-- ITS FALSE NEIGHBOUR: 'it returns false'. Refute it at one input. -/
def countTurnsWrong : ChangeSpec := { name := "countTurns", fn := fun _ => fun
  | [d1, d2] => { results := [.lit (.bool false)], args := [d1, d2] }
  | _ => none }
def CountTurnsWrongFalsely : Prop := countTurnsRow.holds Try.pinned (OpenSpec.ofChange countTurnsWrong)

/-- 'handcartlaw15.CountAdds': WHATEVER THE INPUT: true; the input reads as it did. -/
def countAddsSpec : ChangeSpec := { name := "countAdds", fn := fun _ => fun
  | [d1, d2, d3] => { results := [.lit (.bool true)], args := [d1, d2, d3] }
  | _ => none }
def countAddsRow : OpenClaim := { program := "ytmgacmkikefpjaa", sum := "1c987314c2873ad3f63a5760e3a8ff5cbe133fb2a24c1fbca7e50caea1bb0576", func := "handcart/handcartlaw15.CountAdds", spec := "countAdds", unfollowed := true, recurses := true, plainKeys := false, apart := false }
def CountAddsSaid : Prop := countAddsRow.holds Try.pinned (OpenSpec.ofChange countAddsSpec)

/-- ITS FALSE NEIGHBOUR: 'it returns false'. Refute it at one input. -/
def countAddsWrong : ChangeSpec := { name := "countAdds", fn := fun _ => fun
  | [d1, d2, d3] => { results := [.lit (.bool false)], args := [d1, d2, d3] }
  | _ => none }
def CountAddsWrongFalsely : Prop := countAddsRow.holds Try.pinned (OpenSpec.ofChange countAddsWrong)

/-- 'handcartlaw21.ChunkFewest': WHATEVER THE INPUT: true; the input reads as it did. -/
def chunkFewestSpec : ChangeSpec := { name := "chunkFewest", fn := fun _ => fun
  | [d1, d2, d3] => { results := [.lit (.bool true)], args := [d1, d2, d3] }
  | _ => none }
def chunkFewestRow : OpenClaim := { program := "ytmgacmkikefpjaa", sum := "1c987314c2873ad3f63a5760e3a8ff5cbe133fb2a24c1fbca7e50caea1bb0576", func := "handcart/handcartlaw21.ChunkFewest", spec := "chunkFewest", unfollowed := true, recurses := true, plainKeys := false, apart := false }
def ChunkFewestSaid : Prop := chunkFewestRow.holds Try.pinned (OpenSpec.ofChange chunkFewestSpec)

/-- ITS FALSE NEIGHBOUR: 'it returns false'. Refute it at one input. -/
def chunkFewestWrong : ChangeSpec := { name := "chunkFewest", fn := fun _ => fun
  | [d1, d2, d3] => { results := [.lit (.bool false)], args := [d1, d2, d3] }
  | _ => none }
def ChunkFewestWrongFalsely : Prop := chunkFewestRow.holds Try.pinned (OpenSpec.ofChange chunkFewestWrong)

/-- 'handcartlaw13.DotsAdds': WHATEVER THE INPUT: true; the input reads as it did. -/
def dotsAddsSpec : ChangeSpec := { name := "dotsAdds", fn := fun _ => fun
  | [d1, d2, d3] => { results := [.lit (.bool true)], args := [d1, d2, d3] }
  | _ => none }
def dotsAddsRow : OpenClaim := { program := "ytmgacmkikefpjaa", sum := "1c987314c2873ad3f63a5760e3a8ff5cbe133fb2a24c1fbca7e50caea1bb0576", func := "handcart/handcartlaw13.DotsAdds", spec := "dotsAdds", unfollowed := true, recurses := true, plainKeys := false, apart := false }
def DotsAddsSaid : Prop := dotsAddsRow.holds Try.pinned (OpenSpec.ofChange dotsAddsSpec)

/-- ITS FALSE NEIGHBOUR: 'it returns false'. Refute it at one input. -/
def dotsAddsWrong : ChangeSpec := { name := "dotsAdds", fn := fun _ => fun
  | [d1, d2, d3] => { results := [.lit (.bool false)], args := [d1, d2, d3] }
  | _ => none }
def DotsAddsWrongFalsely : Prop := dotsAddsRow.holds Try.pinned (OpenSpec.ofChange dotsAddsWrong)

/-- 'handcartlaw13.DotsAlone': WHATEVER THE INPUT: true; the input reads as it did. -/
def dotsAloneSpec : ChangeSpec := { name := "dotsAlone", fn := fun _ => fun
  | [d1, d2, d3] => { results := [.lit (.bool true)], args := [d1, d2, d3] }
  | _ => none }
def dotsAloneRow : OpenClaim := { program := "ytmgacmkikefpjaa", sum := "1c987314c2873ad3f63a5760e3a8ff5cbe133fb2a24c1fbca7e50caea1bb0576", func := "handcart/handcartlaw13.DotsAlone", spec := "dotsAlone", unfollowed := true, recurses := true, plainKeys := false, apart := false }
def DotsAloneSaid : Prop := dotsAloneRow.holds Try.pinned (OpenSpec.ofChange dotsAloneSpec)

/-- ITS FALSE NEIGHBOUR: 'it returns false'. Refute it at one input. -/
def dotsAloneWrong : ChangeSpec := { name := "dotsAlone", fn := fun _ => fun
  | [d1, d2, d3] => { results := [.lit (.bool false)], args := [d1, d2, d3] }
  | _ => none }
def DotsAloneWrongFalsely : Prop := dotsAloneRow.holds Try.pinned (OpenSpec.ofChange dotsAloneWrong)

/-- 'handcartlaw13.DotsJoins': WHATEVER THE INPUT: true; the input reads as it did. -/
def dotsJoinsSpec : ChangeSpec := { name := "dotsJoins", fn := fun _ => fun
  | [d1, d2] => { results := [.lit (.bool true)], args := [d1, d2] }
  | _ => none }
def dotsJoinsRow : OpenClaim := { program := "ytmgacmkikefpjaa", sum := "1c987314c2873ad3f63a5760e3a8ff5cbe133fb2a24c1fbca7e50caea1bb0576", func := "handcart/handcartlaw13.DotsJoins", spec := "dotsJoins", unfollowed := true, recurses := true, plainKeys := false, apart := false }
def DotsJoinsSaid : Prop := dotsJoinsRow.holds Try.pinned (OpenSpec.ofChange dotsJoinsSpec)

/-- ITS FALSE NEIGHBOUR: 'it returns false'. Refute it at one input. -/
def dotsJoinsWrong : ChangeSpec := { name := "dotsJoins", fn := fun _ => fun
  | [d1, d2] => { results := [.lit (.bool false)], args := [d1, d2] }
  | _ => none }
def DotsJoinsWrongFalsely : Prop := dotsJoinsRow.holds Try.pinned (OpenSpec.ofChange dotsJoinsWrong)

/- THE SECOND FORM. 'bulk': how many values and letters a reading holds, each counted each time it is reached (what is shared counts as often as it is met; a slice's spare places count too). A statement '..UptoSaid' is the law's where the arguments, and the package variables that the reading takes, are together of bulk at most 1048576: NARROWER than '..Said'. Prove '..Said' where nothing that the law and all that it calls make is longer than what came in: it says more and counts as full. Else prove '..UptoSaid'. A law counts once. -/
mutual
def uptoBulk {H : Type} : DataW H → Nat
  | .lit (.string bytes) => bytes.length + 1
  | .lit _ => 1
  | .nil => 1
  | .ptr d => uptoBulk d + 1
  | .slice elems spare => uptoBulkAll elems + uptoBulkAll spare + 1
  | .agg parts => uptoBulkAll parts + 1
  | .iface _ d => uptoBulk d + 1
  | .map entries => uptoBulkEntries entries + 1
  | .held _ => 1
def uptoBulkAll {H : Type} : List (DataW H) → Nat
  | [] => 0
  | d :: r => uptoBulk d + uptoBulkAll r
def uptoBulkEntries {H : Type} : List (Lit × DataW H) → Nat
  | [] => 0
  | x :: r => uptoBulkEntry x + uptoBulkEntries r
def uptoBulkEntry {H : Type} : Lit × DataW H → Nat
  | (.string bytes, d) => bytes.length + uptoBulk d + 1
  | (_, d) => uptoBulk d + 1
 end
def uptoSmall : (H : Type) → List (DataW H) → Bool := fun _ ds => decide (uptoBulkAll ds ≤ 1048576)
def OpenSpec.upto (s : _root_.Go.ChangeSpec) : _root_.Go.OpenSpec := { _root_.Go.OpenSpec.ofChange s with cond := some uptoSmall }

/-- 'handcartlaw10.LatAll', WHERE WHAT IT READS IS OF BULK AT MOST 1048576: true; the input reads as it did. -/
def latAllUptoRow : OpenClaim := { program := "ytmgacmkikefpjaa", sum := "1c987314c2873ad3f63a5760e3a8ff5cbe133fb2a24c1fbca7e50caea1bb0576", func := "handcart/handcartlaw10.LatAll", spec := "latAll", unfollowed := true, recurses := true, plainKeys := false, apart := false, narrowed := true }
def LatAllUptoSaid : Prop := latAllUptoRow.holds Try.pinned (OpenSpec.upto latAllSpec)

/-- 'handcartlaw10.LatNorms', WHERE WHAT IT READS IS OF BULK AT MOST 1048576: true; the input reads as it did. -/
def latNormsUptoRow : OpenClaim := { program := "ytmgacmkikefpjaa", sum := "1c987314c2873ad3f63a5760e3a8ff5cbe133fb2a24c1fbca7e50caea1bb0576", func := "handcart/handcartlaw10.LatNorms", spec := "latNorms", unfollowed := true, recurses := true, plainKeys := false, apart := false, narrowed := true }
def LatNormsUptoSaid : Prop := latNormsUptoRow.holds Try.pinned (OpenSpec.upto latNormsSpec)

/-- 'handcartlaw10.LatJoins', WHERE WHAT IT READS IS OF BULK AT MOST 1048576: true; the input reads as it did. -/
def latJoinsUptoRow : OpenClaim := { program := "ytmgacmkikefpjaa", sum := "1c987314c2873ad3f63a5760e3a8ff5cbe133fb2a24c1fbca7e50caea1bb0576", func := "handcart/handcartlaw10.LatJoins", spec := "latJoins", unfollowed := true, recurses := true, plainKeys := false, apart := false, narrowed := true }
def LatJoinsUptoSaid : Prop := latJoinsUptoRow.holds Try.pinned (OpenSpec.upto latJoinsSpec)

/-- 'handcartlaw10.LatLeast', WHERE WHAT IT READS IS OF BULK AT MOST 1048576: true; the input reads as it did. -/
def latLeastUptoRow : OpenClaim := { program := "ytmgacmkikefpjaa", sum := "1c987314c2873ad3f63a5760e3a8ff5cbe133fb2a24c1fbca7e50caea1bb0576", func := "handcart/handcartlaw10.LatLeast", spec := "latLeast", unfollowed := true, recurses := true, plainKeys := false, apart := false, narrowed := true }
def LatLeastUptoSaid : Prop := latLeastUptoRow.holds Try.pinned (OpenSpec.upto latLeastSpec)

/-- 'handcartlaw16.NoteLast', WHERE WHAT IT READS IS OF BULK AT MOST 1048576: true; the input reads as it did. -/
def noteLastUptoRow : OpenClaim := { program := "ytmgacmkikefpjaa", sum := "1c987314c2873ad3f63a5760e3a8ff5cbe133fb2a24c1fbca7e50caea1bb0576", func := "handcart/handcartlaw16.NoteLast", spec := "noteLast", unfollowed := true, recurses := true, plainKeys := false, apart := false, narrowed := true }
def NoteLastUptoSaid : Prop := noteLastUptoRow.holds Try.pinned (OpenSpec.upto noteLastSpec)

/-- 'handcartlaw16.NotePuts', WHERE WHAT IT READS IS OF BULK AT MOST 1048576: true; the input reads as it did. -/
def notePutsUptoRow : OpenClaim := { program := "ytmgacmkikefpjaa", sum := "1c987314c2873ad3f63a5760e3a8ff5cbe133fb2a24c1fbca7e50caea1bb0576", func := "handcart/handcartlaw16.NotePuts", spec := "notePuts", unfollowed := true, recurses := true, plainKeys := false, apart := false, narrowed := true }
def NotePutsUptoSaid : Prop := notePutsUptoRow.holds Try.pinned (OpenSpec.upto notePutsSpec)

/-- 'handcartlaw11.DeltaLeast', WHERE WHAT IT READS IS OF BULK AT MOST 1048576: true; the input reads as it did. -/
def deltaLeastUptoRow : OpenClaim := { program := "ytmgacmkikefpjaa", sum := "1c987314c2873ad3f63a5760e3a8ff5cbe133fb2a24c1fbca7e50caea1bb0576", func := "handcart/handcartlaw11.DeltaLeast", spec := "deltaLeast", unfollowed := true, recurses := true, plainKeys := false, apart := false, narrowed := true }
def DeltaLeastUptoSaid : Prop := deltaLeastUptoRow.holds Try.pinned (OpenSpec.upto deltaLeastSpec)

/-- 'handcartlaw11.DeltaNeedless', WHERE WHAT IT READS IS OF BULK AT MOST 1048576: true; the input reads as it did. -/
def deltaNeedlessUptoRow : OpenClaim := { program := "ytmgacmkikefpjaa", sum := "1c987314c2873ad3f63a5760e3a8ff5cbe133fb2a24c1fbca7e50caea1bb0576", func := "handcart/handcartlaw11.DeltaNeedless", spec := "deltaNeedless", unfollowed := true, recurses := true, plainKeys := false, apart := false, narrowed := true }
def DeltaNeedlessUptoSaid : Prop := deltaNeedlessUptoRow.holds Try.pinned (OpenSpec.upto deltaNeedlessSpec)

/-- 'handcartlaw11.DeltaParts', WHERE WHAT IT READS IS OF BULK AT MOST 1048576: true; the input reads as it did. -/
def deltaPartsUptoRow : OpenClaim := { program := "ytmgacmkikefpjaa", sum := "1c987314c2873ad3f63a5760e3a8ff5cbe133fb2a24c1fbca7e50caea1bb0576", func := "handcart/handcartlaw11.DeltaParts", spec := "deltaParts", unfollowed := true, recurses := true, plainKeys := false, apart := false, narrowed := true }
def DeltaPartsUptoSaid : Prop := deltaPartsUptoRow.holds Try.pinned (OpenSpec.upto deltaPartsSpec)

/-- 'handcartlaw11.DeltaStands', WHERE WHAT IT READS IS OF BULK AT MOST 1048576: true; the input reads as it did. -/
def deltaStandsUptoRow : OpenClaim := { program := "ytmgacmkikefpjaa", sum := "1c987314c2873ad3f63a5760e3a8ff5cbe133fb2a24c1fbca7e50caea1bb0576", func := "handcart/handcartlaw11.DeltaStands", spec := "deltaStands", unfollowed := true, recurses := true, plainKeys := false, apart := false, narrowed := true }
def DeltaStandsUptoSaid : Prop := deltaStandsUptoRow.holds Try.pinned (OpenSpec.upto deltaStandsSpec)

/-- 'handcartlaw14.TagsAdds', WHERE WHAT IT READS IS OF BULK AT MOST 1048576: true; the input reads as it did. -/
def tagsAddsUptoRow : OpenClaim := { program := "ytmgacmkikefpjaa", sum := "1c987314c2873ad3f63a5760e3a8ff5cbe133fb2a24c1fbca7e50caea1bb0576", func := "handcart/handcartlaw14.TagsAdds", spec := "tagsAdds", unfollowed := true, recurses := true, plainKeys := false, apart := false, narrowed := true }
def TagsAddsUptoSaid : Prop := tagsAddsUptoRow.holds Try.pinned (OpenSpec.upto tagsAddsSpec)

/-- 'handcartlaw14.TagsWin', WHERE WHAT IT READS IS OF BULK AT MOST 1048576: true; the input reads as it did. -/
def tagsWinUptoRow : OpenClaim := { program := "ytmgacmkikefpjaa", sum := "1c987314c2873ad3f63a5760e3a8ff5cbe133fb2a24c1fbca7e50caea1bb0576", func := "handcart/handcartlaw14.TagsWin", spec := "tagsWin", unfollowed := true, recurses := true, plainKeys := false, apart := false, narrowed := true }
def TagsWinUptoSaid : Prop := tagsWinUptoRow.holds Try.pinned (OpenSpec.upto tagsWinSpec)

/-- 'handcartlaw15.CountTurns', WHERE WHAT IT READS IS OF BULK AT MOST 1048576: true; the input reads as it did. -/
def countTurnsUptoRow : OpenClaim := { program := "ytmgacmkikefpjaa", sum := "1c987314c2873ad3f63a5760e3a8ff5cbe133fb2a24c1fbca7e50caea1bb0576", func := "handcart/handcartlaw15.CountTurns", spec := "countTurns", unfollowed := true, recurses := true, plainKeys := false, apart := false, narrowed := true }
def CountTurnsUptoSaid : Prop := countTurnsUptoRow.holds Try.pinned (OpenSpec.upto countTurnsSpec)

/-- 'handcartlaw15.CountAdds', WHERE WHAT IT READS IS OF BULK AT MOST 1048576: true; the input reads as it did. -/
def countAddsUptoRow : OpenClaim := { program := "ytmgacmkikefpjaa", sum := "1c987314c2873ad3f63a5760e3a8ff5cbe133fb2a24c1fbca7e50caea1bb0576", func := "handcart/handcartlaw15.CountAdds", spec := "countAdds", unfollowed := true, recurses := true, plainKeys := false, apart := false, narrowed := true }
def CountAddsUptoSaid : Prop := countAddsUptoRow.holds Try.pinned (OpenSpec.upto countAddsSpec)

/-- 'handcartlaw21.ChunkFewest', WHERE WHAT IT READS IS OF BULK AT MOST 1048576: true; the input reads as it did. -/
def chunkFewestUptoRow : OpenClaim := { program := "ytmgacmkikefpjaa", sum := "1c987314c2873ad3f63a5760e3a8ff5cbe133fb2a24c1fbca7e50caea1bb0576", func := "handcart/handcartlaw21.ChunkFewest", spec := "chunkFewest", unfollowed := true, recurses := true, plainKeys := false, apart := false, narrowed := true }
def ChunkFewestUptoSaid : Prop := chunkFewestUptoRow.holds Try.pinned (OpenSpec.upto chunkFewestSpec)

/-- 'handcartlaw13.DotsAdds', WHERE WHAT IT READS IS OF BULK AT MOST 1048576: true; the input reads as it did. -/
def dotsAddsUptoRow : OpenClaim := { program := "ytmgacmkikefpjaa", sum := "1c987314c2873ad3f63a5760e3a8ff5cbe133fb2a24c1fbca7e50caea1bb0576", func := "handcart/handcartlaw13.DotsAdds", spec := "dotsAdds", unfollowed := true, recurses := true, plainKeys := false, apart := false, narrowed := true }
def DotsAddsUptoSaid : Prop := dotsAddsUptoRow.holds Try.pinned (OpenSpec.upto dotsAddsSpec)

/-- 'handcartlaw13.DotsAlone', WHERE WHAT IT READS IS OF BULK AT MOST 1048576: true; the input reads as it did. -/
def dotsAloneUptoRow : OpenClaim := { program := "ytmgacmkikefpjaa", sum := "1c987314c2873ad3f63a5760e3a8ff5cbe133fb2a24c1fbca7e50caea1bb0576", func := "handcart/handcartlaw13.DotsAlone", spec := "dotsAlone", unfollowed := true, recurses := true, plainKeys := false, apart := false, narrowed := true }
def DotsAloneUptoSaid : Prop := dotsAloneUptoRow.holds Try.pinned (OpenSpec.upto dotsAloneSpec)

/-- 'handcartlaw13.DotsJoins', WHERE WHAT IT READS IS OF BULK AT MOST 1048576: true; the input reads as it did. -/
def dotsJoinsUptoRow : OpenClaim := { program := "ytmgacmkikefpjaa", sum := "1c987314c2873ad3f63a5760e3a8ff5cbe133fb2a24c1fbca7e50caea1bb0576", func := "handcart/handcartlaw13.DotsJoins", spec := "dotsJoins", unfollowed := true, recurses := true, plainKeys := false, apart := false, narrowed := true }
def DotsJoinsUptoSaid : Prop := dotsJoinsUptoRow.holds Try.pinned (OpenSpec.upto dotsJoinsSpec)

end Rows
end Go.Proofs.Ytmgacmkikefpjaa
