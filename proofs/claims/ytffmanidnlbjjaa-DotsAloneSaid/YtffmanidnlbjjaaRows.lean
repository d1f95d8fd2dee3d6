/-
  No cell of these rows narrows 'for every input' (looked for: loops, veiled, ifaces, maps, wideKeys, modest, calm, conditions, laid).
  DERIVED. THE GIVEN ROWS OF THIS SEAT. 6 by the template 'for every input the law returns true; each argument reads behind the call as it read before'; 0 by the template 'total and deterministic' (their statements: YtffmanidnlbjjaaTotals.lean).
  GIVEN WITH THE SEED: the statements are not yours to turn. If you find one false, say at which input.
  Laid BY PROGRAM, IN A SANDBOX (cutbox-rows.mjs): the forced cells as the released guide's own fill.sh prints them over the translation 6c284ff2f38be15a… (all of the seat's roots in one cut). By AI agents, Wed Nov 11 2026. No macro, syntax, notation, axiom, sorry.
-/
import Derived.Test.YtffmanidnlbjjaaChecked
import GoSem.Claim
import GoSem.ClaimJoined
import GoSem.ClaimMapViews
import Derived.JoinedTies
import Derived.KernelRfl
namespace Go.Proofs.Ytffmanidnlbjjaa
/- THE CELL 'sum', in the pinned program and in every row, IS THE sha256 OF THE DUMP (.gsa) THAT YtffmanidnlbjjaaProg.lean LOADS. Nothing in Lean hashes anything: it is a label: what it is worth is what the hold of that sum in a sandbox is worth. -/
noncomputable def Try.pinned : Pinned := { name := "ytffmanidnlbjjaa", sum := "6c284ff2f38be15ad2268d9fa8aea9c006fe9a50ed04c8636122243dd2aadf3a", checked := Try.checked }
namespace Rows
def none {H : Type} : Left H := { results := [], args := [] }

/-- 'handcartlaw14.TagsAdds': WHATEVER THE INPUT: true; the input reads as it did. -/
def tagsAddsSpec : ChangeSpec := { name := "tagsAdds", fn := fun _ => fun
  | [d1, d2, d3] => { results := [.lit (.bool true)], args := [d1, d2, d3] }
  | _ => none }
def tagsAddsRow : OpenClaim := { program := "ytffmanidnlbjjaa", sum := "6c284ff2f38be15ad2268d9fa8aea9c006fe9a50ed04c8636122243dd2aadf3a", func := "handcart/handcartlaw14.TagsAdds", spec := "tagsAdds", unfollowed := true, recurses := true, plainKeys := false, apart := false }
def TagsAddsSaid : Prop := tagsAddsRow.holds Try.pinned (OpenSpec.ofChange tagsAddsSpec)

/-- ITS FALSE NEIGHBOUR: 'it returns false'. Refute it at one input. -/
def tagsAddsWrong : ChangeSpec := { name := "tagsAdds", fn := fun _ => fun
  | [d1, d2, d3] => { results := [.lit (.bool false)], args := [d1, d2, d3] }
  | _ => none }
def TagsAddsWrongFalsely : Prop := tagsAddsRow.holds Try.pinned (OpenSpec.ofChange tagsAddsWrong)

/-- 'handcartlaw14.TagsWin': WHATEVER THE INPUT: true; the input reads as it did. -/
def tagsWinSpec : ChangeSpec := { name := "tagsWin", fn := fun _ => fun
  | [d1, d2, d3] => { results := [.lit (.bool true)], args := [d1, d2, d3] }
  | _ => none }
def tagsWinRow : OpenClaim := { program := "ytffmanidnlbjjaa", sum := "6c284ff2f38be15ad2268d9fa8aea9c006fe9a50ed04c8636122243dd2aadf3a", func := "handcart/handcartlaw14.TagsWin", spec := "tagsWin", unfollowed := true, recurses := true, plainKeys := false, apart := false }
def TagsWinSaid : Prop := tagsWinRow.holds Try.pinned (OpenSpec.ofChange tagsWinSpec)

/-- ITS FALSE NEIGHBOUR: 'it returns false'. Refute it at one input. -/
def tagsWinWrong : ChangeSpec := { name := "tagsWin", fn := fun _ => fun
  | [d1, d2, d3] => { results := [.lit (.bool false)], args := [d1, d2, d3] }
  | _ => none }
def TagsWinWrongFalsely : Prop := tagsWinRow.holds Try.pinned (OpenSpec.ofChange tagsWinWrong)

/-- 'handcartlaw21.ChunkFewest': WHATEVER THE INPUT: true; the input reads as it did. -/
def chunkFewestSpec : ChangeSpec := { name := "chunkFewest", fn := fun _ => fun
  | [d1, d2, d3] => { results := [.lit (.bool true)], args := [d1, d2, d3] }
  | _ => none }
def chunkFewestRow : OpenClaim := { program := "ytffmanidnlbjjaa", sum := "6c284ff2f38be15ad2268d9fa8aea9c006fe9a50ed04c8636122243dd2aadf3a", func := "handcart/handcartlaw21.ChunkFewest", spec := "chunkFewest", unfollowed := true, recurses := true, plainKeys := false, apart := false }
def ChunkFewestSaid : Prop := chunkFewestRow.holds Try.pinned (OpenSpec.ofChange chunkFewestSpec)

/-- ITS FALSE NEIGHBOUR: 'it returns false'. Refute it at one input. -/
def chunkFewestWrong : ChangeSpec := { name := "chunkFewest", fn := fun _ => fun
  | [d1, d2, d3] => { results := [.lit (.bool false)], args := [d1, d2, d3] }
  | _ => none }
def ChunkFewestWrongFalsely : Prop := chunkFewestRow.holds Try.pinned (OpenSpec.ofChange chunkFewestWrong)

/-- 'handcartlaw13.DotsAdds': WHATEVER THE INPUT: true; the input reads as it did. -/
def dotsAddsSpec : ChangeSpec := { name := "dotsAdds", fn := fun _ => fun
  | [d1, d2, d3] => { results := [.lit (.bool true)], args := [d1, d2, d3] }
  | _ => none }
def dotsAddsRow : OpenClaim := { program := "ytffmanidnlbjjaa", sum := "6c284ff2f38be15ad2268d9fa8aea9c006fe9a50ed04c8636122243dd2aadf3a", func := "handcart/handcartlaw13.DotsAdds", spec := "dotsAdds", unfollowed := true, recurses := true, plainKeys := false, apart := false }
def DotsAddsSaid : Prop := dotsAddsRow.holds Try.pinned (OpenSpec.ofChange dotsAddsSpec)

/-- ITS FALSE NEIGHBOUR: 'it returns false'. Refute it at one input. -/
def dotsAddsWrong : ChangeSpec := { name := "dotsAdds", fn := fun _ => fun
  | [d1, d2, d3] => { results := [.lit (.bool false)], args := [d1, d2, d3] }
  | _ => none }
def DotsAddsWrongFalsely : Prop := dotsAddsRow.holds Try.pinned (OpenSpec.ofChange dotsAddsWrong)

/-- 'handcartlaw13.DotsAlone': WHATEVER THE INPUT: true; the input reads as it did. -/
def dotsAloneSpec : ChangeSpec := { name := "dotsAlone", fn := fun _ => fun
  | [d1, d2, d3] => { results := [.lit (.bool true)], args := [d1, d2, d3] }
  | _ => none }
def dotsAloneRow : OpenClaim := { program := "ytffmanidnlbjjaa", sum := "6c284ff2f38be15ad2268d9fa8aea9c006fe9a50ed04c8636122243dd2aadf3a", func := "handcart/handcartlaw13.DotsAlone", spec := "dotsAlone", unfollowed := true, recurses := true, plainKeys := false, apart := false }
def DotsAloneSaid : Prop := dotsAloneRow.holds Try.pinned (OpenSpec.ofChange dotsAloneSpec)

/-- ITS FALSE NEIGHBOUR: 'it returns false'. Refute it at one input. -/
def dotsAloneWrong : ChangeSpec := { name := "dotsAlone", fn := fun _ => fun
  | [d1, d2, d3] => { results := [.lit (.bool false)], args := [d1, d2, d3] }
  | _ => none }
def DotsAloneWrongFalsely : Prop := dotsAloneRow.holds Try.pinned (OpenSpec.ofChange dotsAloneWrong)

/-- 'handcartlaw13.DotsJoins': WHATEVER THE INPUT: true; the input reads as it did. -/
def dotsJoinsSpec : ChangeSpec := { name := "dotsJoins", fn := fun _ => fun
  | [d1, d2] => { results := [.lit (.bool true)], args := [d1, d2] }
  | _ => none }
def dotsJoinsRow : OpenClaim := { program := "ytffmanidnlbjjaa", sum := "6c284ff2f38be15ad2268d9fa8aea9c006fe9a50ed04c8636122243dd2aadf3a", func := "handcart/handcartlaw13.DotsJoins", spec := "dotsJoins", unfollowed := true, recurses := true, plainKeys := false, apart := false }
def DotsJoinsSaid : Prop := dotsJoinsRow.holds Try.pinned (OpenSpec.ofChange dotsJoinsSpec)

/-- ITS FALSE NEIGHBOUR: 'it returns false'. Refute it at one input. -/
def dotsJoinsWrong : ChangeSpec := { name := "dotsJoins", fn := fun _ => fun
  | [d1, d2] => { results := [.lit (.bool false)], args := [d1, d2] }
  | _ => none }
def DotsJoinsWrongFalsely : Prop := dotsJoinsRow.holds Try.pinned (OpenSpec.ofChange dotsJoinsWrong)

/- THE SECOND FORM. 'bulk': how many values and letters a reading holds, each counted each time it is reached (what is shared counts as often as it is met; a slice's spare places count too). A statement '..UptoSaid' is the law's where the arguments, and the package variables that the reading takes, are together of bulk at most 1048576: NARROWER than '..Said'. Prove '..Said' where nothing that the law and all that it calls make is longer than what came in: it says more and counts as full. Else prove '..UptoSaid'. A law counts once. -/
mutual
def uptoBulk {H : Type} : DataW H → Nat
  | .lit (.string bytes) => bytes.length + 1
  | .lit _ => 1
  | .nil => 1
  | .ptr d => uptoBulk d + 1
  | .slice elems spare => uptoBulkAll elems + uptoBulkAll spare + 1
  | .agg parts => uptoBulkAll parts + 1
  | .iface _ d => uptoBulk d + 1
  | .map entries => uptoBulkEntries entries + 1
  | .held _ => 1
def uptoBulkAll {H : Type} : List (DataW H) → Nat
  | [] => 0
  | d :: r => uptoBulk d + uptoBulkAll r
def uptoBulkEntries {H : Type} : List (Lit × DataW H) → Nat
  | [] => 0
  | x :: r => uptoBulkEntry x + uptoBulkEntries r
def uptoBulkEntry {H : Type} : Lit × DataW H → Nat
  | (.string bytes, d) => bytes.length + uptoBulk d + 1
  | (_, d) => uptoBulk d + 1
 end
def uptoSmall : (H : Type) → List (DataW H) → Bool := fun _ ds => decide (uptoBulkAll ds ≤ 1048576)
def OpenSpec.upto (s : _root_.Go.ChangeSpec) : _root_.Go.OpenSpec := { _root_.Go.OpenSpec.ofChange s with cond := some uptoSmall }

/-- 'handcartlaw14.TagsAdds', WHERE WHAT IT READS IS OF BULK AT MOST 1048576: true; the input reads as it did. -/
def tagsAddsUptoRow : OpenClaim := { program := "ytffmanidnlbjjaa", sum := "6c284ff2f38be15ad2268d9fa8aea9c006fe9a50ed04c8636122243dd2aadf3a", func := "handcart/handcartlaw14.TagsAdds", spec := "tagsAdds", unfollowed := true, recurses := true, plainKeys := false, apart := false, narrowed := true }
def TagsAddsUptoSaid : Prop := tagsAddsUptoRow.holds Try.pinned (OpenSpec.upto tagsAddsSpec)

/-- 'handcartlaw14.TagsWin', WHERE WHAT IT READS IS OF BULK AT MOST 1048576: true; the input reads as it did. -/
def tagsWinUptoRow : OpenClaim := { program := "ytffmanidnlbjjaa", sum := "6c284ff2f38be15ad2268d9fa8aea9c006fe9a50ed04c8636122243dd2aadf3a", func := "handcart/handcartlaw14.TagsWin", spec := "tagsWin", unfollowed := true, recurses := true, plainKeys := false, apart := false, narrowed := true }
def TagsWinUptoSaid : Prop := tagsWinUptoRow.holds Try.pinned (OpenSpec.upto tagsWinSpec)

/-- 'handcartlaw21.ChunkFewest', WHERE WHAT IT READS IS OF BULK AT MOST 1048576: true; the input reads as it did. -/
def chunkFewestUptoRow : OpenClaim := { program := "ytffmanidnlbjjaa", sum := "6c284ff2f38be15ad2268d9fa8aea9c006fe9a50ed04c8636122243dd2aadf3a", func := "handcart/handcartlaw21.ChunkFewest", spec := "chunkFewest", unfollowed := true, recurses := true, plainKeys := false, apart := false, narrowed := true }
def ChunkFewestUptoSaid : Prop := chunkFewestUptoRow.holds Try.pinned (OpenSpec.upto chunkFewestSpec)

/-- 'handcartlaw13.DotsAdds', WHERE WHAT IT READS IS OF BULK AT MOST 1048576: true; the input reads as it did. -/
def dotsAddsUptoRow : OpenClaim := { program := "ytffmanidnlbjjaa", sum := "6c284ff2f38be15ad2268d9fa8aea9c006fe9a50ed04c8636122243dd2aadf3a", func := "handcart/handcartlaw13.DotsAdds", spec := "dotsAdds", unfollowed := true, recurses := true, plainKeys := false, apart := false, narrowed := true }
def DotsAddsUptoSaid : Prop := dotsAddsUptoRow.holds Try.pinned (OpenSpec.upto dotsAddsSpec)

/-- 'handcartlaw13.DotsAlone', WHERE WHAT IT READS IS OF BULK AT MOST 1048576: true; the input reads as it did. -/
def dotsAloneUptoRow : OpenClaim := { program := "ytffmanidnlbjjaa", sum := "6c284ff2f38be15ad2268d9fa8aea9c006fe9a50ed04c8636122243dd2aadf3a", func := "handcart/handcartlaw13.DotsAlone", spec := "dotsAlone", unfollowed := true, recurses := true, plainKeys := false, apart := false, narrowed := true }
def DotsAloneUptoSaid : Prop := dotsAloneUptoRow.holds Try.pinned (OpenSpec.upto dotsAloneSpec)

/-- 'handcartlaw13.DotsJoins', WHERE WHAT IT READS IS OF BULK AT MOST 1048576: true; the input reads as it did. -/
def dotsJoinsUptoRow : OpenClaim := { program := "ytffmanidnlbjjaa", sum := "6c284ff2f38be15ad2268d9fa8aea9c006fe9a50ed04c8636122243dd2aadf3a", func := "handcart/handcartlaw13.DotsJoins", spec := "dotsJoins", unfollowed := true, recurses := true, plainKeys := false, apart := false, narrowed := true }
def DotsJoinsUptoSaid : Prop := dotsJoinsUptoRow.holds Try.pinned (OpenSpec.upto dotsJoinsSpec)

end Rows
end Go.Proofs.Ytffmanidnlbjjaa
