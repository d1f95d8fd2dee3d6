/-
  No cell of these rows narrows 'for every input' (looked for: loops, veiled, ifaces, maps, wideKeys, modest, calm, conditions, laid).
  DERIVED. THE GIVEN ROWS OF THIS SEAT. 4 by the template 'for every input the law returns true; each argument reads behind the call as it read before'; 0 by the template 'total and deterministic' (their statements: YtpekghaodmeemaaGreatTotals.lean).
  GIVEN WITH THE SEED: the statements are not yours to turn. If you find one false, say at which input.
  Laid BY PROGRAM, IN A SANDBOX (cutbox-rows.mjs): the forced cells as the released guide's own fill.sh prints them over the translation dc571a9e3f4f25bc… (all of the seat's roots in one cut). By AI agents, Wed Nov 11 2026. No macro, syntax, notation, axiom, sorry.
-/
import Derived.Test.YtpekghaodmeemaaGreatChecked
import GoSem.Claim
import GoSem.ClaimJoined
import GoSem.ClaimMapViews
import Derived.JoinedTies
import Derived.KernelRfl
namespace Go.Proofs.YtpekghaodmeemaaGreat
/- THE CELL 'sum', in the pinned program and in every row, IS THE sha256 OF THE DUMP (.gsa) THAT YtpekghaodmeemaaGreatProg.lean LOADS. Nothing in Lean hashes anything: it is a label: what it is worth is what the hold of that sum in a sandbox is worth. -/
noncomputable def Tryz.pinned : Pinned := { name := "ytpekghaodmeemaagreat", sum := "dc571a9e3f4f25bc477f7b02bb815583c5d2e8f5717debaac6c3fdb43f25424d", checked := Tryz.checked }
namespace Rows
def none {H : Type} : Left H := { results := [], args := [] }

/-- 'handcartlaw18.ShopRuns': WHATEVER THE INPUT: true; the input reads as it did. -/
def shopRunsSpec : ChangeSpec := { name := "shopRuns", fn := fun _ => fun
  | [d1, d2, d3] => { results := [.lit (.bool true)], args := [d1, d2, d3] }
  | _ => none }
def shopRunsRow : OpenClaim := { program := "ytpekghaodmeemaagreat", sum := "dc571a9e3f4f25bc477f7b02bb815583c5d2e8f5717debaac6c3fdb43f25424d", func := "handcart/handcartlaw18.ShopRuns", spec := "shopRuns", unfollowed := true, recurses := true, plainKeys := false, apart := false }
def ShopRunsSaid : Prop := shopRunsRow.holds Tryz.pinned (OpenSpec.ofChange shopRunsSpec)

/-- ITS FALSE NEIGHBOUR: 'it returns false'. Refute it at one input. -/
def shopRunsWrong : ChangeSpec := { name := "shopRuns", fn := fun _ => fun
  | [d1, d2, d3] => { results := [.lit (.bool false)], args := [d1, d2, d3] }
  | _ => none }
def ShopRunsWrongFalsely : Prop := shopRunsRow.holds Tryz.pinned (OpenSpec.ofChange shopRunsWrong)

/-- 'handcartlaw18.ShopRoom': WHATEVER THE INPUT: true; the input reads as it did. -/
def shopRoomSpec : ChangeSpec := { name := "shopRoom", fn := fun _ => fun
  | [d1, d2, d3] => { results := [.lit (.bool true)], args := [d1, d2, d3] }
  | _ => none }
def shopRoomRow : OpenClaim := { program := "ytpekghaodmeemaagreat", sum := "dc571a9e3f4f25bc477f7b02bb815583c5d2e8f5717debaac6c3fdb43f25424d", func := "handcart/handcartlaw18.ShopRoom", spec := "shopRoom", unfollowed := true, recurses := true, plainKeys := false, apart := false }
def ShopRoomSaid : Prop := shopRoomRow.holds Tryz.pinned (OpenSpec.ofChange shopRoomSpec)

/-- ITS FALSE NEIGHBOUR: 'it returns false'. Refute it at one input. -/
def shopRoomWrong : ChangeSpec := { name := "shopRoom", fn := fun _ => fun
  | [d1, d2, d3] => { results := [.lit (.bool false)], args := [d1, d2, d3] }
  | _ => none }
def ShopRoomWrongFalsely : Prop := shopRoomRow.holds Tryz.pinned (OpenSpec.ofChange shopRoomWrong)

/-- 'handcartlaw18.ShopDoes': WHATEVER THE INPUT: true; the input reads as it did. -/
def shopDoesSpec : ChangeSpec := { name := "shopDoes", fn := fun _ => fun
  | [d1, d2] => { results := [.lit (.bool true)], args := [d1, d2] }
  | _ => none }
def shopDoesRow : OpenClaim := { program := "ytpekghaodmeemaagreat", sum := "dc571a9e3f4f25bc477f7b02bb815583c5d2e8f5717debaac6c3fdb43f25424d", func := "handcart/handcartlaw18.ShopDoes", spec := "shopDoes", unfollowed := true, recurses := true, plainKeys := false, apart := false }
def ShopDoesSaid : Prop := shopDoesRow.holds Tryz.pinned (OpenSpec.ofChange shopDoesSpec)

/-- ITS FALSE NEIGHBOUR: 'it returns false'. Refute it at one input. -/
def shopDoesWrong : ChangeSpec := { name := "shopDoes", fn := fun _ => fun
  | [d1, d2] => { results := [.lit (.bool false)], args := [d1, d2] }
  | _ => none }
def ShopDoesWrongFalsely : Prop := shopDoesRow.holds Tryz.pinned (OpenSpec.ofChange shopDoesWrong)

/-- 'handcartlaw18.ShopReads': WHATEVER THE INPUT: true; the input reads as it did. -/
def shopReadsSpec : ChangeSpec := { name := "shopReads", fn := fun _ => fun
  | [d1, d2] => { results := [.lit (.bool true)], args := [d1, d2] }
  | _ => none }
def shopReadsRow : OpenClaim := { program := "ytpekghaodmeemaagreat", sum := "dc571a9e3f4f25bc477f7b02bb815583c5d2e8f5717debaac6c3fdb43f25424d", func := "handcart/handcartlaw18.ShopReads", spec := "shopReads", unfollowed := true, recurses := true, plainKeys := false, apart := false }
def ShopReadsSaid : Prop := shopReadsRow.holds Tryz.pinned (OpenSpec.ofChange shopReadsSpec)

/-- ITS FALSE NEIGHBOUR: 'it returns false'. Refute it at one input. -/
def shopReadsWrong : ChangeSpec := { name := "shopReads", fn := fun _ => fun
  | [d1, d2] => { results := [.lit (.bool false)], args := [d1, d2] }
  | _ => none }
def ShopReadsWrongFalsely : Prop := shopReadsRow.holds Tryz.pinned (OpenSpec.ofChange shopReadsWrong)

/- THE SECOND FORM. 'bulk': how many values and letters a reading holds, each counted each time it is reached (what is shared counts as often as it is met; a slice's spare places count too). A statement '..UptoSaid' is the law's where the arguments, and the package variables that the reading takes, are together of bulk at most 1048576: NARROWER than '..Said'. Prove '..Said' where nothing that the law and all that it calls make is longer than what came in: it says more and counts as full. Else prove '..UptoSaid'. A law counts once. -/
mutual
def uptoBulk {H : Type} : DataW H → Nat
  | .lit (.string bytes) => bytes.length + 1
  | .lit _ => 1
  | .nil => 1
  | .ptr d => uptoBulk d + 1
  | .slice elems spare => uptoBulkAll elems + uptoBulkAll spare + 1
  | .agg parts => uptoBulkAll parts + 1
  | .iface _ d => uptoBulk d + 1
  | .map entries => uptoBulkEntries entries + 1
  | .held _ => 1
def uptoBulkAll {H : Type} : List (DataW H) → Nat
  | [] => 0
  | d :: r => uptoBulk d + uptoBulkAll r
def uptoBulkEntries {H : Type} : List (Lit × DataW H) → Nat
  | [] => 0
  | x :: r => uptoBulkEntry x + uptoBulkEntries r
def uptoBulkEntry {H : Type} : Lit × DataW H → Nat
  | (.string bytes, d) => bytes.length + uptoBulk d + 1
  | (_, d) => uptoBulk d + 1
 end
def uptoSmall : (H : Type) → List (DataW H) → Bool := fun _ ds => decide (uptoBulkAll ds ≤ 1048576)
def OpenSpec.upto (s : _root_.Go.ChangeSpec) : _root_.Go.OpenSpec := { _root_.Go.OpenSpec.ofChange s with cond := some uptoSmall }

/-- 'handcartlaw18.ShopRuns', WHERE WHAT IT READS IS OF BULK AT MOST 1048576: true; the input reads as it did. -/
def shopRunsUptoRow : OpenClaim := { program := "ytpekghaodmeemaagreat", sum := "dc571a9e3f4f25bc477f7b02bb815583c5d2e8f5717debaac6c3fdb43f25424d", func := "handcart/handcartlaw18.ShopRuns", spec := "shopRuns", unfollowed := true, recurses := true, plainKeys := false, apart := false, narrowed := true }
def ShopRunsUptoSaid : Prop := shopRunsUptoRow.holds Tryz.pinned (OpenSpec.upto shopRunsSpec)

/-- 'handcartlaw18.ShopRoom', WHERE WHAT IT READS IS OF BULK AT MOST 1048576: true; the input reads as it did. -/
def shopRoomUptoRow : OpenClaim := { program := "ytpekghaodmeemaagreat", sum := "dc571a9e3f4f25bc477f7b02bb815583c5d2e8f5717debaac6c3fdb43f25424d", func := "handcart/handcartlaw18.ShopRoom", spec := "shopRoom", unfollowed := true, recurses := true, plainKeys := false, apart := false, narrowed := true }
def ShopRoomUptoSaid : Prop := shopRoomUptoRow.holds Tryz.pinned (OpenSpec.upto shopRoomSpec)

/-- 'handcartlaw18.ShopDoes', WHERE WHAT IT READS IS OF BULK AT MOST 1048576: true; the input reads as it did. -/
def shopDoesUptoRow : OpenClaim := { program := "ytpekghaodmeemaagreat", sum := "dc571a9e3f4f25bc477f7b02bb815583c5d2e8f5717debaac6c3fdb43f25424d", func := "handcart/handcartlaw18.ShopDoes", spec := "shopDoes", unfollowed := true, recurses := true, plainKeys := false, apart := false, narrowed := true }
def ShopDoesUptoSaid : Prop := shopDoesUptoRow.holds Tryz.pinned (OpenSpec.upto shopDoesSpec)

/-- 'handcartlaw18.ShopReads', WHERE WHAT IT READS IS OF BULK AT MOST 1048576: true; the input reads as it did. -/
def shopReadsUptoRow : OpenClaim := { program := "ytpekghaodmeemaagreat", sum := "dc571a9e3f4f25bc477f7b02bb815583c5d2e8f5717debaac6c3fdb43f25424d", func := "handcart/handcartlaw18.ShopReads", spec := "shopReads", unfollowed := true, recurses := true, plainKeys := false, apart := false, narrowed := true }
def ShopReadsUptoSaid : Prop := shopReadsUptoRow.holds Tryz.pinned (OpenSpec.upto shopReadsSpec)

end Rows
end Go.Proofs.YtpekghaodmeemaaGreat
