/- What the types of the arguments hold, printed by a program of this seat. -/
import Derived.Test.YtjgbcaegofpggaaTa
import Derived.Test.YtjgbcaegofpggaaVo
namespace Go.Proofs.Ytjgbcaegofpggaa
open Go.ChangeShapes Go.WideShapes Go.ChangeAt Go.RowKit
theorem own0 : ownKnob Try.prog.godebug = none := by kernel_rfl
theorem laidOut0 : laidOutB Try.prog = true := by kernel_rfl
theorem fl22 : Flat Try.prog 22 [.int .u32] := flat_int Try.underlying22
theorem fl23 : Flat Try.prog 23 (List.replicate 16 [.int .u32]).flatten := flat_arr Try.underlying23 fl22 rfl (by kernel_rfl) (by kernel_rfl)
end Go.Proofs.Ytjgbcaegofpggaa
