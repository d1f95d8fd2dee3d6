/- What the types of the arguments hold, printed by a program of this seat. -/
import Derived.Test.YtjgbcaegofpggaaTa
import Derived.Test.YtjgbcaegofpggaaVo
namespace Go.Proofs.Ytjgbcaegofpggaa
open Go.ChangeShapes Go.WideShapes Go.ChangeAt Go.RowKit
theorem own0 : ownKnob Try.prog.godebug = none := by kernel_rfl
theorem laidOut0 : laidOutB Try.prog = true := by kernel_rfl
theorem fl22 : Flat Try.prog 22 [LK.int .u32] := flat_int Try.underlying22
theorem fl23 : Flat Try.prog 23 (List.replicate 16 [LK.int .u32]).flatten := flat_arr Try.underlying23 fl22 rfl (by kernel_rfl) (by kernel_rfl)
theorem fl5 : Flat Try.prog 5 [LK.int .u8] := flat_int Try.underlying5
theorem fl43 : Flat Try.prog 43 [LK.int .u16] := flat_int Try.underlying43
theorem fl70 : Flat Try.prog 70 (List.replicate 8 [LK.int .u8]).flatten := flat_arr Try.underlying70 fl5 rfl (by kernel_rfl) (by kernel_rfl)
theorem fl89 : Flat Try.prog 89 ([LK.int .u8] ++ ([LK.int .u16] ++ ((List.replicate 8 [LK.int .u8]).flatten ++ ([LK.int .u8] ++ ([LK.int .u32] ++ ([])))))) := flat_struct Try.underlying89 (.cons rfl fl5 rfl (by kernel_rfl) (.cons rfl fl43 rfl (by kernel_rfl) (.cons rfl fl70 rfl (by kernel_rfl) (.cons rfl fl5 rfl (by kernel_rfl) (.cons rfl fl22 rfl (by kernel_rfl) (.nil)))))) (by kernel_rfl)
theorem fl53 : Flat Try.prog 53 [LK.int .u64] := flat_int Try.underlying53
theorem fl93 : Flat Try.prog 93 (List.replicate 3 [LK.int .u64]).flatten := flat_arr Try.underlying93 fl53 rfl (by kernel_rfl) (by kernel_rfl)
theorem fl112 : Flat Try.prog 112 ([LK.int .u64] ++ ((List.replicate 8 [LK.int .u8]).flatten ++ ([]))) := flat_struct Try.underlying112 (.cons rfl fl53 rfl (by kernel_rfl) (.cons rfl fl70 rfl (by kernel_rfl) (.nil))) (by kernel_rfl)
theorem fl114 : Flat Try.prog 114 (([LK.int .u8] ++ ([LK.int .u16] ++ ((List.replicate 8 [LK.int .u8]).flatten ++ ([LK.int .u8] ++ ([LK.int .u32] ++ ([])))))) ++ (([LK.int .u64] ++ ((List.replicate 8 [LK.int .u8]).flatten ++ ([]))) ++ ([]))) := flat_struct Try.underlying114 (.cons rfl fl89 rfl (by kernel_rfl) (.cons rfl fl112 rfl (by kernel_rfl) (.nil))) (by kernel_rfl)
theorem fl3 : Flat Try.prog 3 [LK.int .i64] := flat_int Try.underlying3
theorem fl42 : Flat Try.prog 42 [LK.sl 1 [LK.int .u8]] := flat_slice Try.underlying42 fl5 rfl (by kernel_rfl) (by decide)
theorem fl72 : Flat Try.prog 72 ([LK.int .i64] ++ ([LK.int .u64] ++ ([LK.int .u8] ++ ((List.replicate 8 [LK.int .u8]).flatten ++ ([LK.sl 1 [LK.int .u8]] ++ ([LK.int .i64] ++ ([]))))))) := flat_struct Try.underlying72 (.cons rfl fl3 rfl (by kernel_rfl) (.cons rfl fl53 rfl (by kernel_rfl) (.cons rfl fl5 rfl (by kernel_rfl) (.cons rfl fl70 rfl (by kernel_rfl) (.cons rfl fl42 rfl (by kernel_rfl) (.cons rfl fl3 rfl (by kernel_rfl) (.nil))))))) (by kernel_rfl)
end Go.Proofs.Ytjgbcaegofpggaa
