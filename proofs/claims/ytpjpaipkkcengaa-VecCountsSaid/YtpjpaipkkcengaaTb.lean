/- What the types of the arguments hold, printed by a program of this seat. -/
import Derived.Test.YtpjpaipkkcengaaTa
import Derived.Test.YtpjpaipkkcengaaVo
namespace Go.Proofs.Ytpjpaipkkcengaa
open Go.ChangeShapes Go.WideShapes Go.ChangeAt Go.RowKit
theorem own0 : ownKnob Try.prog.godebug = none := by kernel_rfl
theorem laidOut0 : laidOutB Try.prog = true := by kernel_rfl
theorem fl5 : Flat Try.prog 5 [LK.int .u8] := flat_int Try.underlying5
theorem fl58 : Flat Try.prog 58 [LK.int .u16] := flat_int Try.underlying58
theorem fl42 : Flat Try.prog 42 (List.replicate 8 [LK.int .u8]).flatten := flat_arr Try.underlying42 fl5 rfl (by kernel_rfl) (by kernel_rfl)
theorem fl25 : Flat Try.prog 25 [LK.int .u32] := flat_int Try.underlying25
theorem fl60 : Flat Try.prog 60 ([LK.int .u8] ++ ([LK.int .u16] ++ ((List.replicate 8 [LK.int .u8]).flatten ++ ([LK.int .u8] ++ ([LK.int .u32] ++ ([])))))) := flat_struct Try.underlying60 (.cons rfl fl5 rfl (by kernel_rfl) (.cons rfl fl58 rfl (by kernel_rfl) (.cons rfl fl42 rfl (by kernel_rfl) (.cons rfl fl5 rfl (by kernel_rfl) (.cons rfl fl25 rfl (by kernel_rfl) (.nil)))))) (by kernel_rfl)
theorem fl3 : Flat Try.prog 3 [LK.int .i64] := flat_int Try.underlying3
theorem fl40 : Flat Try.prog 40 [LK.int .u64] := flat_int Try.underlying40
theorem fl43 : Flat Try.prog 43 [LK.sl 1 [LK.int .u8]] := flat_slice Try.underlying43 fl5 rfl (by kernel_rfl) (by decide)
theorem fl45 : Flat Try.prog 45 ([LK.int .i64] ++ ([LK.int .u64] ++ ([LK.int .u8] ++ ((List.replicate 8 [LK.int .u8]).flatten ++ ([LK.sl 1 [LK.int .u8]] ++ ([LK.int .i64] ++ ([]))))))) := flat_struct Try.underlying45 (.cons rfl fl3 rfl (by kernel_rfl) (.cons rfl fl40 rfl (by kernel_rfl) (.cons rfl fl5 rfl (by kernel_rfl) (.cons rfl fl42 rfl (by kernel_rfl) (.cons rfl fl43 rfl (by kernel_rfl) (.cons rfl fl3 rfl (by kernel_rfl) (.nil))))))) (by kernel_rfl)
theorem fl26 : Flat Try.prog 26 (List.replicate 16 [LK.int .u32]).flatten := flat_arr Try.underlying26 fl25 rfl (by kernel_rfl) (by kernel_rfl)
end Go.Proofs.Ytpjpaipkkcengaa
