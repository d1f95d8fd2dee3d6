/- The facts on the types and functions that the walks lean on, printed by a program of this seat. -/
import Derived.Test.YtjgbcaegofpggaaRows
import Derived.Test.YtjgbcaegofpggaaVw
namespace Go.Proofs.Ytjgbcaegofpggaa
open Go.RowKit
theorem ti3 : TI Try.prog 3 1 8 (.int .i64 0) := TI.of (by kernel_rfl)
theorem ti5 : TI Try.prog 5 1 1 (.int .u8 0) := TI.of (by kernel_rfl)
theorem ti22 : TI Try.prog 22 1 4 (.int .u32 0) := TI.of (by kernel_rfl)
theorem ti23 : TI Try.prog 23 16 64 (.agg #[.int .u32 0, .int .u32 0, .int .u32 0, .int .u32 0, .int .u32 0, .int .u32 0, .int .u32 0, .int .u32 0, .int .u32 0, .int .u32 0, .int .u32 0, .int .u32 0, .int .u32 0, .int .u32 0, .int .u32 0, .int .u32 0]) := TI.of (by kernel_rfl)
theorem ti24 : TI Try.prog 24 16 64 (.agg #[.int .u32 0, .int .u32 0, .int .u32 0, .int .u32 0, .int .u32 0, .int .u32 0, .int .u32 0, .int .u32 0, .int .u32 0, .int .u32 0, .int .u32 0, .int .u32 0, .int .u32 0, .int .u32 0, .int .u32 0, .int .u32 0]) := TI.of (by kernel_rfl)
theorem ti43 : TI Try.prog 43 1 2 (.int .u16 0) := TI.of (by kernel_rfl)
theorem ti166 : TI Try.prog 166 256 512 (.agg (ic .u16 (List.replicate 256 0))) := TI.of (by kernel_rfl)
theorem en29 : Enters Try.prog 29 := enters_of Try.func29 (by kernel_rfl) rfl
theorem en30 : Enters Try.prog 30 := enters_of Try.func30 (by kernel_rfl) rfl
theorem en31 : Enters Try.prog 31 := enters_of Try.func31 (by kernel_rfl) rfl
theorem en32 : Enters Try.prog 32 := enters_of Try.func32 (by kernel_rfl) rfl
theorem en33 : Enters Try.prog 33 := enters_of Try.func33 (by kernel_rfl) rfl
theorem en34 : Enters Try.prog 34 := enters_of Try.func34 (by kernel_rfl) rfl
theorem en35 : Enters Try.prog 35 := enters_of Try.func35 (by kernel_rfl) rfl
theorem en36 : Enters Try.prog 36 := enters_of Try.func36 (by kernel_rfl) rfl
theorem en37 : Enters Try.prog 37 := enters_of Try.func37 (by kernel_rfl) rfl
theorem en43 : Enters Try.prog 43 := enters_of Try.func43 (by kernel_rfl) rfl
theorem en44 : Enters Try.prog 44 := enters_of Try.func44 (by kernel_rfl) rfl
theorem en45 : Enters Try.prog 45 := enters_of Try.func45 (by kernel_rfl) rfl
theorem en46 : Enters Try.prog 46 := enters_of Try.func46 (by kernel_rfl) rfl
theorem en47 : Enters Try.prog 47 := enters_of Try.func47 (by kernel_rfl) rfl
theorem en48 : Enters Try.prog 48 := enters_of Try.func48 (by kernel_rfl) rfl
theorem en49 : Enters Try.prog 49 := enters_of Try.func49 (by kernel_rfl) rfl
theorem en50 : Enters Try.prog 50 := enters_of Try.func50 (by kernel_rfl) rfl
theorem en51 : Enters Try.prog 51 := enters_of Try.func51 (by kernel_rfl) rfl
theorem en52 : Enters Try.prog 52 := enters_of Try.func52 (by kernel_rfl) rfl
theorem en53 : Enters Try.prog 53 := enters_of Try.func53 (by kernel_rfl) rfl
theorem en54 : Enters Try.prog 54 := enters_of Try.func54 (by kernel_rfl) rfl
theorem en55 : Enters Try.prog 55 := enters_of Try.func55 (by kernel_rfl) rfl
theorem en56 : Enters Try.prog 56 := enters_of Try.func56 (by kernel_rfl) rfl
theorem en57 : Enters Try.prog 57 := enters_of Try.func57 (by kernel_rfl) rfl
theorem en58 : Enters Try.prog 58 := enters_of Try.func58 (by kernel_rfl) rfl
theorem en59 : Enters Try.prog 59 := enters_of Try.func59 (by kernel_rfl) rfl
theorem en60 : Enters Try.prog 60 := enters_of Try.func60 (by kernel_rfl) rfl
theorem en61 : Enters Try.prog 61 := enters_of Try.func61 (by kernel_rfl) rfl
theorem en62 : Enters Try.prog 62 := enters_of Try.func62 (by kernel_rfl) rfl
theorem en63 : Enters Try.prog 63 := enters_of Try.func63 (by kernel_rfl) rfl
theorem en141 : Enters Try.prog 141 := enters_of Try.func141 (by kernel_rfl) rfl
theorem en142 : Enters Try.prog 142 := enters_of Try.func142 (by kernel_rfl) rfl
theorem en143 : Enters Try.prog 143 := enters_of Try.func143 (by kernel_rfl) rfl
theorem en145 : Enters Try.prog 145 := enters_of Try.func145 (by kernel_rfl) rfl
theorem en146 : Enters Try.prog 146 := enters_of Try.func146 (by kernel_rfl) rfl
theorem en147 : Enters Try.prog 147 := enters_of Try.func147 (by kernel_rfl) rfl
theorem en148 : Enters Try.prog 148 := enters_of Try.func148 (by kernel_rfl) rfl
theorem en149 : Enters Try.prog 149 := enters_of Try.func149 (by kernel_rfl) rfl
theorem en150 : Enters Try.prog 150 := enters_of Try.func150 (by kernel_rfl) rfl
theorem en151 : Enters Try.prog 151 := enters_of Try.func151 (by kernel_rfl) rfl
theorem en152 : Enters Try.prog 152 := enters_of Try.func152 (by kernel_rfl) rfl
theorem en153 : Enters Try.prog 153 := enters_of Try.func153 (by kernel_rfl) rfl
theorem en154 : Enters Try.prog 154 := enters_of Try.func154 (by kernel_rfl) rfl
theorem en155 : Enters Try.prog 155 := enters_of Try.func155 (by kernel_rfl) rfl
theorem en209 : Enters Try.prog 209 := enters_of Try.func209 (by kernel_rfl) rfl
theorem en210 : Enters Try.prog 210 := enters_of Try.func210 (by kernel_rfl) rfl
theorem eqv23 : EqV Try.prog 2 23 (List.replicate 16 .u32) := eq_arr Try.underlying23 ti22 rfl (eq_int Try.underlying22)
theorem eg23 : Try.prog.eqGuardType Try.prog.depth 23 = false := by kernel_rfl
theorem eqv24 : EqV Try.prog 2 24 (List.replicate 16 .u32) := eq_arr Try.underlying24 ti22 rfl (eq_int Try.underlying22)
theorem eg24 : Try.prog.eqGuardType Try.prog.depth 24 = false := by kernel_rfl
end Go.Proofs.Ytjgbcaegofpggaa
