/- The facts on the types and functions that the walks lean on, printed by a program of this seat. -/
import Derived.Test.YtjgbcaegofpggaaRows
import Derived.Test.YtjgbcaegofpggaaVw
set_option maxRecDepth 100000
namespace Go.Proofs.Ytjgbcaegofpggaa
open Go.RowKit
theorem ti3 : TI Try.prog 3 1 8 (.int .i64 0) := TI.of (by kernel_rfl)
theorem ti5 : TI Try.prog 5 1 1 (.int .u8 0) := TI.of (by kernel_rfl)
theorem ti22 : TI Try.prog 22 1 4 (.int .u32 0) := TI.of (by kernel_rfl)
theorem ti23 : TI Try.prog 23 16 64 (.agg #[.int .u32 0, .int .u32 0, .int .u32 0, .int .u32 0, .int .u32 0, .int .u32 0, .int .u32 0, .int .u32 0, .int .u32 0, .int .u32 0, .int .u32 0, .int .u32 0, .int .u32 0, .int .u32 0, .int .u32 0, .int .u32 0]) := TI.of (by kernel_rfl)
theorem ti24 : TI Try.prog 24 16 64 (.agg #[.int .u32 0, .int .u32 0, .int .u32 0, .int .u32 0, .int .u32 0, .int .u32 0, .int .u32 0, .int .u32 0, .int .u32 0, .int .u32 0, .int .u32 0, .int .u32 0, .int .u32 0, .int .u32 0, .int .u32 0, .int .u32 0]) := TI.of (by kernel_rfl)
theorem ti42 : TI Try.prog 42 1 24 (.slice none 0 0) := TI.of (by kernel_rfl)
theorem ti43 : TI Try.prog 43 1 2 (.int .u16 0) := TI.of (by kernel_rfl)
theorem ti53 : TI Try.prog 53 1 8 (.int .u64 0) := TI.of (by kernel_rfl)
theorem ti70 : TI Try.prog 70 8 8 (.agg #[.int .u8 0, .int .u8 0, .int .u8 0, .int .u8 0, .int .u8 0, .int .u8 0, .int .u8 0, .int .u8 0]) := TI.of (by kernel_rfl)
theorem ti89 : TI Try.prog 89 12 20 (.agg #[.int .u8 0, .int .u16 0, .int .u8 0, .int .u8 0, .int .u8 0, .int .u8 0, .int .u8 0, .int .u8 0, .int .u8 0, .int .u8 0, .int .u8 0, .int .u32 0]) := TI.of (by kernel_rfl)
theorem ti93 : TI Try.prog 93 3 24 (.agg #[.int .u64 0, .int .u64 0, .int .u64 0]) := TI.of (by kernel_rfl)
theorem ti112 : TI Try.prog 112 9 16 (.agg #[.int .u64 0, .int .u8 0, .int .u8 0, .int .u8 0, .int .u8 0, .int .u8 0, .int .u8 0, .int .u8 0, .int .u8 0]) := TI.of (by kernel_rfl)
theorem ti114 : TI Try.prog 114 21 40 (.agg #[.int .u8 0, .int .u16 0, .int .u8 0, .int .u8 0, .int .u8 0, .int .u8 0, .int .u8 0, .int .u8 0, .int .u8 0, .int .u8 0, .int .u8 0, .int .u32 0, .int .u64 0, .int .u8 0, .int .u8 0, .int .u8 0, .int .u8 0, .int .u8 0, .int .u8 0, .int .u8 0, .int .u8 0]) := TI.of (by kernel_rfl)
theorem ti166 : TI Try.prog 166 256 512 (.agg (ic .u16 (List.replicate 256 0))) := TI.of (by kernel_rfl)
theorem ti179 : TI Try.prog 179 1 24 (.agg #[.slice none 0 0]) := TI.of (by kernel_rfl)
theorem ti207 : TI Try.prog 207 1 8 (.nilFunc) := TI.of (by kernel_rfl)
theorem ti208 : TI Try.prog 208 5 40 (.agg #[.nilFunc, .nilFunc, .nilFunc, .nilFunc, .nilFunc]) := TI.of (by kernel_rfl)
theorem en29 : Enters Try.prog 29 := enters_of Try.func29 (by kernel_rfl) rfl
theorem en30 : Enters Try.prog 30 := enters_of Try.func30 (by kernel_rfl) rfl
theorem en31 : Enters Try.prog 31 := enters_of Try.func31 (by kernel_rfl) rfl
theorem en32 : Enters Try.prog 32 := enters_of Try.func32 (by kernel_rfl) rfl
theorem en33 : Enters Try.prog 33 := enters_of Try.func33 (by kernel_rfl) rfl
theorem en34 : Enters Try.prog 34 := enters_of Try.func34 (by kernel_rfl) rfl
theorem en35 : Enters Try.prog 35 := enters_of Try.func35 (by kernel_rfl) rfl
theorem en36 : Enters Try.prog 36 := enters_of Try.func36 (by kernel_rfl) rfl
theorem en37 : Enters Try.prog 37 := enters_of Try.func37 (by kernel_rfl) rfl
theorem en43 : Enters Try.prog 43 := enters_of Try.func43 (by kernel_rfl) rfl
theorem en44 : Enters Try.prog 44 := enters_of Try.func44 (by kernel_rfl) rfl
theorem en45 : Enters Try.prog 45 := enters_of Try.func45 (by kernel_rfl) rfl
theorem en46 : Enters Try.prog 46 := enters_of Try.func46 (by kernel_rfl) rfl
theorem en47 : Enters Try.prog 47 := enters_of Try.func47 (by kernel_rfl) rfl
theorem en48 : Enters Try.prog 48 := enters_of Try.func48 (by kernel_rfl) rfl
theorem en49 : Enters Try.prog 49 := enters_of Try.func49 (by kernel_rfl) rfl
theorem en50 : Enters Try.prog 50 := enters_of Try.func50 (by kernel_rfl) rfl
theorem en51 : Enters Try.prog 51 := enters_of Try.func51 (by kernel_rfl) rfl
theorem en52 : Enters Try.prog 52 := enters_of Try.func52 (by kernel_rfl) rfl
theorem en53 : Enters Try.prog 53 := enters_of Try.func53 (by kernel_rfl) rfl
theorem en54 : Enters Try.prog 54 := enters_of Try.func54 (by kernel_rfl) rfl
theorem en55 : Enters Try.prog 55 := enters_of Try.func55 (by kernel_rfl) rfl
theorem en56 : Enters Try.prog 56 := enters_of Try.func56 (by kernel_rfl) rfl
theorem en57 : Enters Try.prog 57 := enters_of Try.func57 (by kernel_rfl) rfl
theorem en58 : Enters Try.prog 58 := enters_of Try.func58 (by kernel_rfl) rfl
theorem en59 : Enters Try.prog 59 := enters_of Try.func59 (by kernel_rfl) rfl
theorem en60 : Enters Try.prog 60 := enters_of Try.func60 (by kernel_rfl) rfl
theorem en61 : Enters Try.prog 61 := enters_of Try.func61 (by kernel_rfl) rfl
theorem en62 : Enters Try.prog 62 := enters_of Try.func62 (by kernel_rfl) rfl
theorem en63 : Enters Try.prog 63 := enters_of Try.func63 (by kernel_rfl) rfl
theorem en66 : Enters Try.prog 66 := enters_of Try.func66 (by kernel_rfl) rfl
theorem en68 : Enters Try.prog 68 := enters_of Try.func68 (by kernel_rfl) rfl
theorem en78 : Enters Try.prog 78 := enters_of Try.func78 (by kernel_rfl) rfl
theorem en80 : Enters Try.prog 80 := enters_of Try.func80 (by kernel_rfl) rfl
theorem en81 : Enters Try.prog 81 := enters_of Try.func81 (by kernel_rfl) rfl
theorem en82 : Enters Try.prog 82 := enters_of Try.func82 (by kernel_rfl) rfl
theorem en83 : Enters Try.prog 83 := enters_of Try.func83 (by kernel_rfl) rfl
theorem en84 : Enters Try.prog 84 := enters_of Try.func84 (by kernel_rfl) rfl
theorem en85 : Enters Try.prog 85 := enters_of Try.func85 (by kernel_rfl) rfl
theorem en86 : Enters Try.prog 86 := enters_of Try.func86 (by kernel_rfl) rfl
theorem en87 : Enters Try.prog 87 := enters_of Try.func87 (by kernel_rfl) rfl
theorem en88 : Enters Try.prog 88 := enters_of Try.func88 (by kernel_rfl) rfl
theorem en89 : Enters Try.prog 89 := enters_of Try.func89 (by kernel_rfl) rfl
theorem en90 : Enters Try.prog 90 := enters_of Try.func90 (by kernel_rfl) rfl
theorem en91 : Enters Try.prog 91 := enters_of Try.func91 (by kernel_rfl) rfl
theorem en95 : Enters Try.prog 95 := enters_of Try.func95 (by kernel_rfl) rfl
theorem en96 : Enters Try.prog 96 := enters_of Try.func96 (by kernel_rfl) rfl
theorem en97 : Enters Try.prog 97 := enters_of Try.func97 (by kernel_rfl) rfl
theorem en98 : Enters Try.prog 98 := enters_of Try.func98 (by kernel_rfl) rfl
theorem en99 : Enters Try.prog 99 := enters_of Try.func99 (by kernel_rfl) rfl
theorem en100 : Enters Try.prog 100 := enters_of Try.func100 (by kernel_rfl) rfl
theorem en101 : Enters Try.prog 101 := enters_of Try.func101 (by kernel_rfl) rfl
theorem en102 : Enters Try.prog 102 := enters_of Try.func102 (by kernel_rfl) rfl
theorem en103 : Enters Try.prog 103 := enters_of Try.func103 (by kernel_rfl) rfl
theorem en104 : Enters Try.prog 104 := enters_of Try.func104 (by kernel_rfl) rfl
theorem en105 : Enters Try.prog 105 := enters_of Try.func105 (by kernel_rfl) rfl
theorem en106 : Enters Try.prog 106 := enters_of Try.func106 (by kernel_rfl) rfl
theorem en141 : Enters Try.prog 141 := enters_of Try.func141 (by kernel_rfl) rfl
theorem en142 : Enters Try.prog 142 := enters_of Try.func142 (by kernel_rfl) rfl
theorem en143 : Enters Try.prog 143 := enters_of Try.func143 (by kernel_rfl) rfl
theorem en145 : Enters Try.prog 145 := enters_of Try.func145 (by kernel_rfl) rfl
theorem en146 : Enters Try.prog 146 := enters_of Try.func146 (by kernel_rfl) rfl
theorem en147 : Enters Try.prog 147 := enters_of Try.func147 (by kernel_rfl) rfl
theorem en148 : Enters Try.prog 148 := enters_of Try.func148 (by kernel_rfl) rfl
theorem en149 : Enters Try.prog 149 := enters_of Try.func149 (by kernel_rfl) rfl
theorem en150 : Enters Try.prog 150 := enters_of Try.func150 (by kernel_rfl) rfl
theorem en151 : Enters Try.prog 151 := enters_of Try.func151 (by kernel_rfl) rfl
theorem en152 : Enters Try.prog 152 := enters_of Try.func152 (by kernel_rfl) rfl
theorem en153 : Enters Try.prog 153 := enters_of Try.func153 (by kernel_rfl) rfl
theorem en154 : Enters Try.prog 154 := enters_of Try.func154 (by kernel_rfl) rfl
theorem en155 : Enters Try.prog 155 := enters_of Try.func155 (by kernel_rfl) rfl
theorem en156 : Enters Try.prog 156 := enters_of Try.func156 (by kernel_rfl) rfl
theorem en157 : Enters Try.prog 157 := enters_of Try.func157 (by kernel_rfl) rfl
theorem en158 : Enters Try.prog 158 := enters_of Try.func158 (by kernel_rfl) rfl
theorem en166 : Enters Try.prog 166 := enters_of Try.func166 (by kernel_rfl) rfl
theorem en167 : Enters Try.prog 167 := enters_of Try.func167 (by kernel_rfl) rfl
theorem en168 : Enters Try.prog 168 := enters_of Try.func168 (by kernel_rfl) rfl
theorem en170 : Enters Try.prog 170 := enters_of Try.func170 (by kernel_rfl) rfl
theorem en171 : Enters Try.prog 171 := enters_of Try.func171 (by kernel_rfl) rfl
theorem en172 : Enters Try.prog 172 := enters_of Try.func172 (by kernel_rfl) rfl
theorem en173 : Enters Try.prog 173 := enters_of Try.func173 (by kernel_rfl) rfl
theorem en174 : Enters Try.prog 174 := enters_of Try.func174 (by kernel_rfl) rfl
theorem en175 : Enters Try.prog 175 := enters_of Try.func175 (by kernel_rfl) rfl
theorem en179 : Enters Try.prog 179 := enters_of Try.func179 (by kernel_rfl) rfl
theorem en185 : Enters Try.prog 185 := enters_of Try.func185 (by kernel_rfl) rfl
theorem en186 : Enters Try.prog 186 := enters_of Try.func186 (by kernel_rfl) rfl
theorem en209 : Enters Try.prog 209 := enters_of Try.func209 (by kernel_rfl) rfl
theorem en210 : Enters Try.prog 210 := enters_of Try.func210 (by kernel_rfl) rfl
theorem en211 : Enters Try.prog 211 := enters_of Try.func211 (by kernel_rfl) rfl
theorem en212 : Enters Try.prog 212 := enters_of Try.func212 (by kernel_rfl) rfl
theorem en223 : Enters Try.prog 223 := enters_of Try.func223 (by kernel_rfl) rfl
theorem en224 : Enters Try.prog 224 := enters_of Try.func224 (by kernel_rfl) rfl
theorem en226 : Enters Try.prog 226 := enters_of Try.func226 (by kernel_rfl) rfl
theorem en227 : Enters Try.prog 227 := enters_of Try.func227 (by kernel_rfl) rfl
theorem en228 : Enters Try.prog 228 := enters_of Try.func228 (by kernel_rfl) rfl
theorem en229 : Enters Try.prog 229 := enters_of Try.func229 (by kernel_rfl) rfl
theorem en230 : Enters Try.prog 230 := enters_of Try.func230 (by kernel_rfl) rfl
theorem en231 : Enters Try.prog 231 := enters_of Try.func231 (by kernel_rfl) rfl
theorem en232 : Enters Try.prog 232 := enters_of Try.func232 (by kernel_rfl) rfl
theorem en233 : Enters Try.prog 233 := enters_of Try.func233 (by kernel_rfl) rfl
theorem en234 : Enters Try.prog 234 := enters_of Try.func234 (by kernel_rfl) rfl
theorem en236 : Enters Try.prog 236 := enters_of Try.func236 (by kernel_rfl) rfl
theorem en237 : Enters Try.prog 237 := enters_of Try.func237 (by kernel_rfl) rfl
theorem en238 : Enters Try.prog 238 := enters_of Try.func238 (by kernel_rfl) rfl
theorem en256 : Enters Try.prog 256 := enters_of Try.func256 (by kernel_rfl) rfl
theorem eqv23 : EqV Try.prog 2 23 (List.replicate 16 .u32) := eq_arr Try.underlying23 ti22 rfl (eq_int Try.underlying22)
theorem eg23 : Try.prog.eqGuardType Try.prog.depth 23 = false := by kernel_rfl
theorem eqv24 : EqV Try.prog 2 24 (List.replicate 16 .u32) := eq_arr Try.underlying24 ti22 rfl (eq_int Try.underlying22)
theorem eg24 : Try.prog.eqGuardType Try.prog.depth 24 = false := by kernel_rfl
theorem eqv70 : EqV Try.prog 2 70 (List.replicate 8 .u8) := eq_arr Try.underlying70 ti5 rfl (eq_int Try.underlying5)
theorem eg70 : Try.prog.eqGuardType Try.prog.depth 70 = false := by kernel_rfl
theorem eqv89 : EqV Try.prog 3 89 [.u8, .u16, .u8, .u8, .u8, .u8, .u8, .u8, .u8, .u8, .u8, .u32] := (show EqV Try.prog 3 89 ([IntKind.u8] ++ ([IntKind.u16] ++ ((List.replicate 8 IntKind.u8) ++ ([IntKind.u8] ++ ([IntKind.u32] ++ []))))) from eq_struct Try.underlying89 (by kernel_rfl) (.cons rfl (by decide) (eq_int Try.underlying5) (by decide) (.cons rfl (by decide) (eq_int Try.underlying43) (by decide) (.cons rfl (by decide) (eq_part eqv70 Try.underlying70 rfl ti70 rfl) (by decide) (.cons rfl (by decide) (eq_int Try.underlying5) (by decide) (.cons rfl (by decide) (eq_int Try.underlying22) (by decide) (.nil)))))))
theorem eg89 : Try.prog.eqGuardType Try.prog.depth 89 = false := by kernel_rfl
theorem eqv93 : EqV Try.prog 2 93 (List.replicate 3 .u64) := eq_arr Try.underlying93 ti53 rfl (eq_int Try.underlying53)
theorem eg93 : Try.prog.eqGuardType Try.prog.depth 93 = false := by kernel_rfl
theorem eqv112 : EqV Try.prog 3 112 [.u64, .u8, .u8, .u8, .u8, .u8, .u8, .u8, .u8] := (show EqV Try.prog 3 112 ([IntKind.u64] ++ ((List.replicate 8 IntKind.u8) ++ [])) from eq_struct Try.underlying112 (by kernel_rfl) (.cons rfl (by decide) (eq_int Try.underlying53) (by decide) (.cons rfl (by decide) (eq_part eqv70 Try.underlying70 rfl ti70 rfl) (by decide) (.nil))))
theorem eg112 : Try.prog.eqGuardType Try.prog.depth 112 = false := by kernel_rfl
theorem bp89 : Places Try.prog (Try.prog.fieldsOf 89) #[(0, 1), (1, 1), (2, 8), (10, 1), (11, 1)] := fun w => by kernel_rfl
theorem bp112 : Places Try.prog (Try.prog.fieldsOf 112) #[(0, 1), (1, 8)] := fun w => by kernel_rfl
theorem bp114 : Places Try.prog (Try.prog.fieldsOf 114) #[(0, 12), (12, 9)] := fun w => by kernel_rfl
theorem bp179 : Places Try.prog (Try.prog.fieldsOf 179) #[(0, 1)] := fun w => by kernel_rfl
end Go.Proofs.Ytjgbcaegofpggaa
