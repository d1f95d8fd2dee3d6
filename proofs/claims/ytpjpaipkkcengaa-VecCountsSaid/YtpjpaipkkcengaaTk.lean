/- What the keys of maps are, printed by a program of this seat. -/
import Derived.Test.YtpjpaipkkcengaaTa
import Derived.Test.YtpjpaipkkcengaaVp
set_option maxRecDepth 100000
namespace Go.Proofs.Ytpjpaipkkcengaa
open Go.RowKit
theorem chv27 : ChV Try.prog 2 27 (List.replicate 16 IntKind.u32) := (show ChV Try.prog 2 27 (List.replicate 16 [IntKind.u32]).flatten from ch_arr Try.underlying27 ti25 rfl (ch_int Try.underlying25))
def kv27 (xs : List Int) : Value := .agg (ic .u32 xs)
theorem ky27 : KeyT Try.prog 27 kv27 (fun xs => xs.length = 16) := keyT_arr Try.underlying27 rfl chv27 eqv27 (by decide) (by decide)
end Go.Proofs.Ytpjpaipkkcengaa
