/- Contracts of functions, printed by a program of this seat (wip/tools/gen.py) out of its specs. -/
import Derived.Test.YtpjpaipkkcengaaDj
set_option linter.unusedSimpArgs false
set_option linter.unusedVariables false
set_option maxHeartbeats 16000000
set_option maxRecDepth 100000
namespace Go.Proofs.Ytpjpaipkkcengaa
open Go.RowKit


theorem rdS_ok {d : Int} {x : Nat} {n e : Int} {xs : List Int} (h : ErrOk e xs) : ErrOk (rdS d x n e xs).2.1 (rdS d x n e xs).2.2 := by
  unfold rdS
  repeat' split
  · exact numS_ok h
  · exact oneS_ok h
  · exact namS_ok h
  · exact bytS_ok h
theorem rdS_byt' {d : Int} {x : Nat} {n e : Int} {xs : List Int} (h : Byt xs) : Byt (rdS d x n e xs).2.2 := by
  unfold rdS
  repeat' split
  · exact numS_byt h
  · exact oneS_byt h
  · exact namS_byt' h
  · exact bytS_byt' h
theorem rdS_len2 (d : Int) (x : Nat) (n e : Int) (xs : List Int) : (rdS d x n e xs).2.2.length ≤ xs.length ∧ (rdS d x n e xs).1.2.2.2.length ≤ xs.length := by
  unfold rdS
  repeat' split
  · exact ⟨numS_len _ _ _, Nat.zero_le _⟩
  · exact ⟨oneS_len _ _, Nat.zero_le _⟩
  · exact ⟨namS_len' _ _, Nat.zero_le _⟩
  · exact ⟨bytS_len' _ _ _, bytS_len _ _ _⟩
theorem done_same {e : Int} {xs : List Int} (h : ErrOk e xs) : (if e = 0 ∧ 0 < xs.length then (3 : Int) else e) = (if 0 < xs.length then 3 else e) := by
  by_cases he : e = 0
  · simp [he]
  · have := h he
    subst this
    simp

end Go.Proofs.Ytpjpaipkkcengaa
