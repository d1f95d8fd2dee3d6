/-
  The plain words of names: texts of at most eight bytes, zeros behind. No program here.
-/
import Derived.Test.YtpjpaipkkcengaaVk
namespace Go.Proofs.Ytpjpaipkkcengaa
/-- how many bytes stand ahead of the first zero -/
def nsz : List Int → Nat
  | [] => 0
  | b :: l => if b = 0 then 0 else nsz l + 1
theorem nsz_le : ∀ (l : List Int), nsz l ≤ l.length
  | [] => Nat.le_refl _
  | b :: l => by unfold nsz; have := nsz_le l; split <;> simp; omega
theorem nsz_of : ∀ {l : List Int} {k : Nat}, k ≤ l.length → (∀ j, j < k → l.getD j 0 ≠ 0) → (k = l.length ∨ l.getD k 0 = 0) → nsz l = k
  | [], k, hk, _, _ => by simp at hk; subst hk; rfl
  | b :: l, 0, _, _, he => by
    rcases he with he | he
    · simp at he
    · simp at he; simp [nsz, he]
  | b :: l, k + 1, hk, hn, he => by
    have h0 : b ≠ 0 := by simpa using hn 0 (by omega)
    rw [nsz, if_neg h0, nsz_of (by simpa using hk) (fun j hj => by simpa using hn (j + 1) (by omega)) (by simpa using he)]
theorem nsz_ne : ∀ {l : List Int} {j : Nat}, j < nsz l → l.getD j 0 ≠ 0
  | [], j, h => by simp [nsz] at h
  | b :: l, 0, h => by
    unfold nsz at h
    split at h
    · omega
    · simpa using ‹¬b = 0›
  | b :: l, j + 1, h => by
    unfold nsz at h
    split at h
    · omega
    · simpa using nsz_ne (l := l) (j := j) (by omega)
theorem nsz_zero : ∀ {l : List Int}, nsz l < l.length → l.getD (nsz l) 0 = 0
  | [], h => by simp at h
  | b :: l, h => by
    unfold nsz at h ⊢
    split
    · simp_all
    · rename_i hb
      rw [if_neg hb] at h
      simpa using nsz_zero (l := l) (by simpa using h)
def nmTxt (l : List Int) : List Int := l.take (nsz l)
theorem nmTxt_len (l : List Int) : (nmTxt l).length = nsz l := by simp [nmTxt, nsz_le]
def isLet (b : Int) : Bool := decide (97 ≤ b ∧ b ≤ 122)
def isOth (b : Int) : Bool := decide ((97 ≤ b ∧ b ≤ 122) ∨ (48 ≤ b ∧ b ≤ 57) ∨ b = 45)
def isZer (b : Int) : Bool := decide (b = 0)
def nright (l : List Int) : Bool := isLet (l.getD 0 0) && (l.take (nsz l)).all isOth && (l.drop (nsz l)).all isZer
def isN (ns : List Int) : Bool := decide (1 ≤ ns.length ∧ ns.length ≤ 8) && isLet (ns.getD 0 0) && ns.all isOth
def padN (ns : List Int) : List Int := ns.take 8 ++ List.replicate (8 - ns.length) 0
theorem padN_len (ns : List Int) : (padN ns).length = 8 := by simp [padN]; omega
theorem all_zer : ∀ {l : List Int}, l.all isZer = true ↔ l = List.replicate l.length 0
  | [] => by simp
  | b :: l => by
    have := all_zer (l := l)
    simp only [List.all_cons, Bool.and_eq_true, isZer, decide_eq_true_eq, List.length_cons, List.replicate_succ, List.cons.injEq] at this ⊢
    rw [← this]
theorem nright_eq {l : List Int} (h : l.length = 8) : nright l = (isN (nmTxt l) && decide (padN (nmTxt l) = l)) := by
  have hs := nsz_le l
  have hl := nmTxt_len l
  have hp : padN (nmTxt l) = l ↔ (l.drop (nsz l)).all isZer = true := by
    rw [all_zer, padN, hl, List.take_of_length_le (by omega), nmTxt]
    conv => lhs; rhs; rw [← List.take_append_drop (nsz l) l]
    rw [List.append_cancel_left_eq, List.length_drop, h]
    exact eq_comm
  unfold nright isN
  by_cases h0 : nsz l = 0
  · have e0 : l.getD 0 0 = 0 := by have := nsz_zero (l := l) (by omega); rwa [h0] at this
    rw [hl, h0, e0]; simp [isLet]
  · have e0 : (nmTxt l).getD 0 0 = l.getD 0 0 := by
      simp only [nmTxt, List.getD_eq_getElem?_getD]
      rw [List.getElem?_take_of_lt (by omega)]
    rw [e0, hl, show decide (1 ≤ nsz l ∧ nsz l ≤ 8) = true by simp; omega, Bool.true_and]
    congr 1
    rw [Bool.eq_iff_iff, decide_eq_true_eq, hp]
def numN (l : List Int) : Nat := l.foldl (fun x b => 256 * x + b.toNat) 0
theorem numN_snoc (l : List Int) (b : Int) : numN (l ++ [b]) = 256 * numN l + b.toNat := by simp [numN]
theorem numN_take {l : List Int} {k : Nat} (h : k < l.length) : numN (l.take (k + 1)) = 256 * numN (l.take k) + bt l k := by
  rw [take_succ_getD h, numN_snoc]; rfl
theorem numN_lt {l : List Int} (h : Byt l) : ∀ k, numN (l.take k) < 256 ^ k
  | 0 => by simp [numN]
  | k + 1 => by
    have ih := numN_lt h k
    have hb := (h.bt k).2
    by_cases hk : k < l.length
    · rw [numN_take hk, Nat.pow_succ]; omega
    · rw [List.take_of_length_le (by omega)] at ih ⊢
      rw [Nat.pow_succ]; omega
theorem num_shl {x k : Nat} (hx : x < 256 ^ k) (hk : k < 8) : x * 256 % 18446744073709551616 = 256 * x := by
  have : 256 ^ k ≤ 256 ^ 7 := Nat.pow_le_pow_right (by omega) (by omega)
  have e : (256 : Nat) ^ 7 = 72057594037927936 := by decide
  omega
theorem num_sum {x k b : Nat} (hx : x < 256 ^ k) (hb : b < 256) (hk : k < 8) : 256 * x + b < 18446744073709551616 := by
  have : 256 ^ k ≤ 256 ^ 7 := Nat.pow_le_pow_right (by omega) (by omega)
  have e : (256 : Nat) ^ 7 = 72057594037927936 := by decide
  omega
theorem all_not {p : Int → Bool} {l : List Int} {k : Nat} (h : p (l.getD k 0) = false) (hk : k < l.length) : l.all p = false := by
  rw [List.all_eq_false]
  refine ⟨l.getD k 0, ?_, by rw [h]; decide⟩
  rw [List.getD_eq_getElem?_getD, List.getElem?_eq_getElem hk]
  exact List.getElem_mem hk
theorem numN_64 {l : List Int} (h : Byt l) (hl : l.length = 8) : numN l < 18446744073709551616 := by
  have := numN_lt h 8
  rwa [← hl, List.take_length, hl] at this
def nmOf (x : Nat) : List Int := (List.range 8).map fun i => ((x / 256 ^ (7 - i) % 256 : Nat) : Int)
theorem nmOf_len (x : Nat) : (nmOf x).length = 8 := by simp [nmOf]
theorem nmOf_byt (x : Nat) : Byt (nmOf x) := by
  intro y hy
  simp only [nmOf, List.mem_map, List.mem_range] at hy
  obtain ⟨i, _, rfl⟩ := hy
  omega
def nm0 : List Int := List.replicate 8 0
def nmFrom (x : Nat) : List Int := if nright (nmOf x) then nmOf x else nm0
def nmFromE (x : Nat) : Int := if nright (nmOf x) then 0 else 3
/-- so many of the last bytes, zeros ahead -/
def nmUp (x k : Nat) : List Int := List.replicate (8 - k) 0 ++ (nmOf x).drop (8 - k)
theorem nmUp_len {x k : Nat} (h : k ≤ 8) : (nmUp x k).length = 8 := by simp [nmUp, nmOf_len]
theorem nmUp_zero (x : Nat) : nmUp x 0 = nm0 := by simp [nmUp, nm0, nmOf]
theorem nmUp_all (x : Nat) : nmUp x 8 = nmOf x := by simp [nmUp]
theorem nmUp_set {x k : Nat} (h : k < 8) : (nmUp x k).set (7 - k) ((x / 256 ^ k % 256 : Nat) : Int) = nmUp x (k + 1) := by
  unfold nmUp
  rw [List.set_append_left _ _ (by first | (simp; done) | (simp; omega)), show 8 - k = (8 - (k + 1)) + 1 by omega, List.replicate_succ', List.set_append_right _ _ (by first | (simp; done) | (simp; omega)), show 7 - k - (List.replicate (8 - (k + 1)) (0 : Int)).length = 0 by first | (simp; done) | (simp; omega), List.set_cons_zero, List.append_assoc]
  congr 1
  rw [List.drop_eq_getElem_cons (i := 8 - (k + 1)) (by rw [nmOf_len]; omega)]
  simp only [nmOf, List.getElem_map, List.getElem_range, List.cons_append, List.nil_append]
  rw [show 7 - (8 - (k + 1)) = k by omega]
def padT (ns : List Int) (k : Nat) : List Int := ns.take k ++ List.replicate (8 - k) 0
theorem padT_len {ns : List Int} {k : Nat} (h : k ≤ ns.length) (h8 : k ≤ 8) : (padT ns k).length = 8 := by simp [padT]; omega
theorem padT_zero (ns : List Int) : padT ns 0 = nm0 := by simp [padT, nm0]
theorem padT_set {ns : List Int} {k : Nat} (h : k < ns.length) (h8 : k < 8) : (padT ns k).set k (ns.getD k 0) = padT ns (k + 1) := by
  unfold padT
  rw [List.set_append_right _ _ (by simp; omega), show k - (ns.take k).length = 0 by simp; omega, show 8 - k = (8 - (k + 1)) + 1 by omega, List.replicate_succ, List.set_cons_zero, take_succ_getD h, List.append_assoc]
  rfl
theorem padT_all {ns : List Int} {k : Nat} (h : k ≤ ns.length) (h8 : k ≤ 8) (he : k = ns.length ∨ k = 8) : padT ns k = padN ns := by
  unfold padT padN
  rcases he with rfl | rfl
  · rw [List.take_length, List.take_of_length_le (by omega)]
  · rw [show 8 - 8 = 8 - ns.length by omega]
theorem nmTxt_of {l : List Int} {k : Nat} (hk : k ≤ l.length) (h : ∀ j, j < k → l.getD j 0 ≠ 0) (he : k = l.length ∨ l.getD k 0 = 0) : l.take k = nmTxt l := by rw [nmTxt, nsz_of hk h he]
theorem nmTxt_byt {l : List Int} (h : Byt l) : Byt (nmTxt l) := h.take _
theorem padN_byt {l : List Int} (h : Byt l) : Byt (padN l) := by
  refine Byt.app (h.take _) ?_
  intro y hy; simp at hy; omega
theorem nm0_byt : Byt nm0 := by intro y hy; simp [nm0] at hy; omega
theorem nmFrom_len (x : Nat) : (nmFrom x).length = 8 := by unfold nmFrom; split; exact nmOf_len x; simp [nm0]
theorem nmFrom_byt (x : Nat) : Byt (nmFrom x) := by unfold nmFrom; split; exact nmOf_byt x; exact nm0_byt
end Go.Proofs.Ytpjpaipkkcengaa
