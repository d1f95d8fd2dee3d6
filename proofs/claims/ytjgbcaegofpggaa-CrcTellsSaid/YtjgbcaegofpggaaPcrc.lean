/-
  Plain words on sums of 16 bits. No program here.
-/
import Derived.Test.YtjgbcaegofpggaaVi
namespace Go.Proofs.Ytjgbcaegofpggaa

/-- one step of the register -/
def cst (r : Nat) : Nat := if 32768 ≤ r then (2 * r % 65536) ^^^ 4129 else 2 * r % 65536
def cstN : Nat → Nat → Nat
  | 0, r => r
  | n + 1, r => cst (cstN n r)
def crcB (r c : Nat) : Nat := cstN 8 (r ^^^ (c * 256))
def crcM (r : Nat) (l : List Int) : Nat := l.foldl (fun r c => crcB r c.toNat) r
theorem cst_lt (r : Nat) : cst r < 65536 := by
  unfold cst
  split
  · exact Nat.xor_lt_two_pow (n := 16) (by omega) (by omega)
  · omega
theorem cstN_lt {r : Nat} (h : r < 65536) : ∀ n, cstN n r < 65536
  | 0 => h
  | _ + 1 => cst_lt _
theorem crcB_lt (r c : Nat) : crcB r c < 65536 := by
  show cst (cstN 7 (r ^^^ (c * 256))) < 65536
  exact cst_lt _
theorem crcM_cons (r : Nat) (c : Int) (l : List Int) : crcM r (c :: l) = crcM (crcB r c.toNat) l := by simp only [crcM, List.foldl_cons]
theorem crcM_lt : ∀ (l : List Int) {r : Nat}, r < 65536 → crcM r l < 65536
  | [], _, h => h
  | c :: l, r, _ => by rw [crcM_cons]; exact crcM_lt l (crcB_lt r c.toNat)
theorem crcM_app (r : Nat) (a b : List Int) : crcM r (a ++ b) = crcM (crcM r a) b := by simp [crcM]

theorem crcM_snoc {r : Nat} {l : List Int} {k : Nat} (h : k < l.length) : crcM r (l.take (k + 1)) = crcB (crcM r (l.take k)) (bt l k) := by
  rw [take_succ_getD h, crcM_app, crcM_cons]
  simp only [crcM, List.foldl_nil, bt]
theorem xor_mod2 (a b : Nat) : (a ^^^ b) % 2 = (a % 2 + b % 2) % 2 := by
  have h := Nat.testBit_xor a b 0
  simp only [Nat.testBit_zero] at h
  rcases Nat.mod_two_eq_zero_or_one a with ha | ha <;> rcases Nat.mod_two_eq_zero_or_one b with hb | hb <;> rcases Nat.mod_two_eq_zero_or_one (a ^^^ b) with hx | hx <;> simp [ha, hb, hx] at h ⊢
theorem xor_divp (a b i : Nat) : (a ^^^ b) / 2 ^ i = (a / 2 ^ i) ^^^ (b / 2 ^ i) := by
  simp only [← Nat.shiftRight_eq_div_pow]; exact Nat.shiftRight_xor_distrib
theorem xor_modp (a b i : Nat) : (a ^^^ b) % 2 ^ i = (a % 2 ^ i) ^^^ (b % 2 ^ i) := Nat.xor_mod_two_pow
theorem xor_mulp (a b i : Nat) : (a ^^^ b) * 2 ^ i = (a * 2 ^ i) ^^^ (b * 2 ^ i) := by
  simp only [← Nat.shiftLeft_eq]; exact Nat.shiftLeft_xor_distrib
theorem top_xor {a b : Nat} (ha : a < 65536) (hb : b < 65536) : (32768 ≤ a ^^^ b) ↔ ((32768 ≤ a) ↔ ¬ (32768 ≤ b)) := by
  have h1 : a ^^^ b < 65536 := Nat.xor_lt_two_pow (n := 16) (by omega) (by omega)
  have h2 := xor_divp a b 15
  have h3 := xor_mod2 (a / 2 ^ 15) (b / 2 ^ 15)
  rw [← h2] at h3
  omega
theorem dbl_xor (a b : Nat) : 2 * (a ^^^ b) % 65536 = (2 * a % 65536) ^^^ (2 * b % 65536) := by
  have h1 := xor_mulp a b 1
  have h2 := xor_modp (a * 2 ^ 1) (b * 2 ^ 1) 16
  rw [← h1] at h2
  simpa [Nat.mul_comm] using h2
/-- the step is linear -/
theorem cst_xor {a b : Nat} (ha : a < 65536) (hb : b < 65536) : cst (a ^^^ b) = cst a ^^^ cst b := by
  have ht := top_xor ha hb
  unfold cst
  rw [dbl_xor]
  by_cases h1 : 32768 ≤ a <;> by_cases h2 : 32768 ≤ b
  · rw [if_neg (by rw [ht]; simp [h1, h2]), if_pos h1, if_pos h2]
    rw [Nat.xor_assoc, Nat.xor_comm 4129, Nat.xor_assoc, Nat.xor_self, Nat.xor_zero]
  · rw [if_pos (by rw [ht]; simp [h1, h2]), if_pos h1, if_neg h2]
    rw [Nat.xor_assoc, Nat.xor_comm _ 4129, Nat.xor_assoc]
  · rw [if_pos (by rw [ht]; simp [h1, h2]), if_neg h1, if_pos h2]
    rw [Nat.xor_assoc]
  · rw [if_neg (by rw [ht]; simp [h1, h2]), if_neg h1, if_neg h2]
theorem cstN_xor {a b : Nat} (ha : a < 65536) (hb : b < 65536) : ∀ n, cstN n (a ^^^ b) = cstN n a ^^^ cstN n b
  | 0 => rfl
  | n + 1 => by simp only [cstN]; rw [cstN_xor ha hb n, cst_xor (cstN_lt ha n) (cstN_lt hb n)]
theorem cstN_low {v : Nat} (hv : v < 256) : ∀ n, n ≤ 8 → cstN n v = v * 2 ^ n
  | 0, _ => by simp [cstN]
  | n + 1, h => by
    have ih := cstN_low hv n (by omega)
    have hp : 2 ^ n ≤ 2 ^ 7 := Nat.pow_le_pow_right (by omega) (by omega)
    have hm : v * 2 ^ n ≤ 255 * 2 ^ 7 := Nat.mul_le_mul (by omega) hp
    simp only [cstN, ih, cst]
    rw [if_neg (by omega), Nat.mod_eq_of_lt (by omega), Nat.pow_succ]
    rw [Nat.mul_comm 2, Nat.mul_assoc]
theorem split_at (r i : Nat) : r = (r / 2 ^ i * 2 ^ i) ^^^ (r % 2 ^ i) := by
  apply Nat.eq_of_testBit_eq
  intro j
  rw [Nat.testBit_xor, Nat.testBit_mul_two_pow, Nat.testBit_mod_two_pow, Nat.testBit_div_two_pow]
  by_cases h : i ≤ j
  · simp [h, Nat.not_lt.2 h, Nat.sub_add_cancel h]
  · simp [h, Nat.lt_of_not_le h]
theorem split_xor (r : Nat) : r = (r / 256 * 256) ^^^ (r % 256) := split_at r 8
/-- a byte at once, by the table -/
theorem tab_step {r c : Nat} (hr : r < 65536) (hc : c < 256) : (r * 256 % 65536) ^^^ cstN 8 (((r / 256) ^^^ c) * 256) = crcB r c := by
  have h1 : r ^^^ (c * 256) = (((r / 256) ^^^ c) * 256) ^^^ (r % 256) := by
    have := xor_mulp (r / 256) c 8
    simp only [Nat.reducePow] at this
    rw [this]
    conv => lhs; rw [split_xor r]
    rw [Nat.xor_assoc, Nat.xor_comm (r % 256), ← Nat.xor_assoc]
  have hx : (r / 256) ^^^ c < 256 := Nat.xor_lt_two_pow (n := 8) (by omega) (by omega)
  unfold crcB
  rw [h1, cstN_xor (by omega) (by omega), cstN_low (show r % 256 < 256 by omega) 8 (by omega), Nat.xor_comm]
  congr 1
  omega
/-- a bit at once -/
def bst (r b : Nat) : Nat := if r / 32768 ≠ b then (2 * r % 65536) ^^^ 4129 else 2 * r % 65536
def bitsN (r c : Nat) : Nat → Nat
  | 0 => r
  | k + 1 => bst (bitsN r c k) (c / 2 ^ (7 - k) % 2)
theorem bst_lt (r b : Nat) : bst r b < 65536 := by
  unfold bst
  split
  · exact Nat.xor_lt_two_pow (n := 16) (by omega) (by omega)
  · omega
theorem bitsN_lt {r c : Nat} (h : r < 65536) : ∀ n, bitsN r c n < 65536
  | 0 => h
  | _ + 1 => bst_lt _ _
theorem bst_cst {r b : Nat} (hr : r < 65536) (hb : b < 2) : bst r b = cst (r ^^^ (b * 32768)) := by
  have ht := top_xor hr (show b * 32768 < 65536 by omega)
  unfold bst cst
  rw [dbl_xor]
  have h0 : 2 * (b * 32768) % 65536 = 0 := by omega
  rw [h0, Nat.xor_zero]
  by_cases h : r / 32768 ≠ b
  · rw [if_pos h, if_pos (by rw [ht]; omega)]
  · rw [if_neg h, if_neg (by rw [ht]; omega)]
theorem byte_split {d : Nat} (_h : d < 256) : d * 256 = (d / 128 * 32768) ^^^ ((d % 128) * 256) := by
  have h1 := split_at (d * 256) 15
  have e1 : (2 : Nat) ^ 15 = 32768 := rfl
  rw [e1] at h1
  have e2 : d * 256 / 32768 = d / 128 := by omega
  have e3 : d * 256 % 32768 = (d % 128) * 256 := by omega
  rw [e2, e3] at h1
  exact h1
theorem byte_split1 {d : Nat} (h : d < 256) : d / 128 * 32768 < 2 ^ 16 := by omega
theorem byte_split2 (d : Nat) : d % 128 * 256 < 65536 := by omega
theorem byte_split3 (d : Nat) : cst (d % 128 * 256) = 2 * d % 256 * 256 := by
  unfold cst
  rw [if_neg (by omega)]
  omega
theorem bits_step {r c : Nat} (hr : r < 65536) (hc : c < 256) : ∀ n, n ≤ 8 → cstN n (r ^^^ (c * 256)) = bitsN r c n ^^^ ((c * 2 ^ n % 256) * 256)
  | 0, _ => by
    simp only [cstN, bitsN, Nat.pow_zero, Nat.mul_one]
    rw [Nat.mod_eq_of_lt hc]
  | n + 1, h => by
    have ih := bits_step hr hc n (by omega)
    simp only [cstN, bitsN]
    rw [ih]
    have hb := bitsN_lt (c := c) hr n
    -- the next bit, and the rest
    generalize hd : c * 2 ^ n % 256 = d at *
    have hbit : c / 2 ^ (7 - n) % 2 = d / 128 := by
      subst hd
      have : n = 0 ∨ n = 1 ∨ n = 2 ∨ n = 3 ∨ n = 4 ∨ n = 5 ∨ n = 6 ∨ n = 7 := by omega
      rcases this with rfl | rfl | rfl | rfl | rfl | rfl | rfl | rfl <;> simp only [Nat.reducePow, Nat.reduceSub] <;> omega
    have hdl : d < 256 := by omega
    have hnext : c * 2 ^ (n + 1) % 256 = 2 * d % 256 := by
      rw [← hd, Nat.pow_succ, ← Nat.mul_assoc]; omega
    rw [hbit, hnext, bst_cst hb (by omega)]
    rw [byte_split hdl, ← Nat.xor_assoc, cst_xor (Nat.xor_lt_two_pow hb (byte_split1 hdl)) (byte_split2 d), byte_split3]
theorem bitsN_8 {r c : Nat} (hr : r < 65536) (hc : c < 256) : bitsN r c 8 = crcB r c := by
  have := bits_step hr hc 8 (by omega)
  rw [show c * 2 ^ 8 % 256 * 256 = 0 by omega, Nat.xor_zero] at this
  exact this.symm
/-- exclusive or, bit by bit -/
theorem lay_step (a b i : Nat) : (a ^^^ b) % 2 ^ (i + 1) = (a ^^^ b) % 2 ^ i + (if a / 2 ^ i % 2 ≠ b / 2 ^ i % 2 then 2 ^ i else 0) := by
  rw [Nat.pow_succ, Nat.mod_mul]
  congr 1
  rw [xor_divp, xor_mod2]
  by_cases h : a / 2 ^ i % 2 ≠ b / 2 ^ i % 2
  · rw [if_pos h, show (a / 2 ^ i % 2 + b / 2 ^ i % 2) % 2 = 1 by omega, Nat.mul_one]
  · rw [if_neg h, show (a / 2 ^ i % 2 + b / 2 ^ i % 2) % 2 = 0 by omega, Nat.mul_zero]
end Go.Proofs.Ytjgbcaegofpggaa
