/-
  Plain words: a burst of turned bits is told by the sum. No program here.
-/
import Derived.Test.YtjgbcaegofpggaaPcrc
namespace Go.Proofs.Ytjgbcaegofpggaa

theorem cst_zero : cst 0 = 0 := by simp [cst]
theorem cstN_zero : ∀ n, cstN n 0 = 0
  | 0 => rfl
  | n + 1 => by simp only [cstN]; rw [cstN_zero n, cst_zero]
theorem cstN_add (a : Nat) (x : Nat) : ∀ b, cstN (a + b) x = cstN b (cstN a x)
  | 0 => rfl
  | b + 1 => by
    show cst (cstN (a + b) x) = cst (cstN b (cstN a x))
    rw [cstN_add a x b]
theorem cst_inj0 {z : Nat} (hz : z < 65536) (h : cst z = 0) : z = 0 := by
  unfold cst at h
  split at h
  · have h1 : 2 * z % 65536 = 4129 := by
      have h2 : (2 * z % 65536 ^^^ 4129) ^^^ 4129 = 0 ^^^ 4129 := by rw [h]
      rw [Nat.xor_assoc, Nat.xor_self, Nat.xor_zero, Nat.zero_xor] at h2
      exact h2
    omega
  · omega
theorem cstN_inj0 {z : Nat} (hz : z < 65536) : ∀ n, cstN n z = 0 → z = 0
  | 0, h => h
  | n + 1, h => cstN_inj0 hz n (cst_inj0 (cstN_lt hz n) h)
theorem crcB_lin {r s c d : Nat} (hr : r < 65536) (hs : s < 65536) (hc : c < 256) (hd : d < 256) : crcB (r ^^^ s) (c ^^^ d) = crcB r c ^^^ crcB s d := by
  unfold crcB
  have h1 : (c ^^^ d) * 256 = (c * 256) ^^^ (d * 256) := by
    have := xor_mulp c d 8
    simpa only [Nat.reducePow] using this
  rw [h1]
  have e : (r ^^^ s) ^^^ ((c * 256) ^^^ (d * 256)) = (r ^^^ (c * 256)) ^^^ (s ^^^ (d * 256)) := by
    rw [Nat.xor_assoc, Nat.xor_assoc, ← Nat.xor_assoc s, Nat.xor_comm s (c * 256), Nat.xor_assoc]
  rw [e]
  exact cstN_xor (Nat.xor_lt_two_pow (n := 16) hr (by omega)) (Nat.xor_lt_two_pow (n := 16) hs (by omega)) 8
theorem crcB_state {r x c : Nat} (hr : r < 65536) (hx : x < 65536) (hc : c < 256) : crcB (r ^^^ x) c = crcB r c ^^^ cstN 8 x := by
  have h := crcB_lin (d := 0) hr hx hc (by omega)
  rw [Nat.xor_zero] at h
  have e : crcB x 0 = cstN 8 x := by unfold crcB; rw [Nat.zero_mul, Nat.xor_zero]
  rw [h, e]
theorem crcM_state : ∀ (l : List Int) {r x : Nat}, r < 65536 → x < 65536 → Byt l → crcM (r ^^^ x) l = crcM r l ^^^ cstN (8 * l.length) x
  | [], r, x, _, _, _ => by simp only [crcM, List.foldl_nil, List.length_nil, Nat.mul_zero, cstN]
  | c :: l, r, x, hr, hx, hb => by
    have hc : c.toNat < 256 := by have := hb c (by simp); omega
    rw [crcM_cons, crcM_cons, crcB_state hr hx hc, crcM_state l (crcB_lt _ _) (cstN_lt hx 8) (fun y hy => hb y (by simp [hy])), ← cstN_add]
    rw [List.length_cons, show 8 * (l.length + 1) = 8 + 8 * l.length by omega]
/-- the sum of what is sealed -/
theorem seal_zero {s : Nat} (hs : s < 65536) : crcM s [((s / 256 : Nat) : Int), ((s % 256 : Nat) : Int)] = 0 := by
  rw [crcM_cons, crcM_cons]
  simp only [Int.toNat_natCast, crcM, List.foldl_nil]
  rw [← tab_step hs (show s / 256 < 256 by omega), Nat.xor_self, Nat.zero_mul, cstN_zero, Nat.xor_zero]
  rw [← tab_step (show s * 256 % 65536 < 65536 by omega) (show s % 256 < 256 by omega)]
  rw [show s * 256 % 65536 / 256 = s % 256 by omega, Nat.xor_self, Nat.zero_mul, cstN_zero, Nat.xor_zero]
  omega
theorem two_zero {s x y : Nat} (hs : s < 65536) (hx : x < 256) (hy : y < 256) : crcM s [(x : Int), (y : Int)] = 0 ↔ s = x * 256 + y := by
  constructor
  · intro h
    have hz := seal_zero (s := x * 256 + y) (by omega)
    rw [show (x * 256 + y) / 256 = x by omega, show (x * 256 + y) % 256 = y by omega] at hz
    have hb : Byt [(x : Int), (y : Int)] := by intro z hz; simp at hz; rcases hz with rfl | rfl <;> omega
    have h1 := crcM_state [(x : Int), (y : Int)] (r := x * 256 + y) (x := (x * 256 + y) ^^^ s) (by omega) (Nat.xor_lt_two_pow (n := 16) (by omega) hs) hb
    rw [← Nat.xor_assoc, Nat.xor_self, Nat.zero_xor, h, hz, Nat.zero_xor] at h1
    have h2 := cstN_inj0 (Nat.xor_lt_two_pow (n := 16) (show x * 256 + y < 2 ^ 16 by omega) hs) _ h1.symm
    have h3 : (x * 256 + y) ^^^ ((x * 256 + y) ^^^ s) = (x * 256 + y) ^^^ 0 := by rw [h2]
    rw [← Nat.xor_assoc, Nat.xor_self, Nat.zero_xor, Nat.xor_zero] at h3
    exact h3
  · rintro rfl
    have hz := seal_zero (s := x * 256 + y) (by omega)
    rwa [show (x * 256 + y) / 256 = x by omega, show (x * 256 + y) % 256 = y by omega] at hz
/-- one bit turned -/
theorem cstN_pow : ∀ (b : Nat), b ≤ 15 → cstN b (2 ^ (15 - b)) = 32768
  | 0, _ => rfl
  | b + 1, h => by
    have h1 := cstN_pow b (by omega)
    rw [show b + 1 = 1 + b by omega, cstN_add]
    have h2 : cstN 1 (2 ^ (15 - (1 + b))) = 2 ^ (15 - b) := by
      have hp : 2 ^ (15 - b) = 2 * 2 ^ (15 - (1 + b)) := by rw [show 15 - b = (15 - (1 + b)) + 1 by omega, Nat.pow_succ, Nat.mul_comm]
      have hl : 2 ^ (15 - (1 + b)) ≤ 2 ^ 14 := Nat.pow_le_pow_right (by omega) (by omega)
      show cst (cstN 0 _) = _
      simp only [cstN]
      unfold cst
      rw [if_neg (by omega), Nat.mod_eq_of_lt (by omega), hp]
    rw [h2, h1]
theorem crcM_turn : ∀ (l : List Int) (j b r : Nat), j < l.length → b < 8 → r < 65536 → Byt l →
    crcM r (l.set j ((((l.getD j 0).toNat ^^^ 2 ^ (7 - b) : Nat) : Int))) = crcM r l ^^^ cstN (8 * (l.length - j) - b) 32768
  | [], j, _, _, h, _, _, _ => by simp at h
  | c :: l, 0, b, r, _, hb, hr, hw => by
    have hc : c.toNat < 256 := by have := hw c (by simp); omega
    have ht : 2 ^ (7 - b) < 256 := by
      have : 2 ^ (7 - b) ≤ 2 ^ 7 := Nat.pow_le_pow_right (by omega) (by omega)
      omega
    rw [List.set_cons_zero, crcM_cons, crcM_cons]
    simp only [List.getD_cons_zero, Int.toNat_natCast]
    have h1 := crcB_lin (r := r) (s := 0) hr (by omega) hc ht
    rw [Nat.xor_zero] at h1
    have h2 : crcB 0 (2 ^ (7 - b)) = cstN (8 - b) 32768 := by
      unfold crcB
      rw [Nat.zero_xor, show (256 : Nat) = 2 ^ 8 from rfl, ← Nat.pow_add, show 7 - b + 8 = 15 - b by omega]
      conv => lhs; rw [show (8 : Nat) = b + (8 - b) by omega]
      rw [cstN_add, cstN_pow b (by omega)]
    rw [h1, h2, crcM_state l (crcB_lt _ _) (cstN_lt (by omega) _) (fun y hy => hw y (by simp [hy])), ← cstN_add]
    rw [List.length_cons, show 8 - b + 8 * l.length = 8 * (l.length + 1 - 0) - b by omega]
  | c :: l, j + 1, b, r, h, hb, _, hw => by
    rw [List.set_cons_succ, crcM_cons, crcM_cons, List.getD_cons_succ, crcM_turn l j b (crcB r c.toNat) (by simpa using h) hb (crcB_lt _ _) (fun y hy => hw y (by simp [hy]))]
    rw [List.length_cons, show l.length + 1 - (j + 1) = l.length - j by omega]
/-- the burst as a word -/
def wk (turn : Nat) : Nat → Nat
  | 0 => 0
  | k + 1 => wk turn k ^^^ (if turn / 2 ^ k % 2 = 1 then 2 ^ (15 - k) else 0)
theorem wk_lt (turn : Nat) : ∀ k, wk turn k < 65536
  | 0 => by simp [wk]
  | k + 1 => by
    refine Nat.xor_lt_two_pow (n := 16) (wk_lt turn k) ?_
    split
    · exact Nat.lt_of_le_of_lt (Nat.pow_le_pow_right (by omega) (show 15 - k ≤ 15 by omega)) (by omega)
    · omega
theorem wk_bit (turn : Nat) : ∀ k, k ≤ 16 → ∀ i, i < 16 → (wk turn k).testBit (15 - i) = (decide (i < k) && decide (turn / 2 ^ i % 2 = 1))
  | 0, _, i, _ => by simp [wk]
  | k + 1, hk, i, hi => by
    simp only [wk, Nat.testBit_xor, wk_bit turn k (by omega) i hi]
    by_cases h : turn / 2 ^ k % 2 = 1
    · rw [if_pos h, Nat.testBit_two_pow]
      by_cases hik : i = k
      · subst hik; simp [h]
      · have e1 : ¬ (15 - k = 15 - i) := by omega
        have e2 : (i < k + 1) = (i < k) := by simp; omega
        simp [e1, e2]
    · rw [if_neg h, Nat.zero_testBit]
      by_cases hik : i = k
      · subst hik; simp [h]
      · have e2 : (i < k + 1) = (i < k) := by simp; omega
        simp [e2]
theorem wk_ne {turn : Nat} (ht : turn < 65536) (h : turn ≠ 0) : wk turn 16 ≠ 0 := by
  intro h0
  apply h
  apply Nat.eq_of_testBit_eq
  intro i
  rw [Nat.zero_testBit]
  rcases Nat.lt_or_ge i 16 with hi | hi
  · have := wk_bit turn 16 (by omega) i hi
    rw [h0, Nat.zero_testBit] at this
    rw [Nat.testBit_eq_decide_div_mod_eq]
    simpa [hi] using this.symm
  · exact Nat.testBit_lt_two_pow (Nat.lt_of_lt_of_le ht (Nat.pow_le_pow_right (n := 2) (by omega) hi))
end Go.Proofs.Ytjgbcaegofpggaa
