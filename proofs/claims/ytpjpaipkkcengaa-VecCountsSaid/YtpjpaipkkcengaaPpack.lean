/-
  The plain words of numbers in bytes: so many bytes, groups of seven bits, and their way back. No program here.
-/
import Derived.Test.YtpjpaipkkcengaaVi
namespace Go.Proofs.Ytpjpaipkkcengaa
/-- so many bytes of a number, the least one first -/
def putL (x n : Nat) : List Int := (List.range n).map fun i => ((x / 256 ^ i % 256 : Nat) : Int)
def getN : List Int → Nat
  | [] => 0
  | b :: l => b.toNat + 256 * getN l
theorem putL_len (x n : Nat) : (putL x n).length = n := by simp [putL]
theorem putL_byt (x n : Nat) : Byt (putL x n) := by
  intro y hy
  simp only [putL, List.mem_map, List.mem_range] at hy
  obtain ⟨i, _, rfl⟩ := hy
  omega
theorem putL_succ (x n : Nat) : putL x (n + 1) = putL x n ++ [((x / 256 ^ n % 256 : Nat) : Int)] := by simp [putL, List.range_succ]
theorem getN_snoc : ∀ (l : List Int) (b : Int), getN (l ++ [b]) = getN l + 256 ^ l.length * b.toNat
  | [], b => by simp [getN]
  | a :: l, b => by
    simp only [List.cons_append, getN, getN_snoc l b, List.length_cons, Nat.pow_succ]
    rw [Nat.mul_add, ← Nat.mul_assoc, Nat.mul_comm 256 (256 ^ l.length), Nat.add_assoc]
theorem getN_lt : ∀ {l : List Int}, Byt l → getN l < 256 ^ l.length
  | [], _ => by simp [getN]
  | a :: l, h => by
    have h1 := h a (by simp)
    have h2 := getN_lt (l := l) fun x hx => h x (by simp [hx])
    simp only [getN, List.length_cons, Nat.pow_succ]
    omega
theorem getN_put (x : Nat) : ∀ n, getN (putL x n) = x % 256 ^ n
  | 0 => by simp [putL, getN, Nat.mod_one]
  | n + 1 => by
    rw [putL_succ, getN_snoc, getN_put x n, putL_len, Int.toNat_natCast, Nat.pow_succ, Nat.mod_mul]
theorem getN_take {l : List Int} {i : Nat} (h : i < l.length) : getN (l.take (i + 1)) = getN (l.take i) + 256 ^ i * bt l i := by
  rw [take_succ_getD h, getN_snoc]
  simp [bt, Nat.min_eq_left (Nat.le_of_lt h)]
theorem getN_drop {l : List Int} {i : Nat} (h : i < l.length) : getN (l.drop i) = bt l i + 256 * getN (l.drop (i + 1)) := by
  rw [List.drop_eq_getElem_cons h]
  simp [getN, bt, List.getD_eq_getElem?_getD, List.getElem?_eq_getElem h]
theorem or_add {a b n : Nat} (h : a < 2 ^ n) : a ||| 2 ^ n * b = a + 2 ^ n * b := by
  rw [Nat.or_comm, Nat.add_comm]; exact (Nat.two_pow_add_eq_or_of_lt h b).symm
theorem pow256 (i : Nat) : 256 ^ i = 2 ^ (8 * i) := by rw [Nat.pow_mul]
theorem pow128 (i : Nat) : 128 ^ i = 2 ^ (7 * i) := by rw [Nat.pow_mul]
def fillT (F : Nat → Int) (n k : Nat) : List Int := (List.range k).map F ++ List.replicate (n - k) 0
theorem fillT_len {F : Nat → Int} {n k : Nat} (h : k ≤ n) : (fillT F n k).length = n := by simp [fillT]; omega
theorem fillT_zero (F : Nat → Int) (n : Nat) : fillT F n 0 = List.replicate n 0 := by simp [fillT]
theorem fillT_all (F : Nat → Int) (n : Nat) : fillT F n n = (List.range n).map F := by simp [fillT]
theorem fillT_set {F : Nat → Int} {n k : Nat} (h : k < n) : (fillT F n k).set k (F k) = fillT F n (k + 1) := by
  unfold fillT
  rw [List.set_append_right _ _ (by simp), show k - ((List.range k).map F).length = 0 by simp, show n - k = (n - (k + 1)) + 1 by omega, List.replicate_succ, List.set_cons_zero, List.range_succ]
  simp
/-- a number in groups of seven bits -/
def vari (x : Nat) : List Int := if h : x < 128 then [(x : Int)] else ((128 + x % 128 : Nat) : Int) :: vari (x / 128)
termination_by x
decreasing_by omega
theorem vari_lt {x : Nat} (h : x < 128) : vari x = [(x : Int)] := by rw [vari]; simp [h]
theorem vari_ge {x : Nat} (h : ¬ x < 128) : vari x = ((128 + x % 128 : Nat) : Int) :: vari (x / 128) := by rw [vari]; simp [h]
theorem vari_byt (x : Nat) : Byt (vari x) := by
  induction x using Nat.strongRecOn with
  | ind x ih =>
    by_cases h : x < 128
    · rw [vari_lt h]; intro y hy; simp at hy; omega
    · rw [vari_ge h]
      intro y hy
      rcases List.mem_cons.1 hy with rfl | hy
      · omega
      · exact ih _ (by omega) y hy
theorem vari_pos (x : Nat) : 0 < (vari x).length := by
  by_cases h : x < 128
  · simp [vari_lt h]
  · simp [vari_ge h]
/-- how many groups: as many as hold the number -/
theorem vari_len_le {x k : Nat} (hk : 0 < k) (h : x < 128 ^ k) : (vari x).length ≤ k := by
  induction k generalizing x with
  | zero => omega
  | succ k ih =>
    by_cases hx : x < 128
    · simp [vari_lt hx]
    · rw [vari_ge hx]
      have hk0 : 0 < k := by
        rcases Nat.eq_zero_or_pos k with rfl | h0
        · simp at h; omega
        · exact h0
      have := ih (x := x / 128) hk0 (by rw [Nat.pow_succ] at h; omega)
      simp; omega
theorem vari_lt_pow (x : Nat) : x < 128 ^ (vari x).length := by
  induction x using Nat.strongRecOn with
  | ind x ih =>
    by_cases h : x < 128
    · simp [vari_lt h, h]
    · rw [vari_ge h, List.length_cons, Nat.pow_succ]
      have := ih (x / 128) (by omega)
      omega
theorem vari_len_iff {x k : Nat} (hk : 0 < k) : (vari x).length ≤ k ↔ x < 128 ^ k := by
  refine ⟨fun h => Nat.lt_of_lt_of_le (vari_lt_pow x) (Nat.pow_le_pow_right (by omega) h), vari_len_le hk⟩
theorem vari_len10 {x : Nat} (h : x < 18446744073709551616) : (vari x).length ≤ 10 := vari_len_le (by omega) (Nat.lt_of_lt_of_le h (by decide))
/-- each group -/
theorem vari_getD (x : Nat) : ∀ i, i < (vari x).length → (vari x).getD i 0 = ((x / 128 ^ i % 128 + (if i + 1 < (vari x).length then 128 else 0) : Nat) : Int) := by
  induction x using Nat.strongRecOn with
  | ind x ih =>
    intro i hi
    by_cases h : x < 128
    · simp only [vari_lt h, List.length_cons, List.length_nil] at hi ⊢
      obtain rfl : i = 0 := by omega
      simp; omega
    · simp only [vari_ge h, List.length_cons] at hi ⊢
      rcases i with _ | i
      · have := vari_pos (x / 128)
        simp [this]; omega
      · simp only [List.getD_cons_succ]
        rw [ih (x / 128) (by omega) i (by omega), Nat.pow_succ, Nat.mul_comm (128 ^ i) 128, ← Nat.div_div_eq_div_mul]
        simp only [Nat.add_lt_add_iff_right]
/-- what bytes begin with, read group by group -/
def unv (l : List Int) : Nat → Nat → Nat → Nat × Nat × Nat
  | 0, _, _ => (0, 0, 15)
  | k + 1, i, x =>
    if l.length ≤ i then (0, 0, 4) else
    if i = 9 ∧ 1 < bt l i then (0, 0, 15) else
    if bt l i = 0 ∧ 0 < i then (0, 0, 3) else
    if bt l i < 128 then (x + 128 ^ i * bt l i, i + 1, 0) else unv l k (i + 1) (x + 128 ^ i * (bt l i - 128))
def unvar (l : List Int) : Nat × Nat × Nat := unv l 10 0 0
section
variable {l : List Int} {k x : Nat} {r : Nat × Nat × Nat}
theorem unv_at (h : k < 10) : unv l (10 - k) k x = if l.length ≤ k then (0, 0, 4) else if k = 9 ∧ 1 < bt l k then (0, 0, 15) else if bt l k = 0 ∧ 0 < k then (0, 0, 3) else
    if bt l k < 128 then (x + 128 ^ k * bt l k, k + 1, 0) else unv l (10 - (k + 1)) (k + 1) (x + 128 ^ k * (bt l k - 128)) := by
  rw [show 10 - k = (10 - (k + 1)) + 1 by omega, unv]
variable (hU : unv l (10 - k) k x = r) (h : k < 10)
include hU h
theorem unv_short (h1 : l.length ≤ k) : r = (0, 0, 4) := by rw [← hU, unv_at h, if_pos h1]
theorem unv_big (h1 : ¬ l.length ≤ k) (h2 : k = 9 ∧ 1 < bt l k) : r = (0, 0, 15) := by rw [← hU, unv_at h, if_neg h1, if_pos h2]
theorem unv_form (h1 : ¬ l.length ≤ k) (h2 : ¬ (k = 9 ∧ 1 < bt l k)) (h3 : bt l k = 0 ∧ 0 < k) : r = (0, 0, 3) := by rw [← hU, unv_at h, if_neg h1, if_neg h2, if_pos h3]
theorem unv_done (h1 : ¬ l.length ≤ k) (h2 : ¬ (k = 9 ∧ 1 < bt l k)) (h3 : ¬ (bt l k = 0 ∧ 0 < k)) (h4 : bt l k < 128) : r = (x + 128 ^ k * bt l k, k + 1, 0) := by rw [← hU, unv_at h, if_neg h1, if_neg h2, if_neg h3, if_pos h4]
theorem unv_on (h1 : ¬ l.length ≤ k) (h2 : ¬ (k = 9 ∧ 1 < bt l k)) (h3 : ¬ (bt l k = 0 ∧ 0 < k)) (h4 : ¬ bt l k < 128) : unv l (10 - (k + 1)) (k + 1) (x + 128 ^ k * (bt l k - 128)) = r := by rw [← hU, unv_at h, if_neg h1, if_neg h2, if_neg h3, if_neg h4]
end
theorem unv_end {l : List Int} {x : Nat} {r : Nat × Nat × Nat} (hU : unv l (10 - 10) 10 x = r) : r = (0, 0, 15) := by rw [← hU]; rfl
theorem p128_le {k : Nat} (h : k ≤ 9) : 128 ^ k ≤ 9223372036854775808 := Nat.le_trans (Nat.pow_le_pow_right (by omega) h) (by decide)
/-- a group laid on top stays below the next power, or is the last one -/
theorem grp_lt {x k g : Nat} (hx : x < 128 ^ k) (hg : g < 128) : x + 128 ^ k * g < 128 ^ (k + 1) := by
  rw [Nat.pow_succ]
  have : 128 ^ k * g ≤ 128 ^ k * 127 := Nat.mul_le_mul_left _ (by omega)
  omega
theorem grp_64 {x k g : Nat} (hx : x < 128 ^ k) (hg : g < 128) (hk : k ≤ 9) (h9 : k = 9 → g ≤ 1) : x + 128 ^ k * g < 18446744073709551616 := by
  by_cases h : k = 9
  · subst h
    have : 128 ^ 9 * g ≤ 128 ^ 9 * 1 := Nat.mul_le_mul_left _ (h9 rfl)
    have e : (128 : Nat) ^ 9 = 9223372036854775808 := by decide
    rw [e] at hx this ⊢
    omega
  · have := grp_lt hx hg
    have := p128_le (show k + 1 ≤ 9 by omega)
    omega
theorem bt_cons0 (a : Int) (l : List Int) : bt (a :: l) 0 = a.toNat := rfl
theorem bt_cons1 (a : Int) (l : List Int) (j : Nat) : bt (a :: l) (j + 1) = bt l j := rfl
theorem unv_vari (y : Nat) : ∀ (i x : Nat) (l : List Int), (∀ j, j < (vari y).length → bt l (i + j) = bt (vari y) j) → i + (vari y).length ≤ l.length → i + (vari y).length ≤ 10 → (0 < i → 0 < y) → y * 128 ^ i < 18446744073709551616 →
    unv l (10 - i) i x = (x + 128 ^ i * y, i + (vari y).length, 0) := by
  induction y using Nat.strongRecOn with
  | ind y ih =>
    intro i x l hb hl h10 h0 hy
    have hvp := vari_pos y
    have hi : i < 10 := by omega
    rw [unv_at hi, if_neg (by omega)]
    by_cases h : y < 128
    · have e : bt l i = y := by
        have := hb 0 hvp
        rw [vari_lt h, bt_cons0] at this
        simpa using this
      rw [e, if_neg, if_neg (by omega), if_pos h, vari_lt h]
      · rfl
      · rintro ⟨h9, h1⟩
        subst h9
        have e9 : (128 : Nat) ^ 9 = 9223372036854775808 := by decide
        rw [e9] at hy
        omega
    · have hv := vari_ge h
      have e : bt l i = 128 + y % 128 := by
        have := hb 0 hvp
        rw [hv, bt_cons0, Nat.add_zero, Int.toNat_natCast] at this
        exact this
      have hl2 : (vari y).length = (vari (y / 128)).length + 1 := by rw [hv, List.length_cons]
      have hvp2 := vari_pos (y / 128)
      have hm : 128 ^ i * (y % 128) + 128 ^ (i + 1) * (y / 128) = 128 ^ i * y := by
        rw [Nat.pow_succ, Nat.mul_assoc, ← Nat.mul_add]
        congr 1; omega
      rw [e, if_neg (by omega), if_neg (by omega), if_neg (by omega), ih (y / 128) (by omega) (i + 1) _ l]
      · rw [show 128 + y % 128 - 128 = y % 128 by omega, Nat.add_assoc, hm, hl2]
        simp only [Prod.mk.injEq, true_and, and_true]; omega
      · intro j hj
        have := hb (j + 1) (by omega)
        rw [hv, bt_cons1] at this
        rw [← this]; congr 1; omega
      · omega
      · omega
      · intro _; omega
      · refine Nat.lt_of_le_of_lt ?_ hy
        rw [Nat.mul_comm, Nat.mul_comm y, ← hm]; omega
theorem unvar_app {x : Nat} (hx : x < 18446744073709551616) (l : List Int) : unvar (vari x ++ l) = (x, (vari x).length, 0) := by
  have h := unv_vari x 0 0 (vari x ++ l) (fun j hj => by rw [Nat.zero_add, bt, bt, List.getD_eq_getElem?_getD, List.getElem?_append_left hj, ← List.getD_eq_getElem?_getD]) (by simp) (by have := vari_len10 hx; omega) (by omega) (by simpa using hx)
  rw [unvar, show 10 = 10 - 0 from rfl, h]
  simp
theorem unv_back : ∀ (q i x : Nat) (l : List Int) (z m : Nat), Byt l → i + q = 10 → unv l (10 - i) i x = (z, m, 0) → ∃ y, z = x + 128 ^ i * y ∧ m = i + (vari y).length ∧ m ≤ l.length ∧ vari y = (l.drop i).take (m - i) ∧ (0 < i → 0 < y) ∧ (i = 9 → y ≤ 1)
  | 0, i, x, l, z, m, _, hi, h => by
    obtain rfl : i = 10 := by omega
    have := (unv_end h).symm
    simp at this
  | q + 1, i, x, l, z, m, hb, hi, h => by
    have hi10 : i < 10 := by omega
    rw [unv_at hi10] at h
    by_cases h1 : l.length ≤ i
    · rw [if_pos h1] at h; simp at h
    by_cases h2 : i = 9 ∧ 1 < bt l i
    · rw [if_neg h1, if_pos h2] at h; simp at h
    by_cases h3 : bt l i = 0 ∧ 0 < i
    · rw [if_neg h1, if_neg h2, if_pos h3] at h; simp at h
    have hd : l.drop i = (bt l i : Int) :: l.drop (i + 1) := by
      rw [List.drop_eq_getElem_cons (by omega), ← (hb.bt i).1, List.getD_eq_getElem?_getD, List.getElem?_eq_getElem (by omega)]; rfl
    by_cases h4 : bt l i < 128
    · rw [if_neg h1, if_neg h2, if_neg h3, if_pos h4] at h
      simp only [Prod.mk.injEq, and_true] at h
      obtain ⟨rfl, rfl⟩ := h
      refine ⟨bt l i, rfl, by rw [vari_lt h4]; rfl, by omega, ?_, by omega, by omega⟩
      rw [vari_lt h4, hd, show i + 1 - i = 1 by omega]; rfl
    · rw [if_neg h1, if_neg h2, if_neg h3, if_neg h4] at h
      obtain ⟨y, hz, hm, hml, hv, hy, h9⟩ := unv_back q (i + 1) _ l z m hb (by omega) h
      have hy0 := hy (by omega)
      have hlt := (hb.bt i).2
      have hge : ¬ (128 * y + (bt l i - 128)) < 128 := by omega
      have e1 : (128 * y + (bt l i - 128)) % 128 = bt l i - 128 := by omega
      have e2 : (128 * y + (bt l i - 128)) / 128 = y := by omega
      have hvv : vari (128 * y + (bt l i - 128)) = (bt l i : Int) :: vari y := by rw [vari_ge hge, e1, e2, show 128 + (bt l i - 128) = bt l i by omega]
      refine ⟨128 * y + (bt l i - 128), ?_, by rw [hvv, List.length_cons]; omega, hml, ?_, by omega, by omega⟩
      · rw [hz, Nat.pow_succ, Nat.mul_add]
        have : 128 ^ i * (128 * y) = 128 ^ i * 128 * y := (Nat.mul_assoc _ _ _).symm
        omega
      · have hvp := vari_pos y
        rw [hvv, hd, hv, show m - i = (m - (i + 1)) + 1 by omega, List.take_succ_cons]
theorem unvar_back {l : List Int} (hb : Byt l) (h : (unvar l).2.2 = 0) : (unvar l).2.1 ≤ l.length ∧ vari (unvar l).1 = l.take (unvar l).2.1 := by
  have e : unv l (10 - 0) 0 0 = ((unvar l).1, (unvar l).2.1, 0) := Prod.ext rfl (Prod.ext rfl h)
  obtain ⟨y, hz, hm, hml, hv, _, _⟩ := unv_back 10 0 0 l _ _ hb rfl e
  have hz' : (unvar l).1 = y := by rw [hz]; simp
  refine ⟨hml, ?_⟩
  rw [hz', hv]; simp
theorem unv_lt : ∀ (q i x : Nat) (l : List Int), Byt l → i + q = 10 → x < 128 ^ i → x < 18446744073709551616 → (unv l (10 - i) i x).1 < 18446744073709551616 ∧ (unv l (10 - i) i x).2.1 ≤ 10 ∧ (unv l (10 - i) i x).2.2 ≤ 15
  | 0, i, x, l, _, hi, _, _ => by
    obtain rfl : i = 10 := by omega
    simp [unv]
  | q + 1, i, x, l, hb, hi, hx, hx64 => by
    have hi10 : i < 10 := by omega
    have hbb := (hb.bt i).2
    rw [unv_at hi10]
    split
    · simp
    split
    · simp
    split
    · simp
    split
    · next h1 h2 h3 h4 => exact ⟨grp_64 hx h4 (by omega) (by omega), by simp; omega, by simp⟩
    · next h1 h2 h3 h4 => exact unv_lt q (i + 1) _ l hb (by omega) (grp_lt hx (by omega)) (grp_64 hx (by omega) (by omega) (by omega))
theorem unvar_lt {l : List Int} (hb : Byt l) : (unvar l).1 < 18446744073709551616 ∧ (unvar l).2.1 ≤ 10 ∧ (unvar l).2.2 ≤ 15 := unv_lt 10 0 0 l hb rfl (by simp) (by omega)
end Go.Proofs.Ytpjpaipkkcengaa
