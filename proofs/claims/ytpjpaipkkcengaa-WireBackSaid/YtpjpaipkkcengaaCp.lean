/- Contracts of functions, printed by a program of this seat (wip/tools/gen.py) out of its specs. -/
import Derived.Test.YtpjpaipkkcengaaCb
set_option linter.unusedSimpArgs false
set_option linter.unusedVariables false
set_option maxHeartbeats 800000
set_option maxRecDepth 100000
namespace Go.Proofs.Ytpjpaipkkcengaa
open Go.RowKit


def vgrp (x n i : Nat) : Nat := x / 128 ^ i % 128 + (if i + 1 < n then 128 else 0)
theorem vgrp_all (x : Nat) : (List.range (vari x).length).map (fun i => (vgrp x (vari x).length i : Int)) = vari x := by
  refine List.ext_getElem (by simp) fun i h1 h2 => ?_
  have := vari_getD x i h2
  rw [List.getD_eq_getElem?_getD, List.getElem?_eq_getElem h2] at this
  simp only [List.getElem_map, List.getElem_range, vgrp]
  exact this.symm
theorem vari_bits {x : Nat} (hx : x < 18446744073709551616) : (vari x).length = max ((Lib.bitLen x + 6) / 7) 1 := by
  have h0 := vari_pos x
  refine Nat.le_antisymm ?_ ?_
  · refine (vari_len_iff (by omega)).2 ?_
    rw [pow128, ← bitLen_le_iff hx]; omega
  · have h := (vari_len_iff h0 (x := x)).1 (Nat.le_refl _)
    rw [pow128, ← bitLen_le_iff hx] at h; omega
theorem get_64 {b k : Nat} (hb : b < 256) (hk : k ≤ 7) : b * 2 ^ (8 * k) < 18446744073709551616 := by
  have h1 : 2 ^ (8 * k) ≤ 2 ^ 56 := Nat.pow_le_pow_right (by omega) (by omega)
  have h2 : b * 2 ^ (8 * k) ≤ 255 * 2 ^ 56 := Nat.mul_le_mul (by omega) h1
  omega
theorem get_sum {x b k : Nat} (hx : x < 2 ^ (8 * k)) (hb : b < 256) (hk : k ≤ 7) : x + 2 ^ (8 * k) * b < 18446744073709551616 := by
  have h1 : 2 ^ (8 * k) ≤ 2 ^ 56 := Nat.pow_le_pow_right (by omega) (by omega)
  have h2 : 2 ^ (8 * k) * b ≤ 2 ^ 56 * 255 := Nat.mul_le_mul h1 (by omega)
  omega
def putW (x : Nat) (z : Int) : List Int := if 1 ≤ z ∧ z ≤ 8 then putL x z.toNat else []
theorem putW_no {x : Nat} {z : Int} (h : ¬ (1 ≤ z ∧ z ≤ 8)) : putW x z = [] := if_neg h
theorem putW_yes {x n : Nat} (h : 1 ≤ (n : Int) ∧ (n : Int) ≤ 8) : putW x (n : Int) = putL x n := by rw [putW, if_pos h, Int.toNat_natCast]
theorem putW_len (x : Nat) (z : Int) : (putW x z).length ≤ 8 := by
  unfold putW; split
  · rw [putL_len]; omega
  · simp
def fitsB (x : Nat) (z : Int) : Bool := decide (1 ≤ z ∧ z ≤ 8 ∧ x < 2 ^ (8 * z.toNat))
theorem fits_yes {x n : Nat} (hx : x < 18446744073709551616) (h : 1 ≤ (n : Int) ∧ (n : Int) ≤ 8) : decide ((lowN x (8 * (n : Int)) : Int) = (x : Int)) = fitsB x n := by
  have e : lowN x (8 * (n : Int)) = x ↔ x < 2 ^ (8 * n) := by
    unfold lowN
    rw [if_neg (by omega)]
    by_cases h8 : n = 8
    · subst h8
      rw [if_pos (by omega)]
      exact ⟨fun _ => hx, fun _ => rfl⟩
    · rw [if_neg (by omega), show (8 * (n : Int)).toNat = 8 * n by omega]
      have hp := Nat.two_pow_pos (8 * n)
      exact ⟨fun he => by rw [← he]; exact Nat.mod_lt _ hp, fun hl => Nat.mod_eq_of_lt hl⟩
  unfold fitsB
  rw [Bool.eq_iff_iff]
  simp only [decide_eq_true_eq, Int.toNat_natCast]
  rw [← e]
  omega
def getE (l : List Int) : Int := if 1 ≤ l.length ∧ l.length ≤ 8 then 0 else 3
def getV (l : List Int) : Nat := if 1 ≤ l.length ∧ l.length ≤ 8 then getN l else 0
theorem putW_get {x : Nat} {z : Int} (h : fitsB x z = true) : getV (putW x z) = x ∧ getE (putW x z) = 0 := by
  simp only [fitsB, decide_eq_true_eq] at h
  obtain ⟨h1, h2, h3⟩ := h
  obtain ⟨n, rfl⟩ := Int.eq_ofNat_of_zero_le (show 0 ≤ z by omega)
  rw [Int.toNat_natCast] at h3
  have hg : 1 ≤ (putL x n).length ∧ (putL x n).length ≤ 8 := by rw [putL_len]; omega
  rw [putW_yes ⟨h1, h2⟩, getV, getE, if_pos hg, if_pos hg, getN_put, pow256, Nat.mod_eq_of_lt h3]
  exact ⟨rfl, rfl⟩
theorem putW_byt (x : Nat) (z : Int) : Byt (putW x z) := by
  unfold putW; split
  · exact putL_byt _ _
  · intro y hy; cases hy


theorem c_packFill (w0 : World) (n : Nat) (hn : n ≤ 1000) (F : Nat → Int) (f : FuncId) (cap : Array Value) (he : Enters Try.prog f) (H : ∀ (w : World) (i : Nat), Ext w0 w → i < n → CallR Try.prog f (#[.int .i64 (i : Int)] ++ cap) w fun v w' => v = .int .u8 (F i) ∧ Ext w w') :
    CallR Try.prog 242 #[.int .i64 (n : Int), .func (.func f) #[] cap] w0 fun v w' => ∃ A, v = .slice A n n ∧ St NoB w0 w' [.vec A n 5 1 n (((List.range n).map F).map (Value.int .u8))] := by
  have hS : St NoB w0 w0 [] := St.start w0
  refine c_enter (l := [.int .i64 (n : Int), .func (.func f) #[] cap, undef, undef, undef, undef, undef, undef, undef, undef, undef, undef, undef, undef, undef, undef, undef, undef, undef, undef, undef, undef]) Try.func242 rfl (by simp only [Try.ntmps242, List.size_toArray, List.length_cons, List.length_nil, Nat.reduceAdd, Nat.reduceSub, Array.replicate_succ, Array.replicate_zero, List.push_toArray, List.append_toArray, List.nil_append, List.cons_append]) ?_
  refine x_seq fun K1 hK1 => ?_
  refine x_region ?_
  refine s_go (s_assign) ?_
  try simp only [opv, n1, n2, n3, n4, Value.cells]
  refine x_nil ?_
  refine hK1 _ _ ?_
  refine x_seq fun K2 hK2 => ?_
  refine x_region ?_
  refine s_go (s_move) ?_
  try simp only [opv, n1, n2, n3, n4, Value.cells]
  refine m_make (n := _) Try.underlying43 ti5 (hx := rfl) (hy := rfl) (h63 := by first | omega | (simp only [maxLen]; omega)) (hS := hS) (h := fun w1 A1 hS => ?_)
  try simp only [opv, n1, n2, n3, n4, Value.cells, Array.toArray_toList] at hS ⊢
  rw [made_int] at hS
  refine s_go (s_assign) ?_
  try simp only [opv, n1, n2, n3, n4, Value.cells]
  refine x_nil ?_
  refine hK2 _ _ ?_
  refine x_seq fun K3 hK3 => ?_
  refine x_seq fun K4 hK4 => ?_
  refine x_region ?_
  refine s_go (s_move) ?_
  try simp only [opv, n1, n2, n3, n4, Value.cells]
  refine s_go (s_len_sl Try.underlying43) ?_
  try simp only [opv, n1, n2, n3, n4, Value.cells]
  refine s_go (s_move) ?_
  try simp only [opv, n1, n2, n3, n4, Value.cells]
  refine x_nil ?_
  refine hK4 _ _ ?_
  refine x_block ?_
  refine x_loop [6, 11, 12, 13, 14, 15, 16, 17, 18, 19, 20] (fun m f w => ∃ k : Nat, k ≤ n ∧ m = n - k ∧ f 11 = .int .i64 (k : Int) ∧ St NoB w0 w [.vec A1 n 5 1 n ((fillT F n k).map (Value.int .u8))]) (n) ?init1 (fun m1 f1 wl1 hI => ?_)
  case init1 =>
    try simp only [opv, n1, n2, n3, n4, Value.cells]
    exact ⟨0, by omega, rfl, rfl, by rw [fillT_zero]; exact hS⟩
  obtain ⟨k, hk, hm, h11, hS⟩ := hI
  simp only [clob, List.foldl, n3, n4, h11]
  have hfl := fillT_len (F := F) hk
  refine x_seq fun K5 hK5 => ?_
  refine x_region ?_
  refine s_go (s_lss) ?_
  try simp only [opv, n1, n2, n3, n4, Value.cells]
  refine x_nil ?_
  refine hK5 _ _ ?_
  refine x_seq fun K6 hK6 => ?_
  refine x_cond (ht := fun hc1 => ?_) (hf := fun hc1 => ?_)
  ·
    try simp only [decide_eq_true_eq, decide_eq_false_iff_not, Bool.not_eq_true', Bool.not_eq_false', Int.not_lt, Int.not_le, ne_eq, Decidable.not_not, bne_iff_ne, beq_iff_eq, not_true_eq_false, not_false_eq_true] at hc1
    refine x_skip ?_
    refine hK6 _ _ ?_
    refine x_seq fun K7 hK7 => ?_
    refine x_block ?_
    refine x_seq fun K8 hK8 => ?_
    refine x_region ?_
    refine s_go (s_move) ?_
    try simp only [opv, n1, n2, n3, n4, Value.cells]
    refine s_go (s_assign) ?_
    try simp only [opv, n1, n2, n3, n4, Value.cells]
    refine x_nil ?_
    refine hK8 _ _ ?_
    refine x_region ?_
    refine s_go (s_move) ?_
    try simp only [opv, n1, n2, n3, n4, Value.cells]
    refine s_go (s_move) ?_
    try simp only [opv, n1, n2, n3, n4, Value.cells]
    refine s_go (s_move) ?_
    try simp only [opv, n1, n2, n3, n4, Value.cells]
    refine s_go (s_move) ?_
    try simp only [opv, n1, n2, n3, n4, Value.cells]
    refine s_callv (hv := rfl) he ?_
    try simp only [opv, n1, n2, n3, n4, Value.cells, List.map_toArray, List.map_cons, List.map_nil, List.append_toArray, List.cons_append, List.nil_append, Array.append_empty]
    refine CallR.mono (H _ k hS.ext_of (by omega)) ?_
    rintro _ w2 ⟨rfl, hE2⟩
    replace hS := hS.ext hE2
    try simp only [opv, n1, n2, n3, n4, Value.cells]
    first | refine s_go (m_indexAddr_rd Try.underlying43 ti5 (hS := hS)) ?_ | refine s_go (m_indexAddr_vec Try.underlying43 ti5 (hS := hS)) ?_
    try simp only [opv, n1, n2, n3, n4, Value.cells, Nat.mul_one, Nat.zero_add, Int.toNat_natCast, Int.reduceToNat]
    first | refine m_store_obj ti5 (hS := hS) (h := fun w3 hS => ?_) | refine m_store_vec ti5 (hS := hS) (h := fun w3 hS => ?_)
    try simp only [opv, n1, n2, n3, n4, Value.cells, Array.toArray_toList] at hS ⊢
    refine x_nil ?_
    refine hK7 _ _ ?_
    refine x_region ?_
    refine s_go (s_add (hc := by first | exact wr_i64 (by omega) (by omega) | rfl)) ?_
    try simp only [opv, n1, n2, n3, n4, Value.cells]
    refine s_go (s_move) ?_
    try simp only [opv, n1, n2, n3, n4, Value.cells]
    refine x_nil ?_
    refine loop_back (m' := n - (k + 1)) (by simp only [clob, List.foldl, n1, n2, n3, n4]) ?_ ?_
    · try simp only [opv, n1, n2, n3, n4, Value.cells]
      exact ⟨k + 1, by omega, by omega, by rfl, by rw [← fillT_set (by omega)]; exact hS⟩
    · omega
  ·
    try simp only [decide_eq_true_eq, decide_eq_false_iff_not, Bool.not_eq_true', Bool.not_eq_false', Int.not_lt, Int.not_le, ne_eq, Decidable.not_not, bne_iff_ne, beq_iff_eq, not_true_eq_false, not_false_eq_true] at hc1
    obtain rfl : k = n := by omega
    rw [fillT_all] at hS
    refine x_exit (look_here ?_)
    refine hK3 _ _ ?_
    refine x_seq fun K9 hK9 => ?_
    refine x_region ?_
    refine s_go (s_move) ?_
    try simp only [opv, n1, n2, n3, n4, Value.cells]
    refine s_go (s_assign) ?_
    try simp only [opv, n1, n2, n3, n4, Value.cells]
    refine x_nil ?_
    refine hK9 _ _ ?_
    refine x_ret ?_
    refine r_tmp rfl ?_
    exact ⟨_, rfl, hS⟩

theorem c_packVar1 (w0 : World) (i g q x n : Nat) (hi : i < n) (hn : n ≤ 10) (hx : x < 18446744073709551616) (h1 : Rd w0 (some ⟨g, 0, none⟩) 1 1 [.int .u64 (x : Int)]) (h2 : Rd w0 (some ⟨q, 0, none⟩) 1 1 [.int .i64 ((n - 1 : Nat) : Int)]) :
    CallR Try.prog 243 #[.int .i64 (i : Int), .pointer (some ⟨g, 0, none⟩), .pointer (some ⟨q, 0, none⟩)] w0 fun v w' => v = .int .u8 (vgrp x n i : Int) ∧ Ext w0 w' := by
  have hS := St.rd2 (S := NoB) h1 h2
  refine c_enter (l := [.int .i64 (i : Int), .pointer (some ⟨g, 0, none⟩), .pointer (some ⟨q, 0, none⟩), undef, undef, undef, undef, undef, undef, undef, undef, undef, undef, undef, undef, undef, undef, undef, undef]) Try.func243 rfl (by simp only [Try.ntmps243, List.size_toArray, List.length_cons, List.length_nil, Nat.reduceAdd, Nat.reduceSub, Array.replicate_succ, Array.replicate_zero, List.push_toArray, List.append_toArray, List.nil_append, List.cons_append]) ?_
  refine x_seq fun K1 hK1 => ?_
  refine x_region ?_
  refine s_go (s_assign) ?_
  try simp only [opv, n1, n2, n3, n4, Value.cells]
  refine x_nil ?_
  refine hK1 _ _ ?_
  refine x_seq fun K2 hK2 => ?_
  refine x_region ?_
  first | refine s_go (m_load_obj Try.underlying40 (hS := hS)) ?_ | refine s_go (m_load_bx Try.underlying40 (hS := hS)) ?_ | refine s_go (m_load_rd Try.underlying40 (hS := hS)) ?_ | refine s_go (m_load_vec Try.underlying40 (hS := hS)) ?_
  try simp only [opv, n1, n2, n3, n4, Value.cells, List.getElem_toArray, List.getElem_cons_zero, List.getElem_cons_succ]
  refine s_go (s_move) ?_
  try simp only [opv, n1, n2, n3, n4, Value.cells]
  refine s_go (s_mul (hc := by first | exact wr_i64 (by omega) (by omega) | rfl)) ?_
  try simp only [opv, n1, n2, n3, n4, Value.cells]
  refine s_go (s_conv Try.underlying3 Try.underlying178 (hc := by first | exact wr_u64 (by omega) (by omega) | rfl)) ?_
  try simp only [opv, n1, n2, n3, n4, Value.cells]
  refine s_go (s_shr (hc := shr_n (r := x) (n := 7 * i) (by omega) (by simp [IntKind.bits]; omega))) ?_
  try simp only [opv, n1, n2, n3, n4, Value.cells]
  refine s_go (s_conv Try.underlying40 Try.underlying5 (hc := cv_u8 rfl)) ?_
  try simp only [opv, n1, n2, n3, n4, Value.cells]
  refine s_go (s_bits (by simp) (hc := andn7 (Nat.mod_lt _ (by decide)))) ?_
  try simp only [opv, n1, n2, n3, n4, Value.cells]
  refine s_go (s_assign) ?_
  try simp only [opv, n1, n2, n3, n4, Value.cells]
  refine x_nil ?_
  refine hK2 _ _ ?_
  refine x_seq fun K3 hK3 => ?_
  refine x_seq fun K4 hK4 => ?_
  refine x_region ?_
  refine s_go (s_move) ?_
  try simp only [opv, n1, n2, n3, n4, Value.cells]
  first | refine s_go (m_load_obj Try.underlying3 (hS := hS)) ?_ | refine s_go (m_load_bx Try.underlying3 (hS := hS)) ?_ | refine s_go (m_load_rd Try.underlying3 (hS := hS)) ?_ | refine s_go (m_load_vec Try.underlying3 (hS := hS)) ?_
  try simp only [opv, n1, n2, n3, n4, Value.cells, List.getElem_toArray, List.getElem_cons_zero, List.getElem_cons_succ]
  refine s_go (s_lss) ?_
  try simp only [opv, n1, n2, n3, n4, Value.cells]
  refine x_nil ?_
  refine hK4 _ _ ?_
  refine x_cond (ht := fun hc1 => ?_) (hf := fun hc1 => ?_)
  ·
    try simp only [decide_eq_true_eq, decide_eq_false_iff_not, Bool.not_eq_true', Bool.not_eq_false', Int.not_lt, Int.not_le, ne_eq, Decidable.not_not, bne_iff_ne, beq_iff_eq, not_true_eq_false, not_false_eq_true] at hc1
    refine x_region ?_
    refine s_go (s_move) ?_
    try simp only [opv, n1, n2, n3, n4, Value.cells]
    refine s_go (s_bits (by simp) (hc := or7 (Nat.mod_lt _ (by decide)))) ?_
    try simp only [opv, n1, n2, n3, n4, Value.cells]
    refine s_go (s_assign) ?_
    try simp only [opv, n1, n2, n3, n4, Value.cells]
    refine x_nil ?_
    refine hK3 _ _ ?_
    refine x_seq fun K5 hK5 => ?_
    refine x_region ?_
    refine s_go (s_move) ?_
    try simp only [opv, n1, n2, n3, n4, Value.cells]
    refine s_go (s_assign) ?_
    try simp only [opv, n1, n2, n3, n4, Value.cells]
    refine x_nil ?_
    refine hK5 _ _ ?_
    refine x_ret ?_
    refine r_tmp rfl ?_
    refine ⟨NU ?_, hS.ext_of⟩
    unfold vgrp
    rw [pow128]
    generalize x / 2 ^ (7 * i) = y
    first | (rw [if_pos (by omega)]; omega) | (rw [if_neg (by omega)]; omega)
  ·
    try simp only [decide_eq_true_eq, decide_eq_false_iff_not, Bool.not_eq_true', Bool.not_eq_false', Int.not_lt, Int.not_le, ne_eq, Decidable.not_not, bne_iff_ne, beq_iff_eq, not_true_eq_false, not_false_eq_true] at hc1
    refine x_skip ?_
    refine hK3 _ _ ?_
    refine x_seq fun K6 hK6 => ?_
    refine x_region ?_
    refine s_go (s_move) ?_
    try simp only [opv, n1, n2, n3, n4, Value.cells]
    refine s_go (s_assign) ?_
    try simp only [opv, n1, n2, n3, n4, Value.cells]
    refine x_nil ?_
    refine hK6 _ _ ?_
    refine x_ret ?_
    refine r_tmp rfl ?_
    refine ⟨NU ?_, hS.ext_of⟩
    unfold vgrp
    rw [pow128]
    generalize x / 2 ^ (7 * i) = y
    first | (rw [if_pos (by omega)]; omega) | (rw [if_neg (by omega)]; omega)

theorem c_packSize (x : Nat) (hx : x < 18446744073709551616)  (w0 : World) :
    CallR Try.prog 241 #[.int .u64 (x : Int)] w0 fun v w' => v = .int .i64 (((vari x).length : Nat) : Int) ∧ Ext w0 w' := by
  have hS : St NoB w0 w0 [] := St.start w0
  refine c_enter (l := [.int .u64 (x : Int), undef, undef, undef, undef, undef, undef, undef, undef]) Try.func241 rfl (by simp only [Try.ntmps241, List.size_toArray, List.length_cons, List.length_nil, Nat.reduceAdd, Nat.reduceSub, Array.replicate_succ, Array.replicate_zero, List.push_toArray, List.append_toArray, List.nil_append, List.cons_append]) ?_
  refine x_seq fun K1 hK1 => ?_
  refine x_region ?_
  refine s_go (s_assign) ?_
  try simp only [opv, n1, n2, n3, n4, Value.cells]
  refine x_nil ?_
  refine hK1 _ _ ?_
  refine x_seq fun K2 hK2 => ?_
  refine x_region ?_
  refine s_go (s_move) ?_
  try simp only [opv, n1, n2, n3, n4, Value.cells]
  refine s_call en256 ?_
  try simp only [opv, n1, n2, n3, n4, Value.cells, List.map_toArray, List.map_cons, List.map_nil, List.append_toArray, List.cons_append, List.nil_append, Array.append_empty]
  refine CallR.mono (c_bitLen _ (by first | assumption | omega) _) ?_
  rintro _ w1 ⟨rfl, hE1⟩
  replace hS := hS.ext hE1
  try simp only [opv, n1, n2, n3, n4, Value.cells]
  have hbl := bitLen_le64 hx
  refine s_go (s_add (hc := by first | exact wr_i64 (by omega) (by omega) | rfl)) ?_
  try simp only [opv, n1, n2, n3, n4, Value.cells]
  refine s_go (s_sub (hc := by first | exact wr_i64 (by omega) (by omega) | rfl)) ?_
  try simp only [opv, n1, n2, n3, n4, Value.cells]
  rw [show (Lib.bitLen x : Int) + 7 - 1 = ((Lib.bitLen x + 6 : Nat) : Int) by omega]
  refine s_go (s_quo (hc := quo_i64 (r := Lib.bitLen x + 6) (p := 7) (by omega))) ?_
  try simp only [opv, n1, n2, n3, n4, Value.cells]
  refine s_go (s_max) ?_
  try simp only [opv, n1, n2, n3, n4, Value.cells]
  refine s_go (s_assign) ?_
  try simp only [opv, n1, n2, n3, n4, Value.cells]
  refine x_nil ?_
  refine hK2 _ _ ?_
  refine x_ret ?_
  refine r_tmp rfl ?_
  exact ⟨congrArg (Value.int .i64) (by rw [vari_bits hx]; omega), hS.ext_of⟩

theorem c_packVar (x : Nat) (hx : x < 18446744073709551616)  (w0 : World) :
    CallR Try.prog 190 #[.int .u64 (x : Int)] w0 fun v w' => ∃ A c, v = .slice A (vari x).length c ∧ St NoB w0 w' [.vec A c 5 1 (vari x).length ((vari x).map (Value.int .u8))] := by
  have hS : St NoB w0 w0 [] := St.start w0
  refine c_enter (l := [.int .u64 (x : Int), undef, undef, undef, undef, undef, undef, undef, undef, undef, undef]) Try.func190 rfl (by simp only [Try.ntmps190, List.size_toArray, List.length_cons, List.length_nil, Nat.reduceAdd, Nat.reduceSub, Array.replicate_succ, Array.replicate_zero, List.push_toArray, List.append_toArray, List.nil_append, List.cons_append]) ?_
  refine x_seq fun K1 hK1 => ?_
  refine x_region ?_
  refine m_box hS (fun w1 g1 hS => ?_)
  try simp only [opv, n1, n2, n3, n4, Value.cells, Array.toArray_toList] at hS ⊢
  refine s_go (s_assign) ?_
  try simp only [opv, n1, n2, n3, n4, Value.cells]
  refine x_nil ?_
  refine hK1 _ _ ?_
  refine x_seq fun K2 hK2 => ?_
  refine x_region ?_
  first | refine s_go (m_load_obj Try.underlying40 (hS := hS)) ?_ | refine s_go (m_load_bx Try.underlying40 (hS := hS)) ?_ | refine s_go (m_load_rd Try.underlying40 (hS := hS)) ?_ | refine s_go (m_load_vec Try.underlying40 (hS := hS)) ?_
  try simp only [opv, n1, n2, n3, n4, Value.cells, List.getElem_toArray, List.getElem_cons_zero, List.getElem_cons_succ]
  refine s_call en241 ?_
  try simp only [opv, n1, n2, n3, n4, Value.cells, List.map_toArray, List.map_cons, List.map_nil, List.append_toArray, List.cons_append, List.nil_append, Array.append_empty]
  refine CallR.mono (c_packSize _ (by first | assumption | omega) _) ?_
  rintro _ w2 ⟨rfl, hE2⟩
  replace hS := hS.ext hE2
  try simp only [opv, n1, n2, n3, n4, Value.cells]
  have hvp := vari_pos x
  have hvl := vari_len10 hx
  refine s_go (s_sub (hc := by first | exact wr_i64 (by omega) (by omega) | rfl)) ?_
  try simp only [opv, n1, n2, n3, n4, Value.cells]
  rw [show ((vari x).length : Int) - 1 = (((vari x).length - 1 : Nat) : Int) by omega]
  refine m_alloc ti3 hS (fun w3 g3 hS => ?_)
  try simp only [opv, n1, n2, n3, n4, Value.cells, Array.toArray_toList] at hS ⊢
  first | refine m_store_obj ti3 (hS := hS) (h := fun w4 hS => ?_) | refine m_store_vec ti3 (hS := hS) (h := fun w4 hS => ?_)
  try simp only [opv, n1, n2, n3, n4, Value.cells, Array.toArray_toList] at hS ⊢
  refine x_nil ?_
  refine hK2 _ _ ?_
  refine x_seq fun K3 hK3 => ?_
  refine x_region ?_
  first | refine s_go (m_load_obj Try.underlying3 (hS := hS)) ?_ | refine s_go (m_load_bx Try.underlying3 (hS := hS)) ?_ | refine s_go (m_load_rd Try.underlying3 (hS := hS)) ?_ | refine s_go (m_load_vec Try.underlying3 (hS := hS)) ?_
  try simp only [opv, n1, n2, n3, n4, Value.cells, List.getElem_toArray, List.getElem_cons_zero, List.getElem_cons_succ]
  refine s_go (s_add (hc := by first | exact wr_i64 (by omega) (by omega) | rfl)) ?_
  try simp only [opv, n1, n2, n3, n4, Value.cells]
  rw [show (((vari x).length - 1 : Nat) : Int) + 1 = (((vari x).length : Nat) : Int) by omega]
  refine s_go (s_makeFunc) ?_
  try simp only [opv, n1, n2, n3, n4, Value.cells, List.map_toArray, List.map_cons, List.map_nil]
  refine s_call en242 ?_
  try simp only [opv, n1, n2, n3, n4, Value.cells, List.map_toArray, List.map_cons, List.map_nil, List.append_toArray, List.cons_append, List.nil_append, Array.append_empty]
  refine CallR.mono (c_packFill _ (vari x).length (by omega) (fun i => (vgrp x (vari x).length i : Int)) _ _ en243 (fun w i hE hi => c_packVar1 w i g1 g3 x _ hi hvl hx ((hS.ext hE).objRd (by repeat (first | exact Has.head | apply Has.tail))) ((hS.ext hE).objRd (by repeat (first | exact Has.head | apply Has.tail))))) ?_
  rintro _ w5 ⟨A5, rfl, hC5⟩
  rw [vgrp_all] at hC5
  replace hS := hS.call hC5
  simp only [List.cons_append, List.nil_append] at hS
  try simp only [opv, n1, n2, n3, n4, Value.cells]
  refine s_go (s_assign) ?_
  try simp only [opv, n1, n2, n3, n4, Value.cells]
  refine x_nil ?_
  refine hK3 _ _ ?_
  refine x_ret ?_
  refine r_tmp rfl ?_
  exact ⟨_, _, rfl, hS.sel (by repeat (first | exact Sel.nil | (refine Sel.cons (by repeat (first | exact Del.head | apply Del.tail)) ?_)))⟩
end Go.Proofs.Ytpjpaipkkcengaa
