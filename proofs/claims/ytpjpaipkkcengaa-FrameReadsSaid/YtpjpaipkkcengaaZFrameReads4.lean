/- Rules, plain words and walks that the claim leans on: Cd, Ce, Cf, Pburst, Cg, Dw, Dx, Dxr, Dy, Tb, Vj, Tc. -/
import Derived.Test.YtpjpaipkkcengaaZFrameReads3
set_option linter.unusedSimpArgs false
set_option linter.unusedVariables false
set_option linter.unusedSimpArgs false
set_option linter.unusedVariables false
set_option maxHeartbeats 800000
set_option maxRecDepth 100000
namespace Go.Proofs.Ytpjpaipkkcengaa
open Go.RowKit

theorem lay_last {a b : Nat} (ha : a < 65536) (hb : b < 65536) : (a ^^^ b) % 2 ^ 16 = a ^^^ b := Nat.mod_eq_of_lt (Nat.xor_lt_two_pow (n := 16) ha hb)
theorem half (a i : Nat) : a / 2 ^ i / 2 = a / 2 ^ (i + 1) := by rw [Nat.div_div_eq_div_mul, Nat.pow_succ]
theorem tmod2 (a : Nat) : (a : Int).tmod 2 = ((a % 2 : Nat) : Int) := by rw [Int.tmod_eq_emod_of_nonneg (by omega)]; rfl
theorem pow_le16 {i : Nat} (h : i ≤ 16) : 2 ^ i ≤ 65536 := Nat.pow_le_pow_right (n := 2) (by omega) h

theorem c_lay (a b : Nat) (ha : a < 65536) (hb : b < 65536) (w0 : World) :
    CallR Try.prog 262 #[.int .i64 (a : Int), .int .i64 (b : Int)] w0 fun v w' => v = .int .i64 ((a ^^^ b : Nat) : Int) ∧ Ext w0 w' := by
 have hS : St NoB w0 w0 [] := St.start w0
 refine c_enter (l := [.int .i64 (a : Int), .int .i64 (b : Int), undef, undef, undef, undef, undef, undef, undef, undef, undef, undef, undef, undef, undef, undef, undef, undef, undef, undef, undef, undef, undef, undef, undef, undef, undef]) Try.func262 rfl (by simp only [Try.ntmps262, List.size_toArray, List.length_cons, List.length_nil, Nat.reduceAdd, Nat.reduceSub, Array.replicate_succ, Array.replicate_zero, List.push_toArray, List.append_toArray, List.nil_append, List.cons_append]) ?_
 refine x_seq fun K1 hK1 => ?_
 refine x_region ?_
 refine s_go (s_assign) ?_
 try simp only [opv, n1, n2, n3, n4, Value.cells]
 refine x_nil ?_
 refine hK1 _ _ ?_
 refine x_seq fun K2 hK2 => ?_
 refine x_region ?_
 refine s_go (s_assign) ?_
 try simp only [opv, n1, n2, n3, n4, Value.cells]
 refine s_go (s_assign) ?_
 try simp only [opv, n1, n2, n3, n4, Value.cells]
 refine x_nil ?_
 refine hK2 _ _ ?_
 refine x_seq fun K3 hK3 => ?_
 refine x_seq fun K4 hK4 => ?_
 refine x_region ?_
 refine s_go (s_assign) ?_
 try simp only [opv, n1, n2, n3, n4, Value.cells]
 refine x_nil ?_
 refine hK4 _ _ ?_
 refine x_block ?_
 refine x_loop [0, 1, 5, 6, 7, 8, 9, 10, 11, 12, 13, 14, 15, 16, 17, 18, 19, 20, 21, 22, 23, 24, 25] (fun m f w => ∃ i : Nat, i ≤ 16 ∧ m = 16 - i ∧ f 7 = .int .i64 (i : Int) ∧ f 0 = .int .i64 ((a / 2 ^ i : Nat) : Int) ∧ f 1 = .int .i64 ((b / 2 ^ i : Nat) : Int) ∧ f 6 = .int .i64 ((2 ^ i : Nat) : Int) ∧ f 5 = .int .i64 (((a ^^^ b) % 2 ^ i : Nat) : Int) ∧ St NoB w0 w []) (16) ?init1 (fun m1 f1 wl1 hI => ?_)
 case init1 =>
  try simp only [opv, n1, n2, n3, n4, Value.cells]
  exact ⟨0, by omega, rfl, rfl, by simp, by simp, by simp, by simp [Nat.mod_one], hS⟩
 obtain ⟨i, hi, hm, h7, h0, h1, h6, h5, hS⟩ := hI
 simp only [clob, List.foldl, n3, n4, h7, h0, h1, h6, h5]
 have hpl := pow_le16 hi
 have hml : (a ^^^ b) % 2 ^ i < 2 ^ i := Nat.mod_lt _ (Nat.two_pow_pos i)
 have hal : a / 2 ^ i ≤ a := Nat.div_le_self _ _
 have hbl : b / 2 ^ i ≤ b := Nat.div_le_self _ _
 have hls := lay_step a b i
 refine x_seq fun K5 hK5 => ?_
 refine x_seq fun K6 hK6 => ?_
 refine x_region ?_
 refine s_go (s_move) ?_
 try simp only [opv, n1, n2, n3, n4, Value.cells]
 refine s_go (s_lss) ?_
 try simp only [opv, n1, n2, n3, n4, Value.cells]
 refine x_nil ?_
 refine hK6 _ _ ?_
 refine x_cond (ht := fun hc1 => ?_) (hf := fun hc1 => ?_)
 ·
  try simp only [decide_eq_true_eq, decide_eq_false_iff_not, Bool.not_eq_true', Bool.not_eq_false', Int.not_lt, Int.not_le, ne_eq, Decidable.not_not, bne_iff_ne, beq_iff_eq, not_true_eq_false, not_false_eq_true] at hc1
  refine x_skip ?_
  refine hK5 _ _ ?_
  refine x_seq fun K7 hK7 => ?_
  refine x_block ?_
  refine x_seq fun K8 hK8 => ?_
  refine x_seq fun K9 hK9 => ?_
  refine x_region ?_
  refine s_go (s_move) ?_
  try simp only [opv, n1, n2, n3, n4, Value.cells]
  refine s_go (s_rem (hc := tmod2 _)) ?_
  try simp only [opv, n1, n2, n3, n4, Value.cells]
  refine s_go (s_move) ?_
  try simp only [opv, n1, n2, n3, n4, Value.cells]
  refine s_go (s_rem (hc := tmod2 _)) ?_
  try simp only [opv, n1, n2, n3, n4, Value.cells]
  refine s_go (s_neq) ?_
  try simp only [opv, n1, n2, n3, n4, Value.cells]
  refine x_nil ?_
  refine hK9 _ _ ?_
  refine x_cond (ht := fun hc2 => ?_) (hf := fun hc2 => ?_)
  ·
   try simp only [decide_eq_true_eq, decide_eq_false_iff_not, Bool.not_eq_true', Bool.not_eq_false', Int.not_lt, Int.not_le, ne_eq, Decidable.not_not, bne_iff_ne, beq_iff_eq, not_true_eq_false, not_false_eq_true] at hc2
   refine x_region ?_
   refine s_go (s_move) ?_
   try simp only [opv, n1, n2, n3, n4, Value.cells]
   refine s_go (s_move) ?_
   try simp only [opv, n1, n2, n3, n4, Value.cells]
   refine s_go (s_add (hc := by exact wr_i64 (by omega) (by omega))) ?_
   try simp only [opv, n1, n2, n3, n4, Value.cells]
   refine s_go (s_assign) ?_
   try simp only [opv, n1, n2, n3, n4, Value.cells]
   refine x_nil ?_
   refine hK8 _ _ ?_
   refine x_region ?_
   refine s_go (s_move) ?_
   try simp only [opv, n1, n2, n3, n4, Value.cells]
   refine s_go (s_quo (hc := quo_i64 (r := a / 2 ^ i) (p := 2) (Nat.lt_of_le_of_lt hal (by omega)))) ?_
   try simp only [opv, n1, n2, n3, n4, Value.cells]
   refine s_go (s_move) ?_
   try simp only [opv, n1, n2, n3, n4, Value.cells]
   refine s_go (s_quo (hc := quo_i64 (r := b / 2 ^ i) (p := 2) (Nat.lt_of_le_of_lt hbl (by omega)))) ?_
   try simp only [opv, n1, n2, n3, n4, Value.cells]
   refine s_go (s_move) ?_
   try simp only [opv, n1, n2, n3, n4, Value.cells]
   refine s_go (s_mul (hc := by exact wr_i64 (by omega) (by omega))) ?_
   try simp only [opv, n1, n2, n3, n4, Value.cells]
   refine s_go (s_assign) ?_
   try simp only [opv, n1, n2, n3, n4, Value.cells]
   refine s_go (s_assign) ?_
   try simp only [opv, n1, n2, n3, n4, Value.cells]
   refine s_go (s_assign) ?_
   try simp only [opv, n1, n2, n3, n4, Value.cells]
   refine x_nil ?_
   refine hK7 _ _ ?_
   refine x_region ?_
   refine s_go (s_move) ?_
   try simp only [opv, n1, n2, n3, n4, Value.cells]
   refine s_go (s_add (hc := by exact wr_i64 (by omega) (by omega))) ?_
   try simp only [opv, n1, n2, n3, n4, Value.cells]
   refine s_go (s_assign) ?_
   try simp only [opv, n1, n2, n3, n4, Value.cells]
   refine x_nil ?_
   refine loop_back (m' := 16 - (i + 1)) (by simp only [clob, List.foldl, n1, n2, n3, n4]) ?_ ?_
   · try simp only [opv, n1, n2, n3, n4, Value.cells]
     exact ⟨i + 1, by omega, by omega, by rfl, by rw [← half], by rw [← half], congrArg (Value.int .i64) (by rw [Nat.pow_succ, Int.natCast_mul]; rfl), congrArg (Value.int .i64) (by rw [hls]; (rw [if_pos (by exact_mod_cast hc2), Int.natCast_add]; done)), hS⟩
   · omega
  ·
   try simp only [decide_eq_true_eq, decide_eq_false_iff_not, Bool.not_eq_true', Bool.not_eq_false', Int.not_lt, Int.not_le, ne_eq, Decidable.not_not, bne_iff_ne, beq_iff_eq, not_true_eq_false, not_false_eq_true] at hc2
   refine x_skip ?_
   refine hK8 _ _ ?_
   refine x_region ?_
   refine s_go (s_move) ?_
   try simp only [opv, n1, n2, n3, n4, Value.cells]
   refine s_go (s_quo (hc := quo_i64 (r := a / 2 ^ i) (p := 2) (Nat.lt_of_le_of_lt hal (by omega)))) ?_
   try simp only [opv, n1, n2, n3, n4, Value.cells]
   refine s_go (s_move) ?_
   try simp only [opv, n1, n2, n3, n4, Value.cells]
   refine s_go (s_quo (hc := quo_i64 (r := b / 2 ^ i) (p := 2) (Nat.lt_of_le_of_lt hbl (by omega)))) ?_
   try simp only [opv, n1, n2, n3, n4, Value.cells]
   refine s_go (s_move) ?_
   try simp only [opv, n1, n2, n3, n4, Value.cells]
   refine s_go (s_mul (hc := by exact wr_i64 (by omega) (by omega))) ?_
   try simp only [opv, n1, n2, n3, n4, Value.cells]
   refine s_go (s_assign) ?_
   try simp only [opv, n1, n2, n3, n4, Value.cells]
   refine s_go (s_assign) ?_
   try simp only [opv, n1, n2, n3, n4, Value.cells]
   refine s_go (s_assign) ?_
   try simp only [opv, n1, n2, n3, n4, Value.cells]
   refine x_nil ?_
   refine hK7 _ _ ?_
   refine x_region ?_
   refine s_go (s_move) ?_
   try simp only [opv, n1, n2, n3, n4, Value.cells]
   refine s_go (s_add (hc := by exact wr_i64 (by omega) (by omega))) ?_
   try simp only [opv, n1, n2, n3, n4, Value.cells]
   refine s_go (s_assign) ?_
   try simp only [opv, n1, n2, n3, n4, Value.cells]
   refine x_nil ?_
   refine loop_back (m' := 16 - (i + 1)) (by simp only [clob, List.foldl, n1, n2, n3, n4]) ?_ ?_
   · try simp only [opv, n1, n2, n3, n4, Value.cells]
     exact ⟨i + 1, by omega, by omega, by rfl, by rw [← half], by rw [← half], congrArg (Value.int .i64) (by rw [Nat.pow_succ, Int.natCast_mul]; rfl), congrArg (Value.int .i64) (by rw [hls]; (rw [if_neg (fun h => h (by exact_mod_cast hc2)), Nat.add_zero]; done)), hS⟩
   · omega
 ·
  try simp only [decide_eq_true_eq, decide_eq_false_iff_not, Bool.not_eq_true', Bool.not_eq_false', Int.not_lt, Int.not_le, ne_eq, Decidable.not_not, bne_iff_ne, beq_iff_eq, not_true_eq_false, not_false_eq_true] at hc1
  obtain rfl : i = 16 := by omega
  refine x_exit (look_here ?_)
  refine hK3 _ _ ?_
  refine x_seq fun K10 hK10 => ?_
  refine x_region ?_
  refine s_go (s_move) ?_
  try simp only [opv, n1, n2, n3, n4, Value.cells]
  refine s_go (s_assign) ?_
  try simp only [opv, n1, n2, n3, n4, Value.cells]
  refine x_nil ?_
  refine hK10 _ _ ?_
  refine x_ret ?_
  refine r_tmp rfl ?_
  refine ⟨?_, hS.ext_of⟩
  show Value.int .i64 _ = _
  rw [lay_last ha hb]
theorem c_ref05More (w0 : World) (r : Nat) (hrr : r < 65536) (A : Option Addr) (n c : Nat) (l : List Int) (hr : Rd w0 A 1 n (l.map (Value.int .u8))) (hl : l.length = n) (hw : Byt l) (hn : n ≤ 140737488355000) (hc : n ≤ c) :
    CallR Try.prog 253 #[.int .u16 (r : Int), .slice A n c] w0 fun v w' => v = .int .u16 ((crcM r l : Nat) : Int) ∧ Ext w0 w' := by
 have hS := St.rd1 (S := NoB) hr
 refine c_enter (l := [.int .u16 (r : Int), .slice A n c, undef, undef, undef, undef, undef, undef, undef, undef, undef, undef, undef, undef, undef, undef, undef, undef, undef, undef, undef, undef, undef, undef, undef, undef, undef, undef, undef, undef, undef, undef, undef, undef, undef, undef, undef, undef, undef, undef, undef, undef, undef, undef, undef, undef, undef, undef, undef]) Try.func253 rfl (by simp only [Try.ntmps253, List.size_toArray, List.length_cons, List.length_nil, Nat.reduceAdd, Nat.reduceSub, Array.replicate_succ, Array.replicate_zero, List.push_toArray, List.append_toArray, List.nil_append, List.cons_append]) ?_
 refine x_seq fun K1 hK1 => ?_
 refine x_region ?_
 refine s_go (s_assign) ?_
 try simp only [opv, n1, n2, n3, n4, Value.cells]
 refine x_nil ?_
 refine hK1 _ _ ?_
 refine x_seq fun K2 hK2 => ?_
 refine x_region ?_
 refine s_go (s_move) ?_
 try simp only [opv, n1, n2, n3, n4, Value.cells]
 refine s_go (s_conv Try.underlying58 Try.underlying3 (hc := by exact wr_i64 (by omega) (by omega))) ?_
 try simp only [opv, n1, n2, n3, n4, Value.cells]
 refine s_go (s_assign) ?_
 try simp only [opv, n1, n2, n3, n4, Value.cells]
 refine x_nil ?_
 refine hK2 _ _ ?_
 refine x_seq fun K3 hK3 => ?_
 refine x_seq fun K4 hK4 => ?_
 refine x_region ?_
 refine s_go (s_assign) ?_
 try simp only [opv, n1, n2, n3, n4, Value.cells]
 refine x_nil ?_
 refine hK4 _ _ ?_
 refine x_block ?_
 refine x_loop [5, 6, 7, 8, 9, 10, 13, 14, 15, 16, 17, 18, 19, 20, 21, 22, 23, 24, 25, 26, 27, 28, 29, 30, 31, 32, 33, 34, 35, 36, 37, 38, 39, 40, 41, 42, 43, 44, 45, 46] (fun m f w => ∃ k : Nat, k ≤ n ∧ m = n - k ∧ f 6 = .int .i64 (k : Int) ∧ f 5 = .int .i64 ((crcM r (l.take k) : Nat) : Int) ∧ St NoB w0 w [.rd A 1 n (l.map (Value.int .u8))]) (n) ?init1 (fun m1 f1 wl1 hI => ?_)
 case init1 =>
  try simp only [opv, n1, n2, n3, n4, Value.cells]
  exact ⟨0, by omega, rfl, rfl, rfl, hS⟩
 obtain ⟨k, hk, hm, h6, h5, hS⟩ := hI
 simp only [clob, List.foldl, n3, n4, h6, h5]
 have hcl : crcM r (l.take k) < 65536 := crcM_lt _ hrr
 have hby := hw.bt k
 refine x_seq fun K5 hK5 => ?_
 refine x_seq fun K6 hK6 => ?_
 refine x_region ?_
 refine s_go (s_move) ?_
 try simp only [opv, n1, n2, n3, n4, Value.cells]
 refine s_go (s_move) ?_
 try simp only [opv, n1, n2, n3, n4, Value.cells]
 refine s_go (s_len_sl Try.underlying43) ?_
 try simp only [opv, n1, n2, n3, n4, Value.cells]
 refine s_go (s_lss) ?_
 try simp only [opv, n1, n2, n3, n4, Value.cells]
 refine x_nil ?_
 refine hK6 _ _ ?_
 refine x_cond (ht := fun hc1 => ?_) (hf := fun hc1 => ?_)
 ·
  try simp only [decide_eq_true_eq, decide_eq_false_iff_not, Bool.not_eq_true', Bool.not_eq_false', Int.not_lt, Int.not_le, ne_eq, Decidable.not_not, bne_iff_ne, beq_iff_eq, not_true_eq_false, not_false_eq_true] at hc1
  refine x_skip ?_
  refine hK5 _ _ ?_
  refine x_seq fun K7 hK7 => ?_
  refine x_block ?_
  refine x_seq fun K8 hK8 => ?_
  refine x_region ?_
  refine s_go (s_assign) ?_
  try simp only [opv, n1, n2, n3, n4, Value.cells]
  refine x_nil ?_
  refine hK8 _ _ ?_
  refine x_block ?_
  refine x_loop [5, 7, 8, 9, 10, 19, 20, 21, 22, 23, 24, 25, 26, 27, 28, 29, 30, 31, 32, 33, 34, 35, 36, 37, 38, 39, 40, 41, 42, 43, 44, 45, 46] (fun m f w => ∃ j : Nat, j ≤ 8 ∧ m = 8 - j ∧ f 7 = .int .i64 (j : Int) ∧ f 5 = .int .i64 ((bitsN (crcM r (l.take k)) (bt l k) j : Nat) : Int) ∧ St NoB w0 w [.rd A 1 n (l.map (Value.int .u8))]) (8) ?init2 (fun m2 f2 wl2 hI => ?_)
  case init2 =>
   try simp only [opv, n1, n2, n3, n4, Value.cells]
   exact ⟨0, by omega, rfl, rfl, rfl, hS⟩
  obtain ⟨j, hj, hm2, h7, h52, hS⟩ := hI
  simp only [clob, List.foldl, n3, n4, h7, h52]
  have hbl : bitsN (crcM r (l.take k)) (bt l k) j < 65536 := bitsN_lt hcl j
  refine x_seq fun K9 hK9 => ?_
  refine x_seq fun K10 hK10 => ?_
  refine x_region ?_
  refine s_go (s_move) ?_
  try simp only [opv, n1, n2, n3, n4, Value.cells]
  refine s_go (s_lss) ?_
  try simp only [opv, n1, n2, n3, n4, Value.cells]
  refine x_nil ?_
  refine hK10 _ _ ?_
  refine x_cond (ht := fun hc2 => ?_) (hf := fun hc2 => ?_)
  ·
   try simp only [decide_eq_true_eq, decide_eq_false_iff_not, Bool.not_eq_true', Bool.not_eq_false', Int.not_lt, Int.not_le, ne_eq, Decidable.not_not, bne_iff_ne, beq_iff_eq, not_true_eq_false, not_false_eq_true] at hc2
   refine x_skip ?_
   refine hK9 _ _ ?_
   refine x_seq fun K11 hK11 => ?_
   refine x_block ?_
   refine x_seq fun K12 hK12 => ?_
   refine x_region ?_
   refine s_go (s_move) ?_
   try simp only [opv, n1, n2, n3, n4, Value.cells]
   refine s_go (s_quo (hc := quo_i64 (r := bitsN (crcM r (l.take k)) (bt l k) j) (p := 32768) (by omega))) ?_
   try simp only [opv, n1, n2, n3, n4, Value.cells]
   refine s_go (s_assign) ?_
   try simp only [opv, n1, n2, n3, n4, Value.cells]
   refine x_nil ?_
   refine hK12 _ _ ?_
   refine x_seq fun K13 hK13 => ?_
   refine x_region ?_
   refine s_go (s_move) ?_
   try simp only [opv, n1, n2, n3, n4, Value.cells]
   refine s_go (s_move) ?_
   try simp only [opv, n1, n2, n3, n4, Value.cells]
   refine s_go (m_indexAddr_rd Try.underlying43 ti5 (hS := hS)) ?_
   try simp only [opv, n1, n2, n3, n4, Value.cells, Nat.mul_one, Nat.zero_add, Int.toNat_natCast, Int.reduceToNat]
   refine s_go (m_load_rd Try.underlying5 (hS := hS)) ?_
   try simp only [opv, n1, n2, n3, n4, Value.cells, List.getElem_toArray, List.getElem_cons_zero, List.getElem_cons_succ]
   rw [hby.1]
   refine s_go (s_conv Try.underlying5 Try.underlying3 (hc := by exact wr_i64 (by omega) (by omega))) ?_
   try simp only [opv, n1, n2, n3, n4, Value.cells]
   refine s_go (s_assign) ?_
   try simp only [opv, n1, n2, n3, n4, Value.cells]
   refine x_nil ?_
   refine hK13 _ _ ?_
   refine x_seq fun K14 hK14 => ?_
   refine x_seq fun K15 hK15 => ?_
   refine x_region ?_
   refine s_go (s_assign) ?_
   try simp only [opv, n1, n2, n3, n4, Value.cells]
   refine x_nil ?_
   refine hK15 _ _ ?_
   refine x_block ?_
   refine x_loop [9, 10, 30, 31, 32, 33, 34, 35, 36, 37] (fun m f w => ∃ i : Nat, i ≤ 7 - j ∧ m = 7 - j - i ∧ f 10 = .int .i64 (i : Int) ∧ f 9 = .int .i64 ((bt l k / 2 ^ i : Nat) : Int) ∧ St NoB w0 w [.rd A 1 n (l.map (Value.int .u8))]) (7 - j) ?init3 (fun m3 f3 wl3 hI => ?_)
   case init3 =>
    try simp only [opv, n1, n2, n3, n4, Value.cells]
    exact ⟨0, by omega, rfl, rfl, by simp, hS⟩
   obtain ⟨i, hi, hm3, h10, h9, hS⟩ := hI
   simp only [clob, List.foldl, n3, n4, h10, h9]
   have hil : bt l k / 2 ^ i ≤ bt l k := Nat.div_le_self _ _
   refine x_seq fun K16 hK16 => ?_
   refine x_seq fun K17 hK17 => ?_
   refine x_region ?_
   refine s_go (s_move) ?_
   try simp only [opv, n1, n2, n3, n4, Value.cells]
   refine s_go (s_move) ?_
   try simp only [opv, n1, n2, n3, n4, Value.cells]
   refine s_go (s_sub (hc := by exact wr_i64 (by omega) (by omega))) ?_
   try simp only [opv, n1, n2, n3, n4, Value.cells]
   refine s_go (s_lss) ?_
   try simp only [opv, n1, n2, n3, n4, Value.cells]
   refine x_nil ?_
   refine hK17 _ _ ?_
   refine x_cond (ht := fun hc3 => ?_) (hf := fun hc3 => ?_)
   ·
    try simp only [decide_eq_true_eq, decide_eq_false_iff_not, Bool.not_eq_true', Bool.not_eq_false', Int.not_lt, Int.not_le, ne_eq, Decidable.not_not, bne_iff_ne, beq_iff_eq, not_true_eq_false, not_false_eq_true] at hc3
    refine x_skip ?_
    refine hK16 _ _ ?_
    refine x_seq fun K18 hK18 => ?_
    refine x_block ?_
    refine x_region ?_
    refine s_go (s_move) ?_
    try simp only [opv, n1, n2, n3, n4, Value.cells]
    refine s_go (s_quo (hc := quo_i64 (r := bt l k / 2 ^ i) (p := 2) (Nat.lt_of_le_of_lt hil (by omega)))) ?_
    try simp only [opv, n1, n2, n3, n4, Value.cells]
    refine s_go (s_assign) ?_
    try simp only [opv, n1, n2, n3, n4, Value.cells]
    refine x_nil ?_
    refine hK18 _ _ ?_
    refine x_region ?_
    refine s_go (s_move) ?_
    try simp only [opv, n1, n2, n3, n4, Value.cells]
    refine s_go (s_add (hc := by exact wr_i64 (by omega) (by omega))) ?_
    try simp only [opv, n1, n2, n3, n4, Value.cells]
    refine s_go (s_assign) ?_
    try simp only [opv, n1, n2, n3, n4, Value.cells]
    refine x_nil ?_
    refine loop_back (m' := 7 - j - (i + 1)) (by simp only [clob, List.foldl, n1, n2, n3, n4]) ?_ ?_
    · try simp only [opv, n1, n2, n3, n4, Value.cells]
      exact ⟨i + 1, by omega, by omega, by rfl, by rw [← half], hS⟩
    · omega
   ·
    try simp only [decide_eq_true_eq, decide_eq_false_iff_not, Bool.not_eq_true', Bool.not_eq_false', Int.not_lt, Int.not_le, ne_eq, Decidable.not_not, bne_iff_ne, beq_iff_eq, not_true_eq_false, not_false_eq_true] at hc3
    obtain rfl : i = 7 - j := by omega
    refine x_exit (look_here ?_)
    refine hK14 _ _ ?_
    refine x_seq fun K19 hK19 => ?_
    refine x_region ?_
    refine s_go (s_move) ?_
    try simp only [opv, n1, n2, n3, n4, Value.cells]
    refine s_go (s_mul (hc := by exact wr_i64 (by omega) (by omega))) ?_
    try simp only [opv, n1, n2, n3, n4, Value.cells]
    refine s_go (s_rem (hc := (Int.tmod_eq_emod_of_nonneg (by omega)).trans (show _ = ((2 * bitsN (crcM r (l.take k)) (bt l k) j % 65536 : Nat) : Int) by omega))) ?_
    try simp only [opv, n1, n2, n3, n4, Value.cells]
    refine s_go (s_assign) ?_
    try simp only [opv, n1, n2, n3, n4, Value.cells]
    refine x_nil ?_
    refine hK19 _ _ ?_
    refine x_seq fun K20 hK20 => ?_
    refine x_region ?_
    refine s_go (s_move) ?_
    try simp only [opv, n1, n2, n3, n4, Value.cells]
    refine s_go (s_move) ?_
    try simp only [opv, n1, n2, n3, n4, Value.cells]
    refine s_go (s_rem (hc := tmod2 _)) ?_
    try simp only [opv, n1, n2, n3, n4, Value.cells]
    refine s_go (s_neq) ?_
    try simp only [opv, n1, n2, n3, n4, Value.cells]
    refine x_nil ?_
    refine hK20 _ _ ?_
    refine x_cond (ht := fun hc4 => ?_) (hf := fun hc4 => ?_)
    ·
     try simp only [decide_eq_true_eq, decide_eq_false_iff_not, Bool.not_eq_true', Bool.not_eq_false', Int.not_lt, Int.not_le, ne_eq, Decidable.not_not, bne_iff_ne, beq_iff_eq, not_true_eq_false, not_false_eq_true] at hc4
     refine x_region ?_
     refine s_go (s_move) ?_
     try simp only [opv, n1, n2, n3, n4, Value.cells]
     refine s_call en262 ?_
     try simp only [opv, n1, n2, n3, n4, Value.cells, List.map_toArray, List.map_cons, List.map_nil, List.append_toArray, List.cons_append, List.nil_append, Array.append_empty]
     refine CallR.mono (c_lay _ 4129 (by omega) (by omega) _) ?_
     rintro _ w1 ⟨rfl, hE1⟩
     replace hS := hS.ext hE1
     try simp only [opv, n1, n2, n3, n4, Value.cells]
     refine s_go (s_assign) ?_
     try simp only [opv, n1, n2, n3, n4, Value.cells]
     refine x_nil ?_
     refine hK11 _ _ ?_
     refine x_region ?_
     refine s_go (s_move) ?_
     try simp only [opv, n1, n2, n3, n4, Value.cells]
     refine s_go (s_add (hc := by exact wr_i64 (by omega) (by omega))) ?_
     try simp only [opv, n1, n2, n3, n4, Value.cells]
     refine s_go (s_assign) ?_
     try simp only [opv, n1, n2, n3, n4, Value.cells]
     refine x_nil ?_
     refine loop_back (m' := 8 - (j + 1)) (by simp only [clob, List.foldl, n1, n2, n3, n4]) ?_ ?_
     · try simp only [opv, n1, n2, n3, n4, Value.cells]
       exact ⟨j + 1, by omega, by omega, by rfl, by simp only [bitsN, bst]; (rw [if_pos (by exact_mod_cast hc4)]; done), hS⟩
     · omega
    ·
     try simp only [decide_eq_true_eq, decide_eq_false_iff_not, Bool.not_eq_true', Bool.not_eq_false', Int.not_lt, Int.not_le, ne_eq, Decidable.not_not, bne_iff_ne, beq_iff_eq, not_true_eq_false, not_false_eq_true] at hc4
     refine x_skip ?_
     refine hK11 _ _ ?_
     refine x_region ?_
     refine s_go (s_move) ?_
     try simp only [opv, n1, n2, n3, n4, Value.cells]
     refine s_go (s_add (hc := by exact wr_i64 (by omega) (by omega))) ?_
     try simp only [opv, n1, n2, n3, n4, Value.cells]
     refine s_go (s_assign) ?_
     try simp only [opv, n1, n2, n3, n4, Value.cells]
     refine x_nil ?_
     refine loop_back (m' := 8 - (j + 1)) (by simp only [clob, List.foldl, n1, n2, n3, n4]) ?_ ?_
     · try simp only [opv, n1, n2, n3, n4, Value.cells]
       exact ⟨j + 1, by omega, by omega, by rfl, by simp only [bitsN, bst]; (rw [if_neg (fun h => h (by exact_mod_cast hc4))]; done), hS⟩
     · omega
  ·
   try simp only [decide_eq_true_eq, decide_eq_false_iff_not, Bool.not_eq_true', Bool.not_eq_false', Int.not_lt, Int.not_le, ne_eq, Decidable.not_not, bne_iff_ne, beq_iff_eq, not_true_eq_false, not_false_eq_true] at hc2
   obtain rfl : j = 8 := by omega
   refine x_exit (look_here ?_)
   refine hK7 _ _ ?_
   refine x_region ?_
   refine s_go (s_move) ?_
   try simp only [opv, n1, n2, n3, n4, Value.cells]
   refine s_go (s_add (hc := by exact wr_i64 (by omega) (by omega))) ?_
   try simp only [opv, n1, n2, n3, n4, Value.cells]
   refine s_go (s_assign) ?_
   try simp only [opv, n1, n2, n3, n4, Value.cells]
   refine x_nil ?_
   refine loop_back (m' := n - (k + 1)) (by simp only [clob, List.foldl, n1, n2, n3, n4]) ?_ ?_
   · try simp only [opv, n1, n2, n3, n4, Value.cells]
     exact ⟨k + 1, by omega, by omega, by rfl, by rw [crcM_snoc (by omega), bitsN_8 hcl hby.2], hS⟩
   · omega
 ·
  try simp only [decide_eq_true_eq, decide_eq_false_iff_not, Bool.not_eq_true', Bool.not_eq_false', Int.not_lt, Int.not_le, ne_eq, Decidable.not_not, bne_iff_ne, beq_iff_eq, not_true_eq_false, not_false_eq_true] at hc1
  obtain rfl : k = n := by omega
  rw [← hl, List.take_length]
  have hcl : crcM r l < 65536 := crcM_lt _ hrr
  refine x_exit (look_here ?_)
  refine hK3 _ _ ?_
  refine x_seq fun K21 hK21 => ?_
  refine x_region ?_
  refine s_go (s_move) ?_
  try simp only [opv, n1, n2, n3, n4, Value.cells]
  refine s_go (s_conv Try.underlying3 Try.underlying58 (hc := by exact wr_u16 (by omega) (by omega))) ?_
  try simp only [opv, n1, n2, n3, n4, Value.cells]
  refine s_go (s_assign) ?_
  try simp only [opv, n1, n2, n3, n4, Value.cells]
  refine x_nil ?_
  refine hK21 _ _ ?_
  refine x_ret ?_
  refine r_tmp rfl ?_
  exact ⟨rfl, hS.ext_of⟩
theorem c_ref05Sum (w0 : World) (A : Option Addr) (n c : Nat) (l : List Int) (hr : Rd w0 A 1 n (l.map (Value.int .u8))) (hl : l.length = n) (hw : Byt l) (hn : n ≤ 140737488355000) (hc : n ≤ c) :
    CallR Try.prog 231 #[.slice A n c] w0 fun v w' => v = .int .u16 ((crcM 65535 l : Nat) : Int) ∧ Ext w0 w' := by
 have hS := St.rd1 (S := NoB) hr
 refine c_enter (l := [.slice A n c, undef, undef, undef, undef]) Try.func231 rfl (by simp only [Try.ntmps231, List.size_toArray, List.length_cons, List.length_nil, Nat.reduceAdd, Nat.reduceSub, Array.replicate_succ, Array.replicate_zero, List.push_toArray, List.append_toArray, List.nil_append, List.cons_append]) ?_
 refine x_seq fun K1 hK1 => ?_
 refine x_region ?_
 refine s_go (s_assign) ?_
 try simp only [opv, n1, n2, n3, n4, Value.cells]
 refine x_nil ?_
 refine hK1 _ _ ?_
 refine x_seq fun K2 hK2 => ?_
 refine x_region ?_
 refine s_go (s_move) ?_
 try simp only [opv, n1, n2, n3, n4, Value.cells]
 refine s_call en253 ?_
 try simp only [opv, n1, n2, n3, n4, Value.cells, List.map_toArray, List.map_cons, List.map_nil, List.append_toArray, List.cons_append, List.nil_append, Array.append_empty]
 refine CallR.mono (c_ref05More _ 65535 (by omega) _ _ _ _ (hS.hasRd (by repeat (exact Has.head))) (by simp [*]) (by assumption) (by omega) (by omega)) ?_
 rintro _ w1 ⟨rfl, hE1⟩
 replace hS := hS.ext hE1
 try simp only [opv, n1, n2, n3, n4, Value.cells]
 refine s_go (s_assign) ?_
 try simp only [opv, n1, n2, n3, n4, Value.cells]
 refine x_nil ?_
 refine hK2 _ _ ?_
 refine x_ret ?_
 refine r_tmp rfl ?_
 exact ⟨rfl, hS.ext_of⟩
end Go.Proofs.Ytpjpaipkkcengaa
set_option linter.unusedSimpArgs false
set_option linter.unusedVariables false
set_option maxHeartbeats 800000
set_option maxRecDepth 100000
namespace Go.Proofs.Ytpjpaipkkcengaa
open Go.RowKit

def seal2 (l : List Int) : List Int := [((crcM 65535 l / 256 : Nat) : Int), ((crcM 65535 l % 256 : Nat) : Int)]
def sealed (l : List Int) : List Int := l ++ seal2 l
def openE (l : List Int) : Int := if l.length < 2 then 4 else if crcM 65535 (l.take (l.length - 2)) ≠ bt l (l.length - 2) * 256 + bt l (l.length - 1) then 5 else 0
def openD (l : List Int) : List Int := if openE l = 0 then l.take (l.length - 2) else []
theorem or_256 {a b : Nat} (hb : b < 256) : a * 256 ||| b = a * 256 + b := by
  have := Nat.two_pow_add_eq_or_of_lt (i := 8) (b := b) hb a
  rw [show 2 ^ 8 * a = a * 256 by omega] at this
  exact this.symm

theorem c_crcSeal (w0 : World) (A : Option Addr) (n c : Nat) (l : List Int) (hr : Rd w0 A 1 n (l.map (Value.int .u8))) (hl : l.length = n) (hw : Byt l) (hn : n ≤ 140737488355000) (hc : n ≤ c) :
    CallR Try.prog 158 #[.slice A n c] w0 fun v w' => ∃ A' c', v = .slice A' (n + 2) c' ∧ St NoB w0 w' [.vec A' c' 5 1 (n + 2) ((sealed l).map (Value.int .u8))] := by
 have hS := St.rd1 (S := NoB) hr
 refine c_enter (l := [.slice A n c, undef, undef, undef, undef, undef, undef, undef, undef, undef, undef, undef, undef, undef, undef, undef, undef, undef, undef]) Try.func158 rfl (by simp only [Try.ntmps158, List.size_toArray, List.length_cons, List.length_nil, Nat.reduceAdd, Nat.reduceSub, Array.replicate_succ, Array.replicate_zero, List.push_toArray, List.append_toArray, List.nil_append, List.cons_append]) ?_
 refine x_seq fun K1 hK1 => ?_
 refine x_region ?_
 refine s_go (s_assign) ?_
 try simp only [opv, n1, n2, n3, n4, Value.cells]
 refine x_nil ?_
 refine hK1 _ _ ?_
 refine x_seq fun K2 hK2 => ?_
 refine x_region ?_
 refine s_go (s_move) ?_
 try simp only [opv, n1, n2, n3, n4, Value.cells]
 refine s_call en229 ?_
 try simp only [opv, n1, n2, n3, n4, Value.cells, List.map_toArray, List.map_cons, List.map_nil, List.append_toArray, List.cons_append, List.nil_append, Array.append_empty]
 refine CallR.mono (c_crcSum _ _ _ _ _ (hS.hasRd (by repeat (exact Has.head))) (by simp [*]) (by assumption) (by omega) (by omega)) ?_
 rintro _ w1 ⟨rfl, hE1⟩
 replace hS := hS.ext hE1
 try simp only [opv, n1, n2, n3, n4, Value.cells]
 refine s_go (s_assign) ?_
 try simp only [opv, n1, n2, n3, n4, Value.cells]
 refine x_nil ?_
 refine hK2 _ _ ?_
 refine x_seq fun K3 hK3 => ?_
 refine x_region ?_
 have hcl : crcM 65535 l < 65536 := crcM_lt _ (by omega)
 refine s_go (s_move) ?_
 try simp only [opv, n1, n2, n3, n4, Value.cells]
 refine s_go (s_move) ?_
 try simp only [opv, n1, n2, n3, n4, Value.cells]
 refine s_go (s_len_sl Try.underlying43) ?_
 try simp only [opv, n1, n2, n3, n4, Value.cells]
 refine s_go (s_move) ?_
 try simp only [opv, n1, n2, n3, n4, Value.cells]
 refine s_go (s_len_sl Try.underlying43) ?_
 try simp only [opv, n1, n2, n3, n4, Value.cells]
 refine m_slice_rd (lo := 0) (hi := n) (m := n) Try.underlying43 ti5 (hlo := rfl) (hhi := ⟨_, rfl⟩) (hmx := ⟨_, rfl⟩) (hS := hS) (h := fun A1 hA1 hS => ?_)
 try simp only [Nat.mul_one, Nat.zero_mul] at hA1
 try simp only [← List.map_append, ← List.map_drop, ← List.map_take, Nat.mul_one, Nat.zero_mul, Nat.sub_zero, List.drop_zero, List.nil_append, Nat.zero_add] at hS ⊢
 try simp only [opv, n1, n2, n3, n4, Value.cells, Array.toArray_toList] at hS ⊢
 refine s_go (s_move) ?_
 try simp only [opv, n1, n2, n3, n4, Value.cells]
 refine s_go (s_shr (hc := shr_u .u16 (r := crcM 65535 l) (p := 256) (s := crcM 65535 l / 256) rfl)) ?_
 try simp only [opv, n1, n2, n3, n4, Value.cells]
 refine s_go (s_conv Try.underlying58 Try.underlying5 (hc := by exact wr_u8 (by omega) (by omega))) ?_
 try simp only [opv, n1, n2, n3, n4, Value.cells]
 refine s_go (s_move) ?_
 try simp only [opv, n1, n2, n3, n4, Value.cells]
 refine s_go (s_conv Try.underlying58 Try.underlying5 (hc := cv_u8 (r := crcM 65535 l) (s := crcM 65535 l % 256) rfl)) ?_
 try simp only [opv, n1, n2, n3, n4, Value.cells]
 refine m_buildRow (cells := #[_, _]) Try.underlying43 ti5 (hc := by simp only [List.map_toArray, List.map_cons, List.map_nil, opv, n1, n2, n3, n4, Value.cells, List.toList_toArray]; (repeat (refine fill_cons rfl rfl (Nat.le_of_ble_eq_true rfl) ?_)); rfl) (hS := hS) (h := fun w2 g2 hS => ?_)
 try simp only [opv, n1, n2, n3, n4, Value.cells, Array.toArray_toList] at hS ⊢
 replace hS := hS.obj_rd (sz := 1) (n := 2) rfl .head
 refine m_append_copy Try.underlying43 ti5 (hS := hS) (news := (seal2 l).map (Value.int .u8)) (h := fun w3 A3 C3 hS => ?_)
 try simp only [← List.map_append, ← List.map_drop, ← List.map_take, Nat.mul_one, Nat.zero_mul, Nat.sub_zero, List.drop_zero, List.nil_append, Nat.zero_add] at hS ⊢
 try simp only [opv, n1, n2, n3, n4, Value.cells, Array.toArray_toList] at hS ⊢
 refine s_go (s_assign) ?_
 try simp only [opv, n1, n2, n3, n4, Value.cells]
 refine x_nil ?_
 refine hK3 _ _ ?_
 refine x_ret ?_
 refine r_tmp rfl ?_
 rw [show l.take n = l by rw [← hl, List.take_length]] at hS
 exact ⟨_, _, rfl, hS.sel (by repeat (first | exact Sel.nil | (refine Sel.cons (by repeat (exact Del.head)) ?_)))⟩
theorem openE_short {l : List Int} (h : l.length < 2) : openE l = 4 := by simp [openE, h]
theorem openE_bad {l : List Int} (h : ¬ l.length < 2) (hs : crcM 65535 (l.take (l.length - 2)) ≠ bt l (l.length - 2) * 256 + bt l (l.length - 1)) : openE l = 5 := by simp [openE, h, hs]
theorem openE_ok {l : List Int} (h : ¬ l.length < 2) (hs : crcM 65535 (l.take (l.length - 2)) = bt l (l.length - 2) * 256 + bt l (l.length - 1)) : openE l = 0 := by simp [openE, h, hs]
theorem openD_none {l : List Int} (h : openE l ≠ 0) : openD l = [] := by simp [openD, h]
theorem openD_ok {l : List Int} (h : openE l = 0) : openD l = l.take (l.length - 2) := by simp [openD, h]

theorem c_crcOpen (w0 : World) (A : Option Addr) (n c : Nat) (l : List Int) (hr : Rd w0 A 1 n (l.map (Value.int .u8))) (hl : l.length = n) (hw : Byt l) (hn : n ≤ 140737488355000) (hc : n ≤ c) :
    CallR Try.prog 150 #[.slice A n c] w0 fun v w' => ∃ A' m c', v = .tuple #[.slice A' m c', .int .i64 (openE l)] ∧ m = (openD l).length ∧ St NoB w0 w' [.vec A' c' 5 1 m ((openD l).map (Value.int .u8))] := by
 have hS := St.rd1 (S := NoB) hr
 refine c_enter (l := [.slice A n c, undef, undef, undef, undef, undef, undef, undef, undef, undef, undef, undef, undef, undef, undef, undef, undef, undef, undef, undef, undef, undef, undef, undef, undef, undef, undef, undef, undef, undef, undef, undef, undef, undef, undef]) Try.func150 rfl (by simp only [Try.ntmps150, List.size_toArray, List.length_cons, List.length_nil, Nat.reduceAdd, Nat.reduceSub, Array.replicate_succ, Array.replicate_zero, List.push_toArray, List.append_toArray, List.nil_append, List.cons_append]) ?_
 refine x_seq fun K1 hK1 => ?_
 refine x_region ?_
 refine s_go (s_assign) ?_
 try simp only [opv, n1, n2, n3, n4, Value.cells]
 refine s_go (s_assign) ?_
 try simp only [opv, n1, n2, n3, n4, Value.cells]
 refine x_nil ?_
 refine hK1 _ _ ?_
 refine x_seq fun K2 hK2 => ?_
 refine x_region ?_
 refine s_go (s_move) ?_
 try simp only [opv, n1, n2, n3, n4, Value.cells]
 refine s_go (s_len_sl Try.underlying43) ?_
 try simp only [opv, n1, n2, n3, n4, Value.cells]
 refine s_go (s_sub (hc := by exact wr_i64 (by omega) (by omega))) ?_
 try simp only [opv, n1, n2, n3, n4, Value.cells]
 refine s_go (s_assign) ?_
 try simp only [opv, n1, n2, n3, n4, Value.cells]
 refine x_nil ?_
 refine hK2 _ _ ?_
 refine x_seq fun K3 hK3 => ?_
 refine x_seq fun K4 hK4 => ?_
 refine x_region ?_
 refine s_go (s_move) ?_
 try simp only [opv, n1, n2, n3, n4, Value.cells]
 refine s_go (s_lss) ?_
 try simp only [opv, n1, n2, n3, n4, Value.cells]
 refine x_nil ?_
 refine hK4 _ _ ?_
 refine x_cond (ht := fun hc1 => ?_) (hf := fun hc1 => ?_)
 ·
  try simp only [decide_eq_true_eq, decide_eq_false_iff_not, Bool.not_eq_true', Bool.not_eq_false', Int.not_lt, Int.not_le, ne_eq, Decidable.not_not, bne_iff_ne, beq_iff_eq, not_true_eq_false, not_false_eq_true] at hc1
  have hE : openE l = 4 := openE_short (by omega)
  refine x_seq fun K5 hK5 => ?_
  refine x_region ?_
  refine s_go (s_assign) ?_
  try simp only [opv, n1, n2, n3, n4, Value.cells]
  refine s_go (s_assign) ?_
  try simp only [opv, n1, n2, n3, n4, Value.cells]
  refine x_nil ?_
  refine hK5 _ _ ?_
  refine x_ret ?_
  refine r_tmp2 rfl ?_
  have hD := openD_none (l := l) (by rw [hE]; decide)
  have hS := hS.nil_vec 5 1
  exact ⟨none, 0, 0, by rw [hE]; rfl, by rw [hD]; rfl, by rw [hD]; exact hS.sel (by repeat (first | exact Sel.nil | (refine Sel.cons (by repeat (exact Del.head)) ?_)))⟩
 ·
  try simp only [decide_eq_true_eq, decide_eq_false_iff_not, Bool.not_eq_true', Bool.not_eq_false', Int.not_lt, Int.not_le, ne_eq, Decidable.not_not, bne_iff_ne, beq_iff_eq, not_true_eq_false, not_false_eq_true] at hc1
  rw [show (n : Int) - 2 = ((n - 2 : Nat) : Int) by omega]
  have hcl : crcM 65535 (l.take (n - 2)) < 65536 := crcM_lt _ (by omega)
  have hb1 := hw.bt (n - 2)
  have hb2 := hw.bt (n - 1)
  refine x_skip ?_
  refine hK3 _ _ ?_
  refine x_seq fun K6 hK6 => ?_
  refine x_seq fun K7 hK7 => ?_
  refine x_region ?_
  refine s_go (s_move) ?_
  try simp only [opv, n1, n2, n3, n4, Value.cells]
  refine s_go (s_move) ?_
  try simp only [opv, n1, n2, n3, n4, Value.cells]
  refine m_slice_rd (lo := 0) (hi := n - 2) (m := _) Try.underlying43 ti5 (hlo := rfl) (hhi := ⟨_, rfl⟩) (hmx := rfl) (hS := hS) (h := fun A1 hA1 hS => ?_)
  try simp only [Nat.mul_one, Nat.zero_mul] at hA1
  try simp only [← List.map_append, ← List.map_drop, ← List.map_take, Nat.mul_one, Nat.zero_mul, Nat.sub_zero, List.drop_zero, List.nil_append, Nat.zero_add] at hS ⊢
  try simp only [opv, n1, n2, n3, n4, Value.cells, Array.toArray_toList] at hS ⊢
  refine s_call en229 ?_
  try simp only [opv, n1, n2, n3, n4, Value.cells, List.map_toArray, List.map_cons, List.map_nil, List.append_toArray, List.cons_append, List.nil_append, Array.append_empty]
  refine CallR.mono (c_crcSum _ _ _ _ _ (hS.hasRd (by repeat (exact Has.head))) (by simp [*]) (by exact Byt.take (by assumption) _) (by omega) (by omega)) ?_
  rintro _ w1 ⟨rfl, hE1⟩
  replace hS := hS.ext hE1
  try simp only [opv, n1, n2, n3, n4, Value.cells]
  refine s_go (s_assign) ?_
  try simp only [opv, n1, n2, n3, n4, Value.cells]
  refine x_nil ?_
  refine hK7 _ _ ?_
  refine x_seq fun K8 hK8 => ?_
  refine x_quiet (by kernel_rfl) (by kernel_rfl) hS ?_
  refine q_go (fun w hS => s_move) ?_
  try simp only [opv, n1, n2, n3, n4, Value.cells]
  refine q_go (fun w hS => s_move) ?_
  try simp only [opv, n1, n2, n3, n4, Value.cells]
  refine q_go (fun w hS => s_move) ?_
  try simp only [opv, n1, n2, n3, n4, Value.cells]
  refine q_go (fun w hS => m_indexAddr_rd Try.underlying43 ti5 (hS := hS)) ?_
  try simp only [opv, n1, n2, n3, n4, Value.cells, Nat.mul_one, Nat.zero_add, Int.toNat_natCast, Int.reduceToNat]
  refine q_go (fun w hS => m_load_rd Try.underlying5 (hS := hS)) ?_
  try simp only [opv, n1, n2, n3, n4, Value.cells, List.getElem_toArray, List.getElem_cons_zero, List.getElem_cons_succ]
  rw [hb1.1]
  refine q_go (fun w hS => s_conv Try.underlying5 Try.underlying58 (hc := by exact wr_u16 (by omega) (by omega))) ?_
  try simp only [opv, n1, n2, n3, n4, Value.cells]
  refine q_go (fun w hS => s_shl (hc := shl_u16 (r := bt l (n - 2)) (p := 256) (s := bt l (n - 2) * 256) (by omega))) ?_
  try simp only [opv, n1, n2, n3, n4, Value.cells]
  refine q_go (fun w hS => s_move) ?_
  try simp only [opv, n1, n2, n3, n4, Value.cells]
  refine q_go (fun w hS => s_move) ?_
  try simp only [opv, n1, n2, n3, n4, Value.cells]
  refine q_go (fun w hS => s_add (hc := by exact wr_i64 (by omega) (by omega))) ?_
  try simp only [opv, n1, n2, n3, n4, Value.cells]
  rw [show ((n - 2 : Nat) : Int) + 1 = ((n - 1 : Nat) : Int) by omega]
  refine q_go (fun w hS => m_indexAddr_rd Try.underlying43 ti5 (hS := hS)) ?_
  try simp only [opv, n1, n2, n3, n4, Value.cells, Nat.mul_one, Nat.zero_add, Int.toNat_natCast, Int.reduceToNat]
  refine q_go (fun w hS => m_load_rd Try.underlying5 (hS := hS)) ?_
  try simp only [opv, n1, n2, n3, n4, Value.cells, List.getElem_toArray, List.getElem_cons_zero, List.getElem_cons_succ]
  rw [hb2.1]
  refine q_go (fun w hS => s_conv Try.underlying5 Try.underlying58 (hc := by exact wr_u16 (by omega) (by omega))) ?_
  try simp only [opv, n1, n2, n3, n4, Value.cells]
  refine q_go (fun w hS => s_bits (by simp) (hc := (or_u16 (a := bt l (n - 2) * 256) (b := bt l (n - 1)) (by omega) (by omega)).trans (by rw [or_256 hb2.2]))) ?_
  try simp only [opv, n1, n2, n3, n4, Value.cells]
  refine q_go (fun w hS => s_neq) ?_
  try simp only [opv, n1, n2, n3, n4, Value.cells]
  clear hS
  refine q_nil fun w2 hS => ?_
  refine hK8 _ _ ?_
  refine x_cond (ht := fun hc2 => ?_) (hf := fun hc2 => ?_)
  ·
   try simp only [decide_eq_true_eq, decide_eq_false_iff_not, Bool.not_eq_true', Bool.not_eq_false', Int.not_lt, Int.not_le, ne_eq, Decidable.not_not, bne_iff_ne, beq_iff_eq, not_true_eq_false, not_false_eq_true] at hc2
   have hE : openE l = 5 := openE_bad (by omega) (by rw [hl]; exact_mod_cast hc2)
   refine x_seq fun K9 hK9 => ?_
   refine x_region ?_
   refine s_go (s_assign) ?_
   try simp only [opv, n1, n2, n3, n4, Value.cells]
   refine s_go (s_assign) ?_
   try simp only [opv, n1, n2, n3, n4, Value.cells]
   refine x_nil ?_
   refine hK9 _ _ ?_
   refine x_ret ?_
   refine r_tmp2 rfl ?_
   have hD := openD_none (l := l) (by rw [hE]; decide)
   have hS := hS.nil_vec 5 1
   exact ⟨none, 0, 0, by rw [hE]; rfl, by rw [hD]; rfl, by rw [hD]; exact hS.sel (by repeat (first | exact Sel.nil | (refine Sel.cons (by repeat (exact Del.head)) ?_)))⟩
  ·
   try simp only [decide_eq_true_eq, decide_eq_false_iff_not, Bool.not_eq_true', Bool.not_eq_false', Int.not_lt, Int.not_le, ne_eq, Decidable.not_not, bne_iff_ne, beq_iff_eq, not_true_eq_false, not_false_eq_true] at hc2
   have hE : openE l = 0 := openE_ok (by omega) (by rw [hl]; exact_mod_cast hc2)
   refine x_skip ?_
   refine hK6 _ _ ?_
   refine x_seq fun K10 hK10 => ?_
   refine x_region ?_
   refine m_buildRow (cells := #[]) Try.underlying43 ti5 (hc := by simp only [List.map_toArray, List.map_cons, List.map_nil, opv, n1, n2, n3, n4, Value.cells, List.toList_toArray]; (repeat (refine fill_cons rfl rfl (Nat.le_of_ble_eq_true rfl) ?_)); rfl) (hS := hS) (h := fun w3 g3 hS => ?_)
   try simp only [opv, n1, n2, n3, n4, Value.cells, Array.toArray_toList] at hS ⊢
   replace hS := hS.obj_vec (sz := 1) (n := 0) rfl (by decide) .head
   refine s_go (s_move) ?_
   try simp only [opv, n1, n2, n3, n4, Value.cells]
   refine s_go (s_move) ?_
   try simp only [opv, n1, n2, n3, n4, Value.cells]
   refine m_slice_rd (lo := 0) (hi := n - 2) (m := _) Try.underlying43 ti5 (hlo := rfl) (hhi := ⟨_, rfl⟩) (hmx := rfl) (hS := hS) (h := fun A2 hA2 hS => ?_)
   try simp only [Nat.mul_one, Nat.zero_mul] at hA2
   try simp only [← List.map_append, ← List.map_drop, ← List.map_take, Nat.mul_one, Nat.zero_mul, Nat.sub_zero, List.drop_zero, List.nil_append, Nat.zero_add] at hS ⊢
   try simp only [opv, n1, n2, n3, n4, Value.cells, Array.toArray_toList] at hS ⊢
   refine m_append Try.underlying43 ti5 (hS := hS) (h := fun w4 A4 C4 hS => ?_)
   try simp only [← List.map_append, ← List.map_drop, ← List.map_take, Nat.mul_one, Nat.zero_mul, Nat.sub_zero, List.drop_zero, List.nil_append, Nat.zero_add] at hS ⊢
   try simp only [opv, n1, n2, n3, n4, Value.cells, Array.toArray_toList] at hS ⊢
   refine s_go (s_assign) ?_
   try simp only [opv, n1, n2, n3, n4, Value.cells]
   refine s_go (s_assign) ?_
   try simp only [opv, n1, n2, n3, n4, Value.cells]
   refine x_nil ?_
   refine hK10 _ _ ?_
   refine x_ret ?_
   refine r_tmp2 rfl ?_
   have hD := openD_ok hE
   rw [hl] at hD
   exact ⟨_, _, _, by rw [hE]; rfl, by rw [hD]; simp; omega, by rw [hD]; exact hS.sel (by repeat (first | exact Sel.nil | (refine Sel.cons (by repeat (exact Del.head)) ?_)))⟩
theorem c_ref05Open (w0 : World) (A : Option Addr) (n c : Nat) (l : List Int) (hr : Rd w0 A 1 n (l.map (Value.int .u8))) (hl : l.length = n) (hw : Byt l) (hn : n ≤ 140737488355000) (hc : n ≤ c) :
    CallR Try.prog 157 #[.slice A n c] w0 fun v w' => ∃ A' m c', v = .tuple #[.slice A' m c', .int .i64 (openE l)] ∧ m = (openD l).length ∧ Ext w0 w' ∧ Rd w' A' 1 m ((openD l).map (Value.int .u8)) ∧ (0 < m → 0 < n ∧ A'.map (·.block) = A.map (·.block)) ∧ m ≤ c' := by
 have hS := St.rd1 (S := NoB) hr
 refine c_enter (l := [.slice A n c, undef, undef, undef, undef, undef, undef, undef, undef, undef, undef, undef, undef, undef, undef, undef, undef, undef, undef, undef, undef, undef, undef, undef, undef, undef, undef, undef, undef, undef, undef, undef, undef, undef, undef, undef, undef, undef, undef]) Try.func157 rfl (by simp only [Try.ntmps157, List.size_toArray, List.length_cons, List.length_nil, Nat.reduceAdd, Nat.reduceSub, Array.replicate_succ, Array.replicate_zero, List.push_toArray, List.append_toArray, List.nil_append, List.cons_append]) ?_
 refine x_seq fun K1 hK1 => ?_
 refine x_region ?_
 refine s_go (s_assign) ?_
 try simp only [opv, n1, n2, n3, n4, Value.cells]
 refine s_go (s_assign) ?_
 try simp only [opv, n1, n2, n3, n4, Value.cells]
 refine x_nil ?_
 refine hK1 _ _ ?_
 refine x_seq fun K2 hK2 => ?_
 refine x_seq fun K3 hK3 => ?_
 refine x_region ?_
 refine s_go (s_move) ?_
 try simp only [opv, n1, n2, n3, n4, Value.cells]
 refine s_go (s_len_sl Try.underlying43) ?_
 try simp only [opv, n1, n2, n3, n4, Value.cells]
 refine s_go (s_lss) ?_
 try simp only [opv, n1, n2, n3, n4, Value.cells]
 refine x_nil ?_
 refine hK3 _ _ ?_
 refine x_cond (ht := fun hc1 => ?_) (hf := fun hc1 => ?_)
 ·
  try simp only [decide_eq_true_eq, decide_eq_false_iff_not, Bool.not_eq_true', Bool.not_eq_false', Int.not_lt, Int.not_le, ne_eq, Decidable.not_not, bne_iff_ne, beq_iff_eq, not_true_eq_false, not_false_eq_true] at hc1
  have hE : openE l = 4 := openE_short (by omega)
  refine x_seq fun K4 hK4 => ?_
  refine x_region ?_
  refine s_go (s_assign) ?_
  try simp only [opv, n1, n2, n3, n4, Value.cells]
  refine s_go (s_assign) ?_
  try simp only [opv, n1, n2, n3, n4, Value.cells]
  refine x_nil ?_
  refine hK4 _ _ ?_
  refine x_ret ?_
  refine r_tmp2 rfl ?_
  have hD := openD_none (l := l) (by rw [hE]; decide)
  exact ⟨none, 0, 0, by rw [hE]; rfl, by rw [hD]; rfl, hS.ext_of, by rw [hD]; exact ⟨rfl, fun h => absurd h (by omega)⟩, fun h => absurd h (by omega), Nat.le_refl 0⟩
 ·
  try simp only [decide_eq_true_eq, decide_eq_false_iff_not, Bool.not_eq_true', Bool.not_eq_false', Int.not_lt, Int.not_le, ne_eq, Decidable.not_not, bne_iff_ne, beq_iff_eq, not_true_eq_false, not_false_eq_true] at hc1
  have hcl : crcM 65535 (l.take (n - 2)) < 65536 := crcM_lt _ (by omega)
  have hb1 := hw.bt (n - 2)
  have hb2 := hw.bt (n - 1)
  refine x_skip ?_
  refine hK2 _ _ ?_
  refine x_seq fun K5 hK5 => ?_
  refine x_region ?_
  refine s_go (s_move) ?_
  try simp only [opv, n1, n2, n3, n4, Value.cells]
  refine s_go (s_move) ?_
  try simp only [opv, n1, n2, n3, n4, Value.cells]
  refine s_go (s_len_sl Try.underlying43) ?_
  try simp only [opv, n1, n2, n3, n4, Value.cells]
  refine s_go (s_sub (hc := by exact wr_i64 (by omega) (by omega))) ?_
  try simp only [opv, n1, n2, n3, n4, Value.cells]
  rw [show (n : Int) - 2 = ((n - 2 : Nat) : Int) by omega]
  refine m_slice_rd (lo := 0) (hi := n - 2) (m := _) Try.underlying43 ti5 (hlo := rfl) (hhi := ⟨_, rfl⟩) (hmx := rfl) (hS := hS) (h := fun A1 hA1 hS => ?_)
  try simp only [Nat.mul_one, Nat.zero_mul] at hA1
  try simp only [← List.map_append, ← List.map_drop, ← List.map_take, Nat.mul_one, Nat.zero_mul, Nat.sub_zero, List.drop_zero, List.nil_append, Nat.zero_add] at hS ⊢
  try simp only [opv, n1, n2, n3, n4, Value.cells, Array.toArray_toList] at hS ⊢
  refine s_go (s_assign) ?_
  try simp only [opv, n1, n2, n3, n4, Value.cells]
  refine x_nil ?_
  refine hK5 _ _ ?_
  refine x_seq fun K6 hK6 => ?_
  refine x_seq fun K7 hK7 => ?_
  refine x_region ?_
  refine s_go (s_move) ?_
  try simp only [opv, n1, n2, n3, n4, Value.cells]
  refine s_call en231 ?_
  try simp only [opv, n1, n2, n3, n4, Value.cells, List.map_toArray, List.map_cons, List.map_nil, List.append_toArray, List.cons_append, List.nil_append, Array.append_empty]
  refine CallR.mono (c_ref05Sum _ _ _ _ _ (hS.hasRd (by repeat (exact Has.head))) (by simp [*]) (by exact Byt.take (by assumption) _) (by omega) (by omega)) ?_
  rintro _ w1 ⟨rfl, hE1⟩
  replace hS := hS.ext hE1
  try simp only [opv, n1, n2, n3, n4, Value.cells]
  refine s_go (s_assign) ?_
  try simp only [opv, n1, n2, n3, n4, Value.cells]
  refine x_nil ?_
  refine hK7 _ _ ?_
  refine x_seq fun K8 hK8 => ?_
  refine x_region ?_
  refine s_go (s_move) ?_
  try simp only [opv, n1, n2, n3, n4, Value.cells]
  refine s_go (s_quo (hc := quo_u16 (r := crcM 65535 (l.take (n - 2))) (p := 256) (by omega))) ?_
  try simp only [opv, n1, n2, n3, n4, Value.cells]
  refine s_go (s_conv Try.underlying58 Try.underlying5 (hc := by exact wr_u8 (by omega) (by omega))) ?_
  try simp only [opv, n1, n2, n3, n4, Value.cells]
  refine s_go (s_move) ?_
  try simp only [opv, n1, n2, n3, n4, Value.cells]
  refine s_go (s_move) ?_
  try simp only [opv, n1, n2, n3, n4, Value.cells]
  refine s_go (s_len_sl Try.underlying43) ?_
  try simp only [opv, n1, n2, n3, n4, Value.cells]
  refine s_go (s_sub (hc := by exact wr_i64 (by omega) (by omega))) ?_
  try simp only [opv, n1, n2, n3, n4, Value.cells]
  rw [show (n : Int) - 2 = ((n - 2 : Nat) : Int) by omega]
  refine s_go (m_indexAddr_rd Try.underlying43 ti5 (hS := hS)) ?_
  try simp only [opv, n1, n2, n3, n4, Value.cells, Nat.mul_one, Nat.zero_add, Int.toNat_natCast, Int.reduceToNat]
  refine s_go (m_load_rd Try.underlying5 (hS := hS)) ?_
  try simp only [opv, n1, n2, n3, n4, Value.cells, List.getElem_toArray, List.getElem_cons_zero, List.getElem_cons_succ]
  rw [hb1.1]
  refine s_go (s_neq) ?_
  try simp only [opv, n1, n2, n3, n4, Value.cells]
  refine s_go (s_move) ?_
  try simp only [opv, n1, n2, n3, n4, Value.cells]
  refine s_part 26 rfl (fun hp1 => ?_) (fun hp1 => ?_)
  ·
   try simp only [n3, n4]
   try simp only [decide_eq_true_eq, decide_eq_false_iff_not, Bool.not_eq_true', Bool.not_eq_false', Int.not_lt, Int.not_le, ne_eq, Decidable.not_not] at hp1
   have hE : openE l = 5 := openE_bad (by omega) (by rw [hl]; omega)
   refine g_off (yi (t := 26) rfl rfl) ?_
   try simp only [opv, n1, n2, n3, n4, Value.cells]
   refine g_off (yi (t := 26) rfl rfl) ?_
   try simp only [opv, n1, n2, n3, n4, Value.cells]
   refine g_off (yi (t := 26) rfl rfl) ?_
   try simp only [opv, n1, n2, n3, n4, Value.cells]
   refine g_off (yi (t := 26) rfl rfl) ?_
   try simp only [opv, n1, n2, n3, n4, Value.cells]
   refine g_off (yi (t := 26) rfl rfl) ?_
   try simp only [opv, n1, n2, n3, n4, Value.cells]
   refine g_off (yi (t := 26) rfl rfl) ?_
   try simp only [opv, n1, n2, n3, n4, Value.cells]
   refine g_off (yi (t := 26) rfl rfl) ?_
   try simp only [opv, n1, n2, n3, n4, Value.cells]
   refine g_off (yi (t := 26) rfl rfl) ?_
   try simp only [opv, n1, n2, n3, n4, Value.cells]
   refine g_off (yi (t := 26) rfl rfl) ?_
   try simp only [opv, n1, n2, n3, n4, Value.cells]
   refine g_off (yi (t := 26) rfl rfl) ?_
   try simp only [opv, n1, n2, n3, n4, Value.cells]
   refine s_go (s_pick_t) ?_
   try simp only [opv, n1, n2, n3, n4, Value.cells]
   refine x_nil ?_
   refine hK8 _ _ ?_
   refine x_cond_t (h := ?_)
   refine x_seq fun K9 hK9 => ?_
   refine x_region ?_
   refine s_go (s_assign) ?_
   try simp only [opv, n1, n2, n3, n4, Value.cells]
   refine s_go (s_assign) ?_
   try simp only [opv, n1, n2, n3, n4, Value.cells]
   refine x_nil ?_
   refine hK9 _ _ ?_
   refine x_ret ?_
   refine r_tmp2 rfl ?_
   have hD := openD_none (l := l) (by rw [hE]; decide)
   exact ⟨none, 0, 0, by rw [hE]; rfl, by rw [hD]; rfl, hS.ext_of, by rw [hD]; exact ⟨rfl, fun h => absurd h (by omega)⟩, fun h => absurd h (by omega), Nat.le_refl 0⟩
  ·
   try simp only [n3, n4]
   try simp only [decide_eq_true_eq, decide_eq_false_iff_not, Bool.not_eq_true', Bool.not_eq_false', Int.not_lt, Int.not_le, ne_eq, Decidable.not_not] at hp1
   refine g_on (yi (t := 26) rfl rfl) ?_
   refine s_go (s_move) ?_
   try simp only [opv, n1, n2, n3, n4, Value.cells]
   refine g_on (yi (t := 26) rfl rfl) ?_
   refine s_go (s_rem (hc := rem_nat (r := crcM 65535 (l.take (n - 2))) (p := 256))) ?_
   try simp only [opv, n1, n2, n3, n4, Value.cells]
   refine g_on (yi (t := 26) rfl rfl) ?_
   refine s_go (s_conv Try.underlying58 Try.underlying5 (hc := by exact wr_u8 (by omega) (by omega))) ?_
   try simp only [opv, n1, n2, n3, n4, Value.cells]
   refine g_on (yi (t := 26) rfl rfl) ?_
   refine s_go (s_move) ?_
   try simp only [opv, n1, n2, n3, n4, Value.cells]
   refine g_on (yi (t := 26) rfl rfl) ?_
   refine s_go (s_move) ?_
   try simp only [opv, n1, n2, n3, n4, Value.cells]
   refine g_on (yi (t := 26) rfl rfl) ?_
   refine s_go (s_len_sl Try.underlying43) ?_
   try simp only [opv, n1, n2, n3, n4, Value.cells]
   refine g_on (yi (t := 26) rfl rfl) ?_
   refine s_go (s_sub (hc := by exact wr_i64 (by omega) (by omega))) ?_
   try simp only [opv, n1, n2, n3, n4, Value.cells]
   rw [show (n : Int) - 1 = ((n - 1 : Nat) : Int) by omega]
   refine g_on (yi (t := 26) rfl rfl) ?_
   refine s_go (m_indexAddr_rd Try.underlying43 ti5 (hS := hS)) ?_
   try simp only [opv, n1, n2, n3, n4, Value.cells, Nat.mul_one, Nat.zero_add, Int.toNat_natCast, Int.reduceToNat]
   refine g_on (yi (t := 26) rfl rfl) ?_
   refine s_go (m_load_rd Try.underlying5 (hS := hS)) ?_
   try simp only [opv, n1, n2, n3, n4, Value.cells, List.getElem_toArray, List.getElem_cons_zero, List.getElem_cons_succ]
   rw [hb2.1]
   refine g_on (yi (t := 26) rfl rfl) ?_
   refine s_go (s_neq) ?_
   try simp only [opv, n1, n2, n3, n4, Value.cells]
   refine s_go (s_pick_f) ?_
   try simp only [opv, n1, n2, n3, n4, Value.cells]
   refine x_nil ?_
   refine hK8 _ _ ?_
   refine x_cond (ht := fun hc3 => ?_) (hf := fun hc3 => ?_)
   ·
    try simp only [decide_eq_true_eq, decide_eq_false_iff_not, Bool.not_eq_true', Bool.not_eq_false', Int.not_lt, Int.not_le, ne_eq, Decidable.not_not, bne_iff_ne, beq_iff_eq, not_true_eq_false, not_false_eq_true] at hc3
    have hE : openE l = 5 := openE_bad (by omega) (by rw [hl]; omega)
    refine x_seq fun K10 hK10 => ?_
    refine x_region ?_
    refine s_go (s_assign) ?_
    try simp only [opv, n1, n2, n3, n4, Value.cells]
    refine s_go (s_assign) ?_
    try simp only [opv, n1, n2, n3, n4, Value.cells]
    refine x_nil ?_
    refine hK10 _ _ ?_
    refine x_ret ?_
    refine r_tmp2 rfl ?_
    have hD := openD_none (l := l) (by rw [hE]; decide)
    exact ⟨none, 0, 0, by rw [hE]; rfl, by rw [hD]; rfl, hS.ext_of, by rw [hD]; exact ⟨rfl, fun h => absurd h (by omega)⟩, fun h => absurd h (by omega), Nat.le_refl 0⟩
   ·
    try simp only [decide_eq_true_eq, decide_eq_false_iff_not, Bool.not_eq_true', Bool.not_eq_false', Int.not_lt, Int.not_le, ne_eq, Decidable.not_not, bne_iff_ne, beq_iff_eq, not_true_eq_false, not_false_eq_true] at hc3
    have hE : openE l = 0 := openE_ok (by omega) (by rw [hl]; omega)
    refine x_skip ?_
    refine hK6 _ _ ?_
    refine x_seq fun K11 hK11 => ?_
    refine x_region ?_
    refine s_go (s_move) ?_
    try simp only [opv, n1, n2, n3, n4, Value.cells]
    refine s_go (s_assign) ?_
    try simp only [opv, n1, n2, n3, n4, Value.cells]
    refine s_go (s_assign) ?_
    try simp only [opv, n1, n2, n3, n4, Value.cells]
    refine x_nil ?_
    refine hK11 _ _ ?_
    refine x_ret ?_
    refine r_tmp2 rfl ?_
    have hD := openD_ok hE
    rw [hl] at hD
    exact ⟨_, _, _, by rw [hE]; rfl, by rw [hD]; simp; omega, hS.ext_of, by rw [hD]; exact hS.hasRd (by repeat (exact Has.head)), fun h => ⟨by omega, by rw [hA1 h]; cases A <;> rfl⟩, by omega⟩
end Go.Proofs.Ytpjpaipkkcengaa
set_option linter.unusedSimpArgs false
set_option linter.unusedVariables false
set_option maxHeartbeats 800000
set_option maxRecDepth 100000
namespace Go.Proofs.Ytpjpaipkkcengaa
open Go.RowKit

theorem sealed_len (l : List Int) : (sealed l).length = l.length + 2 := by simp [sealed, seal2]
end Go.Proofs.Ytpjpaipkkcengaa
namespace Go.Proofs.Ytpjpaipkkcengaa
theorem cst_zero : cst 0 = 0 := by simp [cst]
theorem cstN_zero : ∀ n, cstN n 0 = 0
  | 0 => rfl
  | n + 1 => by simp only [cstN]; rw [cstN_zero n, cst_zero]
theorem cstN_add (a : Nat) (x : Nat) : ∀ b, cstN (a + b) x = cstN b (cstN a x)
  | 0 => rfl
  | b + 1 => by
    show cst (cstN (a + b) x) = cst (cstN b (cstN a x))
    rw [cstN_add a x b]
theorem cst_inj0 {z : Nat} (hz : z < 65536) (h : cst z = 0) : z = 0 := by
  unfold cst at h
  split at h
  · have h1 : 2 * z % 65536 = 4129 := by
      have h2 : (2 * z % 65536 ^^^ 4129) ^^^ 4129 = 0 ^^^ 4129 := by rw [h]
      rw [Nat.xor_assoc, Nat.xor_self, Nat.xor_zero, Nat.zero_xor] at h2
      exact h2
    omega
  · omega
theorem cstN_inj0 {z : Nat} (hz : z < 65536) : ∀ n, cstN n z = 0 → z = 0
  | 0, h => h
  | n + 1, h => cstN_inj0 hz n (cst_inj0 (cstN_lt hz n) h)
theorem crcB_lin {r s c d : Nat} (hr : r < 65536) (hs : s < 65536) (hc : c < 256) (hd : d < 256) : crcB (r ^^^ s) (c ^^^ d) = crcB r c ^^^ crcB s d := by
  unfold crcB
  have h1 : (c ^^^ d) * 256 = (c * 256) ^^^ (d * 256) := by
    have := xor_mulp c d 8
    simpa only [Nat.reducePow] using this
  rw [h1]
  have e : (r ^^^ s) ^^^ ((c * 256) ^^^ (d * 256)) = (r ^^^ (c * 256)) ^^^ (s ^^^ (d * 256)) := by
    rw [Nat.xor_assoc, Nat.xor_assoc, ← Nat.xor_assoc s, Nat.xor_comm s (c * 256), Nat.xor_assoc]
  rw [e]
  exact cstN_xor (Nat.xor_lt_two_pow (n := 16) hr (by omega)) (Nat.xor_lt_two_pow (n := 16) hs (by omega)) 8
theorem crcB_state {r x c : Nat} (hr : r < 65536) (hx : x < 65536) (hc : c < 256) : crcB (r ^^^ x) c = crcB r c ^^^ cstN 8 x := by
  have h := crcB_lin (d := 0) hr hx hc (by omega)
  rw [Nat.xor_zero] at h
  have e : crcB x 0 = cstN 8 x := by unfold crcB; rw [Nat.zero_mul, Nat.xor_zero]
  rw [h, e]
theorem crcM_state : ∀ (l : List Int) {r x : Nat}, r < 65536 → x < 65536 → Byt l → crcM (r ^^^ x) l = crcM r l ^^^ cstN (8 * l.length) x
  | [], r, x, _, _, _ => by simp only [crcM, List.foldl_nil, List.length_nil, Nat.mul_zero, cstN]
  | c :: l, r, x, hr, hx, hb => by
    have hc : c.toNat < 256 := by have := hb c (by simp); omega
    rw [crcM_cons, crcM_cons, crcB_state hr hx hc, crcM_state l (crcB_lt _ _) (cstN_lt hx 8) (fun y hy => hb y (by simp [hy])), ← cstN_add]
    rw [List.length_cons, show 8 * (l.length + 1) = 8 + 8 * l.length by omega]
/-- the sum of what is sealed -/
theorem seal_zero {s : Nat} (hs : s < 65536) : crcM s [((s / 256 : Nat) : Int), ((s % 256 : Nat) : Int)] = 0 := by
  rw [crcM_cons, crcM_cons]
  simp only [Int.toNat_natCast, crcM, List.foldl_nil]
  rw [← tab_step hs (show s / 256 < 256 by omega), Nat.xor_self, Nat.zero_mul, cstN_zero, Nat.xor_zero]
  rw [← tab_step (show s * 256 % 65536 < 65536 by omega) (show s % 256 < 256 by omega)]
  rw [show s * 256 % 65536 / 256 = s % 256 by omega, Nat.xor_self, Nat.zero_mul, cstN_zero, Nat.xor_zero]
  omega
theorem two_zero {s x y : Nat} (hs : s < 65536) (hx : x < 256) (hy : y < 256) : crcM s [(x : Int), (y : Int)] = 0 ↔ s = x * 256 + y := by
  constructor
  · intro h
    have hz := seal_zero (s := x * 256 + y) (by omega)
    rw [show (x * 256 + y) / 256 = x by omega, show (x * 256 + y) % 256 = y by omega] at hz
    have hb : Byt [(x : Int), (y : Int)] := by intro z hz; simp at hz; rcases hz with rfl | rfl <;> omega
    have h1 := crcM_state [(x : Int), (y : Int)] (r := x * 256 + y) (x := (x * 256 + y) ^^^ s) (by omega) (Nat.xor_lt_two_pow (n := 16) (by omega) hs) hb
    rw [← Nat.xor_assoc, Nat.xor_self, Nat.zero_xor, h, hz, Nat.zero_xor] at h1
    have h2 := cstN_inj0 (Nat.xor_lt_two_pow (n := 16) (show x * 256 + y < 2 ^ 16 by omega) hs) _ h1.symm
    have h3 : (x * 256 + y) ^^^ ((x * 256 + y) ^^^ s) = (x * 256 + y) ^^^ 0 := by rw [h2]
    rw [← Nat.xor_assoc, Nat.xor_self, Nat.zero_xor, Nat.xor_zero] at h3
    exact h3
  · rintro rfl
    have hz := seal_zero (s := x * 256 + y) (by omega)
    rwa [show (x * 256 + y) / 256 = x by omega, show (x * 256 + y) % 256 = y by omega] at hz
end Go.Proofs.Ytpjpaipkkcengaa
set_option linter.unusedSimpArgs false
set_option linter.unusedVariables false
set_option maxHeartbeats 800000
set_option maxRecDepth 100000
namespace Go.Proofs.Ytpjpaipkkcengaa
open Go.RowKit

theorem seal2_byt (l : List Int) : Byt (seal2 l) := by
  have h := crcM_lt l (show 65535 < 65536 by omega)
  intro x hx
  simp only [seal2, List.mem_cons, List.not_mem_nil, or_false] at hx
  rcases hx with rfl | rfl <;> omega
theorem sealed_byt {l : List Int} (h : Byt l) : Byt (sealed l) := Byt.app h (seal2_byt l)
theorem sealed_zero (l : List Int) : crcM 65535 (sealed l) = 0 := by
  rw [sealed, crcM_app]; exact seal_zero (crcM_lt l (by omega))
theorem bt_int {l : List Int} (h : Byt l) {i : Nat} (hi : i < l.length) : l.drop i = (bt l i : Int) :: l.drop (i + 1) := by
  rw [List.drop_eq_getElem_cons hi, ← (h.bt i).1, List.getD_eq_getElem?_getD, List.getElem?_eq_getElem hi]; rfl
theorem crcM_end {d : List Int} (hb : Byt d) (h2 : ¬ d.length < 2) : crcM 65535 d = 0 ↔ crcM 65535 (d.take (d.length - 2)) = bt d (d.length - 2) * 256 + bt d (d.length - 1) := by
  have e : d.drop (d.length - 2) = [(bt d (d.length - 2) : Int), (bt d (d.length - 1) : Int)] := by
    rw [bt_int hb (by omega), show d.length - 2 + 1 = d.length - 1 by omega, bt_int hb (by omega), List.drop_eq_nil_of_le (by omega)]
  have h := two_zero (s := crcM 65535 (d.take (d.length - 2))) (crcM_lt _ (by omega)) (hb.bt (d.length - 2)).2 (hb.bt (d.length - 1)).2
  rw [← e, ← crcM_app, List.take_append_drop] at h
  exact h
theorem open_sealed {l : List Int} (h : Byt l) : openE (sealed l) = 0 ∧ openD (sealed l) = l := by
  have hl := sealed_len l
  have hE : openE (sealed l) = 0 := openE_ok (by omega) ((crcM_end (sealed_byt h) (by omega)).1 (sealed_zero l))
  refine ⟨hE, ?_⟩
  rw [openD_ok hE, hl, Nat.add_sub_cancel, sealed]
  exact List.take_left
end Go.Proofs.Ytpjpaipkkcengaa
set_option linter.unusedSimpArgs false
set_option linter.unusedVariables false
set_option maxHeartbeats 4000000
set_option maxRecDepth 100000
namespace Go.Proofs.Ytpjpaipkkcengaa
open Go.RowKit

def encF (fm : Fm) : List Int := if checkF fm = 0 then sealed (fmBody fm) else []
theorem encF_no {fm : Fm} (h : ¬ checkF fm = 0) : encF fm = [] := if_neg h
theorem encF_yes {fm : Fm} (h : checkF fm = 0) : encF fm = sealed (fmBody fm) := if_pos h
theorem h3_take {h3 : List Int} {k : Nat} (hk : k < h3.length) : h3.take (k + 1) = h3.take k ++ [h3.getD k 0] := by
  rw [List.take_succ_eq_append_getElem hk]; simp [List.getD_eq_getElem?_getD, List.getElem?_eq_getElem hk]

theorem c_frEncode (w0 : World) (fm : Fm) (hf : FmOk fm) (A : Option Addr) (cp : Nat) (hd : Rd w0 A 1 fm.d.length (fm.d.map (Value.int .u8))) (hdl : fm.d.length ≤ 100000)  :
    CallR Try.prog 63 #[.agg (FA fm A cp)] w0 fun v w' => ∃ (B : Option Addr) (k : Nat), v = .tuple #[.slice B (encF fm).length k, .int .i64 (checkF fm)] ∧ (encF fm).length ≤ k ∧ St NoB w0 w' [.vec B k 5 1 (encF fm).length ((encF fm).map (Value.int .u8))] := by
 have hS := (St.start (S := NoB) w0).rd_old hd
 have hbf := fmBody_byt hf
 have hfk := hf.k
 have hff := hf.fr
 have hft := hf.to
 have hfs := hf.ss
 have hfq := hf.sq
 have hfp := hf.pt
 have hfo := hf.off
 have hv1 := vari_len10 (x := fm.ss) (by omega)
 have hv2 := vari_len10 (x := fm.sq) (by omega)
 have hv3 := vari_len10 (x := fm.off) (by omega)
 have hv4 := vari_len10 (x := fm.d.length) (by omega)
 obtain ⟨h3, hh3⟩ : ∃ l : List Int, l = [(fm.k : Int), (fm.fr : Int), (fm.to : Int)] := ⟨_, rfl⟩
 have hl3 : h3.length = 3 := by rw [hh3]; rfl
 refine c_enter (l := [.agg (FA fm A cp), undef, undef, undef, undef, undef, undef, undef, undef, undef, undef, undef, undef, undef, undef, undef, undef, undef, undef, undef, undef, undef, undef, undef, undef, undef, undef, undef, undef, undef, undef, undef, undef, undef, undef, undef, undef, undef, undef, undef, undef, undef, undef, undef, undef, undef, undef, undef, undef, undef, undef, undef, undef, undef, undef, undef, undef, undef, undef, undef, undef]) Try.func63 rfl (by simp only [Try.ntmps63, List.size_toArray, List.length_cons, List.length_nil, Nat.reduceAdd, Nat.reduceSub, Array.replicate_succ, Array.replicate_zero, List.push_toArray, List.append_toArray, List.nil_append, List.cons_append]) ?_
 refine x_seq fun K1 hK1 => ?_
 refine x_region ?_
 refine m_box hS (fun w1 g1 hS => ?_)
 try simp only [opv, n1, n2, n3, n4, Value.cells, Array.toArray_toList] at hS ⊢
 refine s_go (s_assign) ?_
 try simp only [opv, n1, n2, n3, n4, Value.cells]
 refine s_go (s_assign) ?_
 try simp only [opv, n1, n2, n3, n4, Value.cells]
 refine x_nil ?_
 refine hK1 _ _ ?_
 refine x_seq fun K2 hK2 => ?_
 refine x_seq fun K3 hK3 => ?_
 refine x_region ?_
 refine s_go (m_load_row Try.underlying90 (hi := ti90) (hS := hS)) ?_
 try simp only [opv, n1, n2, n3, n4, Value.cells, List.getElem_toArray, List.getElem_cons_zero, List.getElem_cons_succ]
 refine s_call en66 ?_
 try simp only [opv, n1, n2, n3, n4, Value.cells, List.map_toArray, List.map_cons, List.map_nil, List.append_toArray, List.cons_append, List.nil_append, Array.append_empty]
 refine CallR.mono (c_frCheck _ _ _ _) ?_
 rintro _ w2 ⟨rfl, hE2⟩
 replace hS := hS.ext hE2
 try simp only [opv, n1, n2, n3, n4, Value.cells]
 refine s_go (s_assign) ?_
 try simp only [opv, n1, n2, n3, n4, Value.cells]
 refine x_nil ?_
 refine hK3 _ _ ?_
 refine x_seq fun K4 hK4 => ?_
 refine x_region ?_
 refine s_go (s_move) ?_
 try simp only [opv, n1, n2, n3, n4, Value.cells]
 refine s_go (s_neq) ?_
 try simp only [opv, n1, n2, n3, n4, Value.cells]
 refine x_nil ?_
 refine hK4 _ _ ?_
 refine x_cond (ht := fun hc1 => ?_) (hf := fun hc1 => ?_)
 ·
  try simp only [decide_eq_true_eq, decide_eq_false_iff_not, Bool.not_eq_true', Bool.not_eq_false', Int.not_lt, Int.not_le, ne_eq, Decidable.not_not, bne_iff_ne, beq_iff_eq, not_true_eq_false, not_false_eq_true] at hc1
  have hC : ¬ checkF fm = 0 := hc1
  refine x_seq fun K5 hK5 => ?_
  refine x_region ?_
  refine s_go (s_move) ?_
  try simp only [opv, n1, n2, n3, n4, Value.cells]
  refine s_go (s_assign) ?_
  try simp only [opv, n1, n2, n3, n4, Value.cells]
  refine s_go (s_assign) ?_
  try simp only [opv, n1, n2, n3, n4, Value.cells]
  refine x_nil ?_
  refine hK5 _ _ ?_
  refine x_ret ?_
  refine r_tmp2 rfl ?_
  have hE := encF_no hC
  replace hS := hS.nil_vec 5 1
  exact ⟨none, 0, by rw [hE]; rfl, by rw [hE]; exact Nat.le_refl 0, by rw [hE]; exact hS.sel (by repeat (first | exact Sel.nil | (refine Sel.cons (by repeat (exact Del.head)) ?_)))⟩
 ·
  try simp only [decide_eq_true_eq, decide_eq_false_iff_not, Bool.not_eq_true', Bool.not_eq_false', Int.not_lt, Int.not_le, ne_eq, Decidable.not_not, bne_iff_ne, beq_iff_eq, not_true_eq_false, not_false_eq_true] at hc1
  have hC : checkF fm = 0 := hc1
  refine x_skip ?_
  refine hK2 _ _ ?_
  refine x_seq fun K6 hK6 => ?_
  refine x_region ?_
  refine s_call en28 ?_
  try simp only [opv, n1, n2, n3, n4, Value.cells, List.map_toArray, List.map_cons, List.map_nil, List.append_toArray, List.cons_append, List.nil_append, Array.append_empty]
  refine CallR.mono (c_wnew _) ?_
  rintro _ w3 ⟨p, rfl, hC3⟩
  replace hS := hS.call hC3
  simp only [List.cons_append, List.nil_append] at hS
  try simp only [opv, n1, n2, n3, n4, Value.cells]
  refine s_go (s_assign) ?_
  try simp only [opv, n1, n2, n3, n4, Value.cells]
  refine x_nil ?_
  refine hK6 _ _ ?_
  refine x_seq fun K7 hK7 => ?_
  refine x_seq fun K8 hK8 => ?_
  refine x_region ?_
  refine s_go (m_fieldAddr Try.underlying90 (hi := ti5)) ?_
  try simp only [opv, n1, n2, n3, n4, Value.cells, Nat.zero_add, Nat.add_zero, List.getElem_toArray, List.getElem_cons_zero, List.getElem_cons_succ]
  refine s_go (m_load_obj Try.underlying5 (hS := hS)) ?_
  try simp only [opv, n1, n2, n3, n4, Value.cells, List.getElem_toArray, List.getElem_cons_zero, List.getElem_cons_succ]
  refine s_go (m_fieldAddr Try.underlying90 (hi := ti5)) ?_
  try simp only [opv, n1, n2, n3, n4, Value.cells, Nat.zero_add, Nat.add_zero, List.getElem_toArray, List.getElem_cons_zero, List.getElem_cons_succ]
  refine s_go (m_load_obj Try.underlying5 (hS := hS)) ?_
  try simp only [opv, n1, n2, n3, n4, Value.cells, List.getElem_toArray, List.getElem_cons_zero, List.getElem_cons_succ]
  refine s_go (m_fieldAddr Try.underlying90 (hi := ti5)) ?_
  try simp only [opv, n1, n2, n3, n4, Value.cells, Nat.zero_add, Nat.add_zero, List.getElem_toArray, List.getElem_cons_zero, List.getElem_cons_succ]
  refine s_go (m_load_obj Try.underlying5 (hS := hS)) ?_
  try simp only [opv, n1, n2, n3, n4, Value.cells, List.getElem_toArray, List.getElem_cons_zero, List.getElem_cons_succ]
  refine m_buildRow (cells := #[_, _, _]) Try.underlying43 ti5 (hc := by simp only [List.map_toArray, List.map_cons, List.map_nil, opv, n1, n2, n3, n4, Value.cells, List.toList_toArray]; (repeat (refine fill_cons rfl rfl (Nat.le_of_ble_eq_true rfl) ?_)); rfl) (hS := hS) (h := fun w4 g4 hS => ?_)
  try simp only [opv, n1, n2, n3, n4, Value.cells, Array.toArray_toList] at hS ⊢
  replace hS := hS.obj_rd (sz := 1) (n := 3) rfl .head
  obtain ⟨g6, hg6⟩ : ∃ z, z = g4 := ⟨_, rfl⟩
  rw [← hg6] at hS ⊢
  replace hS : St NoB w0 w4 (.rd (some ⟨g6, 0, none⟩) 1 3 ([(fm.k : Int), (fm.fr : Int), (fm.to : Int)].map (Value.int .u8)) :: _) := hS
  rw [← hh3] at hS
  refine s_go (s_len_sl Try.underlying43) ?_
  try simp only [opv, n1, n2, n3, n4, Value.cells]
  refine s_go (s_move) ?_
  try simp only [opv, n1, n2, n3, n4, Value.cells]
  refine x_nil ?_
  refine hK8 _ _ ?_
  refine x_block ?_
  refine x_loop [7, 22, 23, 24, 25, 26, 27, 28, 29] (fun m f w => ∃ (k : Nat) (B : Option Addr) (d : Nat), k ≤ 3 ∧ m = 3 - k ∧ f 22 = .int .i64 (k : Int) ∧ St NoB w0 w [.obj p (.cells #[.slice B (h3.take k).length d] 153 (0, 0)), .vec B d 5 1 (h3.take k).length ((h3.take k).map (Value.int .u8)), .rd (some ⟨g6, 0, none⟩) 1 3 (h3.map (Value.int .u8)), .obj g1 (.cells (FA fm A cp) 90 (0, 0)), .rd A 1 fm.d.length (fm.d.map (Value.int .u8))]) (3) ?init1 (fun m1 f1 wl1 hI => ?_)
  case init1 =>
   try simp only [opv, n1, n2, n3, n4, Value.cells]
   exact ⟨0, none, 0, by omega, rfl, rfl, hS.sel (by repeat (first | exact Sel.nil | (refine Sel.cons (by repeat (first | exact Del.head | apply Del.tail)) ?_)))⟩
  obtain ⟨k, B, d, hk, hm, h22, hS⟩ := hI
  simp only [clob, List.foldl, n3, n4, h22]
  have htk : (h3.take k).length = k := by rw [List.length_take]; omega
  refine x_seq fun K9 hK9 => ?_
  refine x_region ?_
  refine s_go (s_lss) ?_
  try simp only [opv, n1, n2, n3, n4, Value.cells]
  refine x_nil ?_
  refine hK9 _ _ ?_
  refine x_seq fun K10 hK10 => ?_
  refine x_cond (ht := fun hc2 => ?_) (hf := fun hc2 => ?_)
  ·
   try simp only [decide_eq_true_eq, decide_eq_false_iff_not, Bool.not_eq_true', Bool.not_eq_false', Int.not_lt, Int.not_le, ne_eq, Decidable.not_not, bne_iff_ne, beq_iff_eq, not_true_eq_false, not_false_eq_true] at hc2
   refine x_skip ?_
   refine hK10 _ _ ?_
   refine x_seq fun K11 hK11 => ?_
   refine x_block ?_
   refine x_seq fun K12 hK12 => ?_
   refine x_region ?_
   refine s_go (m_indexAddr_rd Try.underlying43 ti5 (hS := hS)) ?_
   try simp only [opv, n1, n2, n3, n4, Value.cells, Nat.mul_one, Nat.zero_add, Int.toNat_natCast, Int.reduceToNat]
   refine s_go (m_load_rd Try.underlying5 (hS := hS)) ?_
   try simp only [opv, n1, n2, n3, n4, Value.cells, List.getElem_toArray, List.getElem_cons_zero, List.getElem_cons_succ]
   refine s_go (s_assign) ?_
   try simp only [opv, n1, n2, n3, n4, Value.cells]
   refine x_nil ?_
   refine hK12 _ _ ?_
   refine x_region ?_
   refine s_go (s_move) ?_
   try simp only [opv, n1, n2, n3, n4, Value.cells]
   refine s_go (s_move) ?_
   try simp only [opv, n1, n2, n3, n4, Value.cells]
   refine s_call en120 ?_
   try simp only [opv, n1, n2, n3, n4, Value.cells, List.map_toArray, List.map_cons, List.map_nil, List.append_toArray, List.cons_append, List.nil_append, Array.append_empty]
   refine CallR.mono (c_wbyte _ p B d (h3.take k) (by omega) _ (hS.owns (by repeat (first | exact Spl.nil | (apply Spl.cons (by repeat (exact Del.head))))))) ?_
   rintro _ w5 ⟨rfl, A5, c5, hC5⟩
   replace hS := hS.frame (by repeat (first | exact Spl.nil | (apply Spl.cons (by repeat (exact Del.head))))) hC5 (by intro r hr g hg; simp only [List.mem_cons, List.not_mem_nil, or_false] at hr; rcases hr with rfl | rfl | rfl <;> (simp [Res.reads] at hg; done))
   simp only [List.cons_append, List.nil_append] at hS
   try simp only [opv, n1, n2, n3, n4, Value.cells]
   refine x_nil ?_
   refine hK11 _ _ ?_
   refine x_region ?_
   refine s_go (s_add (hc := by exact wr_i64 (by omega) (by omega))) ?_
   try simp only [opv, n1, n2, n3, n4, Value.cells]
   refine s_go (s_move) ?_
   try simp only [opv, n1, n2, n3, n4, Value.cells]
   refine x_nil ?_
   refine loop_back (m' := 3 - (k + 1)) (by simp only [clob, List.foldl, n1, n2, n3, n4]) ?_ ?_
   · try simp only [opv, n1, n2, n3, n4, Value.cells]
     rw [← h3_take (by omega)] at hS
     exact ⟨k + 1, _, _, by omega, by omega, by rfl, hS.sel (by repeat (first | exact Sel.nil | (refine Sel.cons (by repeat (exact Del.head)) ?_)))⟩
   · omega
  ·
   try simp only [decide_eq_true_eq, decide_eq_false_iff_not, Bool.not_eq_true', Bool.not_eq_false', Int.not_lt, Int.not_le, ne_eq, Decidable.not_not, bne_iff_ne, beq_iff_eq, not_true_eq_false, not_false_eq_true] at hc2
   obtain rfl : k = 3 := by omega
   rw [List.take_of_length_le (by omega)] at hS
   refine x_exit (look_here ?_)
   refine hK7 _ _ ?_
   refine x_seq fun K13 hK13 => ?_
   refine x_region ?_
   refine s_go (s_move) ?_
   try simp only [opv, n1, n2, n3, n4, Value.cells]
   refine s_go (m_fieldAddr Try.underlying90 (hi := ti25)) ?_
   try simp only [opv, n1, n2, n3, n4, Value.cells, Nat.zero_add, Nat.add_zero, List.getElem_toArray, List.getElem_cons_zero, List.getElem_cons_succ]
   refine s_go (m_load_obj Try.underlying25 (hS := hS)) ?_
   try simp only [opv, n1, n2, n3, n4, Value.cells, List.getElem_toArray, List.getElem_cons_zero, List.getElem_cons_succ]
   refine s_go (s_conv Try.underlying25 Try.underlying40 (hc := by exact wr_u64 (by omega) (by omega))) ?_
   try simp only [opv, n1, n2, n3, n4, Value.cells]
   refine s_call en115 ?_
   try simp only [opv, n1, n2, n3, n4, Value.cells, List.map_toArray, List.map_cons, List.map_nil, List.append_toArray, List.cons_append, List.nil_append, Array.append_empty]
   refine CallR.mono (c_wnum _ p _ _ (h3) (by (try simp only [List.length_append, List.length_cons, List.length_nil]); omega) (fm.ss) (by omega) (hS.owns (by repeat (first | exact Spl.nil | (apply Spl.cons (by repeat (exact Del.head))))))) ?_
   rintro _ w6 ⟨rfl, A6, c6, hC6⟩
   replace hS := hS.frame (by repeat (first | exact Spl.nil | (apply Spl.cons (by repeat (exact Del.head))))) hC6 (by intro r hr g hg; simp only [List.mem_cons, List.not_mem_nil, or_false] at hr; rcases hr with rfl | rfl | rfl <;> (simp [Res.reads] at hg; done))
   simp only [List.cons_append, List.nil_append] at hS
   try simp only [opv, n1, n2, n3, n4, Value.cells]
   refine x_nil ?_
   refine hK13 _ _ ?_
   refine x_seq fun K14 hK14 => ?_
   refine x_region ?_
   refine s_go (s_move) ?_
   try simp only [opv, n1, n2, n3, n4, Value.cells]
   refine s_go (m_fieldAddr Try.underlying90 (hi := ti25)) ?_
   try simp only [opv, n1, n2, n3, n4, Value.cells, Nat.zero_add, Nat.add_zero, List.getElem_toArray, List.getElem_cons_zero, List.getElem_cons_succ]
   refine s_go (m_load_obj Try.underlying25 (hS := hS)) ?_
   try simp only [opv, n1, n2, n3, n4, Value.cells, List.getElem_toArray, List.getElem_cons_zero, List.getElem_cons_succ]
   refine s_go (s_conv Try.underlying25 Try.underlying40 (hc := by exact wr_u64 (by omega) (by omega))) ?_
   try simp only [opv, n1, n2, n3, n4, Value.cells]
   refine s_call en115 ?_
   try simp only [opv, n1, n2, n3, n4, Value.cells, List.map_toArray, List.map_cons, List.map_nil, List.append_toArray, List.cons_append, List.nil_append, Array.append_empty]
   refine CallR.mono (c_wnum _ p _ _ (h3 ++ vari fm.ss) (by (try simp only [List.length_append, List.length_cons, List.length_nil]); omega) (fm.sq) (by omega) (hS.owns (by repeat (first | exact Spl.nil | (apply Spl.cons (by repeat (exact Del.head))))))) ?_
   rintro _ w7 ⟨rfl, A7, c7, hC7⟩
   replace hS := hS.frame (by repeat (first | exact Spl.nil | (apply Spl.cons (by repeat (exact Del.head))))) hC7 (by intro r hr g hg; simp only [List.mem_cons, List.not_mem_nil, or_false] at hr; rcases hr with rfl | rfl | rfl <;> (simp [Res.reads] at hg; done))
   simp only [List.cons_append, List.nil_append] at hS
   try simp only [opv, n1, n2, n3, n4, Value.cells]
   refine x_nil ?_
   refine hK14 _ _ ?_
   refine x_seq fun K15 hK15 => ?_
   refine x_region ?_
   refine s_go (s_move) ?_
   try simp only [opv, n1, n2, n3, n4, Value.cells]
   refine s_go (m_fieldAddr Try.underlying90 (hi := ti5)) ?_
   try simp only [opv, n1, n2, n3, n4, Value.cells, Nat.zero_add, Nat.add_zero, List.getElem_toArray, List.getElem_cons_zero, List.getElem_cons_succ]
   refine s_go (m_load_obj Try.underlying5 (hS := hS)) ?_
   try simp only [opv, n1, n2, n3, n4, Value.cells, List.getElem_toArray, List.getElem_cons_zero, List.getElem_cons_succ]
   refine s_call en120 ?_
   try simp only [opv, n1, n2, n3, n4, Value.cells, List.map_toArray, List.map_cons, List.map_nil, List.append_toArray, List.cons_append, List.nil_append, Array.append_empty]
   refine CallR.mono (c_wbyte _ p _ _ (h3 ++ vari fm.ss ++ vari fm.sq) (by (try simp only [List.length_append, List.length_cons, List.length_nil]); omega) _ (hS.owns (by repeat (first | exact Spl.nil | (apply Spl.cons (by repeat (exact Del.head))))))) ?_
   rintro _ w8 ⟨rfl, A8, c8, hC8⟩
   replace hS := hS.frame (by repeat (first | exact Spl.nil | (apply Spl.cons (by repeat (exact Del.head))))) hC8 (by intro r hr g hg; simp only [List.mem_cons, List.not_mem_nil, or_false] at hr; rcases hr with rfl | rfl | rfl <;> (simp [Res.reads] at hg; done))
   simp only [List.cons_append, List.nil_append] at hS
   try simp only [opv, n1, n2, n3, n4, Value.cells]
   refine x_nil ?_
   refine hK15 _ _ ?_
   refine x_seq fun K16 hK16 => ?_
   refine x_region ?_
   refine s_go (s_move) ?_
   try simp only [opv, n1, n2, n3, n4, Value.cells]
   refine s_go (m_fieldAddr Try.underlying90 (hi := ti25)) ?_
   try simp only [opv, n1, n2, n3, n4, Value.cells, Nat.zero_add, Nat.add_zero, List.getElem_toArray, List.getElem_cons_zero, List.getElem_cons_succ]
   refine s_go (m_load_obj Try.underlying25 (hS := hS)) ?_
   try simp only [opv, n1, n2, n3, n4, Value.cells, List.getElem_toArray, List.getElem_cons_zero, List.getElem_cons_succ]
   refine s_go (s_conv Try.underlying25 Try.underlying40 (hc := by exact wr_u64 (by omega) (by omega))) ?_
   try simp only [opv, n1, n2, n3, n4, Value.cells]
   refine s_call en115 ?_
   try simp only [opv, n1, n2, n3, n4, Value.cells, List.map_toArray, List.map_cons, List.map_nil, List.append_toArray, List.cons_append, List.nil_append, Array.append_empty]
   refine CallR.mono (c_wnum _ p _ _ (h3 ++ vari fm.ss ++ vari fm.sq ++ [(fm.pt : Int)]) (by (try simp only [List.length_append, List.length_cons, List.length_nil]); omega) (fm.off) (by omega) (hS.owns (by repeat (first | exact Spl.nil | (apply Spl.cons (by repeat (exact Del.head))))))) ?_
   rintro _ w9 ⟨rfl, A9, c9, hC9⟩
   replace hS := hS.frame (by repeat (first | exact Spl.nil | (apply Spl.cons (by repeat (exact Del.head))))) hC9 (by intro r hr g hg; simp only [List.mem_cons, List.not_mem_nil, or_false] at hr; rcases hr with rfl | rfl | rfl <;> (simp [Res.reads] at hg; done))
   simp only [List.cons_append, List.nil_append] at hS
   try simp only [opv, n1, n2, n3, n4, Value.cells]
   refine x_nil ?_
   refine hK16 _ _ ?_
   refine x_seq fun K17 hK17 => ?_
   refine x_region ?_
   refine s_go (s_move) ?_
   try simp only [opv, n1, n2, n3, n4, Value.cells]
   refine s_go (m_fieldAddr Try.underlying90 (hi := ti4)) ?_
   try simp only [opv, n1, n2, n3, n4, Value.cells, Nat.zero_add, Nat.add_zero, List.getElem_toArray, List.getElem_cons_zero, List.getElem_cons_succ]
   refine s_go (m_load_obj Try.underlying4 (hS := hS)) ?_
   try simp only [opv, n1, n2, n3, n4, Value.cells, List.getElem_toArray, List.getElem_cons_zero, List.getElem_cons_succ]
   refine s_call en152 ?_
   try simp only [opv, n1, n2, n3, n4, Value.cells, List.map_toArray, List.map_cons, List.map_nil, List.append_toArray, List.cons_append, List.nil_append, Array.append_empty]
   refine CallR.mono (c_frTruth _ _) ?_
   rintro _ w10 ⟨rfl, hE10⟩
   replace hS := hS.ext hE10
   try simp only [opv, n1, n2, n3, n4, Value.cells]
   refine s_call en120 ?_
   try simp only [opv, n1, n2, n3, n4, Value.cells, List.map_toArray, List.map_cons, List.map_nil, List.append_toArray, List.cons_append, List.nil_append, Array.append_empty]
   refine CallR.mono (c_wbyte _ p _ _ (h3 ++ vari fm.ss ++ vari fm.sq ++ [(fm.pt : Int)] ++ vari fm.off) (by (try simp only [List.length_append, List.length_cons, List.length_nil]); omega) _ (hS.owns (by repeat (first | exact Spl.nil | (apply Spl.cons (by repeat (exact Del.head))))))) ?_
   rintro _ w11 ⟨rfl, A11, c11, hC11⟩
   replace hS := hS.frame (by repeat (first | exact Spl.nil | (apply Spl.cons (by repeat (exact Del.head))))) hC11 (by intro r hr g hg; simp only [List.mem_cons, List.not_mem_nil, or_false] at hr; rcases hr with rfl | rfl | rfl <;> (simp [Res.reads] at hg; done))
   simp only [List.cons_append, List.nil_append] at hS
   try simp only [opv, n1, n2, n3, n4, Value.cells]
   refine x_nil ?_
   refine hK17 _ _ ?_
   refine x_seq fun K18 hK18 => ?_
   refine x_region ?_
   refine s_go (s_move) ?_
   try simp only [opv, n1, n2, n3, n4, Value.cells]
   refine s_go (m_fieldAddr Try.underlying90 (hi := ti43)) ?_
   try simp only [opv, n1, n2, n3, n4, Value.cells, Nat.zero_add, Nat.add_zero, List.getElem_toArray, List.getElem_cons_zero, List.getElem_cons_succ]
   refine s_go (m_load_obj Try.underlying43 (hS := hS)) ?_
   try simp only [opv, n1, n2, n3, n4, Value.cells, List.getElem_toArray, List.getElem_cons_zero, List.getElem_cons_succ]
   have hbl : (fmBody fm).length ≤ 200000 := by have := fmBody_len hf (by omega); omega
   refine s_call en121 ?_
   try simp only [opv, n1, n2, n3, n4, Value.cells, List.map_toArray, List.map_cons, List.map_nil, List.append_toArray, List.cons_append, List.nil_append, Array.append_empty]
   refine CallR.mono (c_wbytes _ p _ _ (h3 ++ vari fm.ss ++ vari fm.sq ++ [(fm.pt : Int)] ++ vari fm.off ++ [boolN fm.la]) (by (try simp only [List.length_append, List.length_cons, List.length_nil]); omega) A cp fm.d hdl (hS.owns (by repeat (first | exact Spl.nil | (apply Spl.cons (by repeat (first | exact Del.head | apply Del.tail))))))) ?_
   rintro _ w12 ⟨rfl, A12, c12, hC12⟩
   replace hS := hS.frame (by repeat (first | exact Spl.nil | (apply Spl.cons (by repeat (first | exact Del.head | apply Del.tail))))) hC12 (by intro r hr g hg; simp only [List.mem_cons, List.not_mem_nil, or_false] at hr; rcases hr with rfl | rfl | rfl <;> first | (simp [Res.reads] at hg; done) | exact .inr ⟨_, by simp, .inr hg⟩)
   simp only [List.cons_append, List.nil_append] at hS
   rw [show h3 ++ vari fm.ss ++ vari fm.sq ++ [(fm.pt : Int)] ++ vari fm.off ++ [boolN fm.la] ++ (vari fm.d.length ++ fm.d) = fmBody fm from by rw [hh3]; simp [fmBody]] at hS
   try simp only [opv, n1, n2, n3, n4, Value.cells]
   refine x_nil ?_
   refine hK18 _ _ ?_
   refine x_seq fun K19 hK19 => ?_
   refine x_region ?_
   refine s_go (s_move) ?_
   try simp only [opv, n1, n2, n3, n4, Value.cells]
   refine s_call en32 ?_
   try simp only [opv, n1, n2, n3, n4, Value.cells, List.map_toArray, List.map_cons, List.map_nil, List.append_toArray, List.cons_append, List.nil_append, Array.append_empty]
   refine CallR.mono (c_wout _ p _ _ (fmBody fm) (by omega) (hS.owns (by repeat (first | exact Spl.nil | (apply Spl.cons (by repeat (exact Del.head))))))) ?_
   rintro _ w13 ⟨A13, c13, rfl, hC13⟩
   replace hS := hS.frame (by repeat (first | exact Spl.nil | (apply Spl.cons (by repeat (exact Del.head))))) hC13 (by intro r hr g hg; simp only [List.mem_cons, List.not_mem_nil, or_false] at hr; rcases hr with rfl | rfl | rfl <;> (simp [Res.reads] at hg; done))
   simp only [List.cons_append, List.nil_append] at hS
   have hcap := hS.vec_cap (by exact Has.head)
   try simp only [opv, n1, n2, n3, n4, Value.cells]
   refine s_call en158 ?_
   try simp only [opv, n1, n2, n3, n4, Value.cells, List.map_toArray, List.map_cons, List.map_nil, List.append_toArray, List.cons_append, List.nil_append, Array.append_empty]
   refine CallR.mono (c_crcSeal _ _ _ _ (fmBody fm) (hS.vecRd (by repeat (exact Has.head))) rfl hbf (by omega) hcap) ?_
   rintro _ w14 ⟨AS, CS, rfl, hC14⟩
   replace hS := hS.call hC14
   simp only [List.cons_append, List.nil_append] at hS
   have hcs := hS.vec_cap (by exact Has.head)
   try simp only [opv, n1, n2, n3, n4, Value.cells]
   refine s_go (s_assign) ?_
   try simp only [opv, n1, n2, n3, n4, Value.cells]
   refine s_go (s_assign) ?_
   try simp only [opv, n1, n2, n3, n4, Value.cells]
   refine x_nil ?_
   refine hK19 _ _ ?_
   refine x_ret ?_
   refine r_tmp2 rfl ?_
   have hE := encF_yes hC
   have hsl := sealed_len (fmBody fm)
   have hel : (encF fm).length = (fmBody fm).length + 2 := by rw [hE]; exact hsl
   try rw [show 3 + (vari fm.ss).length + (vari fm.sq).length + 1 + (vari fm.off).length + 1 + (vari fm.d.length).length + fm.d.length = (fmBody fm).length from by omega] at hS hcs ⊢
   exact ⟨AS, CS, by rw [hel, hC]; rfl, by rw [hel]; exact hcs, by rw [hel, hE]; exact hS.sel (by repeat (first | exact Sel.nil | (refine Sel.cons (by repeat (exact Del.head)) ?_)))⟩
end Go.Proofs.Ytpjpaipkkcengaa
set_option linter.unusedSimpArgs false
set_option linter.unusedVariables false
set_option maxHeartbeats 2000000
set_option maxRecDepth 100000
namespace Go.Proofs.Ytpjpaipkkcengaa
open Go.RowKit

theorem openD_byt {l : List Int} (h : Byt l) : Byt (openD l) := by
  unfold openD; split
  · exact h.take _
  · intro y hy; cases hy
theorem openD_le (l : List Int) : (openD l).length ≤ l.length := by
  unfold openD; split <;> simp
def decE (l : List Int) : Int := if openE l = 0 then frE (openD l) else openE l
def decF (l : List Int) : Fm := if openE l = 0 then frF (openD l) else fm0
theorem fr_first (d : List Int) : firstE [(frSt d).s9.1, if decide (valB (frSt d).s7 ≤ 1) = true then 0 else 3, if 0 < (frSt d).s9.2.length then 3 else (frSt d).s9.1, checkF (frRaw d)] = frE d := by
  unfold frE
  by_cases h0 : (frSt d).s9.1 = 0
  · rw [if_pos h0, firstE, if_pos h0]
    by_cases h1 : valB (frSt d).s7 ≤ 1
    · rw [if_pos (decide_eq_true h1), firstE, if_pos rfl]
      by_cases h2 : 0 < (frSt d).s9.2.length
      · have h12 : 1 < valB (frSt d).s7 ∨ 0 < (frSt d).s9.2.length := .inr h2
        rw [if_pos h2, if_pos h12]; rfl
      · have h12 : ¬ (1 < valB (frSt d).s7 ∨ 0 < (frSt d).s9.2.length) := by omega
        rw [if_neg h2, if_neg h12, firstE, if_pos h0]
        by_cases h3 : checkF (frRaw d) = 0
        · simp [firstE, h3]
        · simp [firstE, h3]
    · have h12 : 1 < valB (frSt d).s7 ∨ 0 < (frSt d).s9.2.length := .inl (by omega)
      rw [if_neg (show ¬ decide (valB (frSt d).s7 ≤ 1) = true by simpa using h1), if_pos h12]; rfl
  · rw [if_neg h0, firstE, if_neg h0]
theorem fr_cells {d : List Int} (hb : Byt d) (B : Option Addr) (k : Nat) : (#[.int .u8 (valB (0, d)), .int .u8 (valB (frSt d).s1), .int .u8 (valB (frSt d).s2), .int .u32 (valN (frSt d).s3 : Int), .int .u32 (valN (frSt d).s4 : Int), .int .u8 (valB (frSt d).s5), .int .u32 (valN (frSt d).s6 : Int), .bool (decide (valB (frSt d).s7 = 1)), .slice B (bytS 65536 (frSt d).s8.1 (frSt d).s8.2).1.length k] : Array Value) = FA (frRaw d) B k := by
  have b1 : Byt (frSt d).s1.2 := oneS_byt hb
  have b2 : Byt (frSt d).s2.2 := oneS_byt b1
  have b3 : Byt (frSt d).s3.2 := oneS_byt b2
  have b4 : Byt (frSt d).s4.2 := numS_byt b3
  have b5 : Byt (frSt d).s5.2 := numS_byt b4
  have v : ∀ (s : Rs), Byt s.2 → (((valB s).toNat : Nat) : Int) = valB s := fun s hs => by have := oneS_val (e := s.1) hs; unfold valB; omega
  show _ = (#[.int .u8 (((valB (0, d)).toNat : Nat) : Int), .int .u8 (((valB (frSt d).s1).toNat : Nat) : Int), .int .u8 (((valB (frSt d).s2).toNat : Nat) : Int), _, _, .int .u8 (((valB (frSt d).s5).toNat : Nat) : Int), _, _, _] : Array Value)
  rw [v _ hb, v _ b1, v _ b2, v _ b5]
  rfl
structure FrB (d : List Int) : Prop where
  b1 : Byt (frSt d).s1.2
  b2 : Byt (frSt d).s2.2
  b3 : Byt (frSt d).s3.2
  b4 : Byt (frSt d).s4.2
  b5 : Byt (frSt d).s5.2
  b6 : Byt (frSt d).s6.2
  b7 : Byt (frSt d).s7.2
  b8 : Byt (frSt d).s8.2
  l1 : (frSt d).s1.2.length ≤ d.length
  l2 : (frSt d).s2.2.length ≤ d.length
  l3 : (frSt d).s3.2.length ≤ d.length
  l4 : (frSt d).s4.2.length ≤ d.length
  l5 : (frSt d).s5.2.length ≤ d.length
  l6 : (frSt d).s6.2.length ≤ d.length
  l7 : (frSt d).s7.2.length ≤ d.length
  l8 : (frSt d).s8.2.length ≤ d.length
theorem frB {d : List Int} (hb : Byt d) : FrB d := by
  have b1 : Byt (frSt d).s1.2 := oneS_byt hb
  have b2 : Byt (frSt d).s2.2 := oneS_byt b1
  have b3 : Byt (frSt d).s3.2 := oneS_byt b2
  have b4 : Byt (frSt d).s4.2 := numS_byt b3
  have b5 : Byt (frSt d).s5.2 := numS_byt b4
  have b6 : Byt (frSt d).s6.2 := oneS_byt b5
  have b7 : Byt (frSt d).s7.2 := numS_byt b6
  have b8 : Byt (frSt d).s8.2 := oneS_byt b7
  have l1 : (frSt d).s1.2.length ≤ d.length := oneS_len 0 d
  have l2 : (frSt d).s2.2.length ≤ (frSt d).s1.2.length := oneS_len _ _
  have l3 : (frSt d).s3.2.length ≤ (frSt d).s2.2.length := oneS_len _ _
  have l4 : (frSt d).s4.2.length ≤ (frSt d).s3.2.length := numS_len _ _ _
  have l5 : (frSt d).s5.2.length ≤ (frSt d).s4.2.length := numS_len _ _ _
  have l6 : (frSt d).s6.2.length ≤ (frSt d).s5.2.length := oneS_len _ _
  have l7 : (frSt d).s7.2.length ≤ (frSt d).s6.2.length := numS_len _ _ _
  have l8 : (frSt d).s8.2.length ≤ (frSt d).s7.2.length := oneS_len _ _
  exact ⟨b1, b2, b3, b4, b5, b6, b7, b8, by omega, by omega, by omega, by omega, by omega, by omega, by omega, by omega⟩

theorem c_cErrR (w0 : World) (q : Nat) (e : Int) (A : Option Addr) (n c : Nat) (hq : Rd w0 (some ⟨q, 0, none⟩) 1 2 [.int .i64 e, .slice A n c])  :
    CallR Try.prog 35 #[.pointer (some ⟨q, 0, none⟩)] w0 fun v w' => v = .int .i64 e ∧ Ext w0 w' := by
 have hS := St.rd1 (S := NoB) hq
 refine c_enter (l := [.pointer (some ⟨q, 0, none⟩), undef, undef, undef, undef, undef, undef, undef, undef, undef]) Try.func35 rfl (by simp only [Try.ntmps35, List.size_toArray, List.length_cons, List.length_nil, Nat.reduceAdd, Nat.reduceSub, Array.replicate_succ, Array.replicate_zero, List.push_toArray, List.append_toArray, List.nil_append, List.cons_append]) ?_
 refine x_seq fun K1 hK1 => ?_
 refine x_region ?_
 refine s_go (s_assign) ?_
 try simp only [opv, n1, n2, n3, n4, Value.cells]
 refine x_nil ?_
 refine hK1 _ _ ?_
 refine x_seq fun K2 hK2 => ?_
 refine x_seq fun K3 hK3 => ?_
 refine x_region ?_
 refine s_go (s_move) ?_
 try simp only [opv, n1, n2, n3, n4, Value.cells]
 refine s_go (s_eql_pointer Try.underlying48) ?_
 try simp only [opv, n1, n2, n3, n4, Value.cells]
 refine x_nil ?_
 refine hK3 _ _ ?_
 refine x_cond_f (h := ?_)
 refine x_skip ?_
 refine hK2 _ _ ?_
 refine x_seq fun K4 hK4 => ?_
 refine x_region ?_
 refine s_go (s_move) ?_
 try simp only [opv, n1, n2, n3, n4, Value.cells]
 refine s_go (s_nilCheck) ?_
 try simp only [opv, n1, n2, n3, n4, Value.cells]
 refine s_go (m_fieldAddr Try.underlying162 (hi := ti160)) ?_
 try simp only [opv, n1, n2, n3, n4, Value.cells, Nat.zero_add, Nat.add_zero, List.getElem_toArray, List.getElem_cons_zero, List.getElem_cons_succ]
 refine s_go (m_fieldAddr Try.underlying160 (hi := ti53)) ?_
 try simp only [opv, n1, n2, n3, n4, Value.cells, Nat.zero_add, Nat.add_zero, List.getElem_toArray, List.getElem_cons_zero, List.getElem_cons_succ]
 refine s_go (m_load_bx Try.underlying53 (hS := hS)) ?_
 try simp only [opv, n1, n2, n3, n4, Value.cells, List.getElem_toArray, List.getElem_cons_zero, List.getElem_cons_succ]
 refine s_go (s_assign) ?_
 try simp only [opv, n1, n2, n3, n4, Value.cells]
 refine x_nil ?_
 refine hK4 _ _ ?_
 refine x_ret ?_
 refine r_tmp rfl ?_
 exact ⟨rfl, hS.ext_of⟩
theorem c_cLeftR (w0 : World) (q : Nat) (e : Int) (A : Option Addr) (n c : Nat) (hq : Rd w0 (some ⟨q, 0, none⟩) 1 2 [.int .i64 e, .slice A n c])  :
    CallR Try.prog 39 #[.pointer (some ⟨q, 0, none⟩)] w0 fun v w' => v = .int .i64 (n : Int) ∧ Ext w0 w' := by
 have hS := St.rd1 (S := NoB) hq
 refine c_enter (l := [.pointer (some ⟨q, 0, none⟩), undef, undef, undef, undef, undef, undef, undef, undef, undef]) Try.func39 rfl (by simp only [Try.ntmps39, List.size_toArray, List.length_cons, List.length_nil, Nat.reduceAdd, Nat.reduceSub, Array.replicate_succ, Array.replicate_zero, List.push_toArray, List.append_toArray, List.nil_append, List.cons_append]) ?_
 refine x_seq fun K1 hK1 => ?_
 refine x_region ?_
 refine s_go (s_assign) ?_
 try simp only [opv, n1, n2, n3, n4, Value.cells]
 refine x_nil ?_
 refine hK1 _ _ ?_
 refine x_seq fun K2 hK2 => ?_
 refine x_seq fun K3 hK3 => ?_
 refine x_region ?_
 refine s_go (s_move) ?_
 try simp only [opv, n1, n2, n3, n4, Value.cells]
 refine s_go (s_eql_pointer Try.underlying48) ?_
 try simp only [opv, n1, n2, n3, n4, Value.cells]
 refine x_nil ?_
 refine hK3 _ _ ?_
 refine x_cond_f (h := ?_)
 refine x_skip ?_
 refine hK2 _ _ ?_
 refine x_seq fun K4 hK4 => ?_
 refine x_region ?_
 refine s_go (s_move) ?_
 try simp only [opv, n1, n2, n3, n4, Value.cells]
 refine s_go (s_nilCheck) ?_
 try simp only [opv, n1, n2, n3, n4, Value.cells]
 refine s_go (m_fieldAddr Try.underlying162 (hi := ti43)) ?_
 try simp only [opv, n1, n2, n3, n4, Value.cells, Nat.zero_add, Nat.add_zero, List.getElem_toArray, List.getElem_cons_zero, List.getElem_cons_succ]
 refine s_go (m_load_bx Try.underlying43 (hS := hS)) ?_
 try simp only [opv, n1, n2, n3, n4, Value.cells, List.getElem_toArray, List.getElem_cons_zero, List.getElem_cons_succ]
 refine s_go (s_len_sl Try.underlying43) ?_
 try simp only [opv, n1, n2, n3, n4, Value.cells]
 refine s_go (s_assign) ?_
 try simp only [opv, n1, n2, n3, n4, Value.cells]
 refine x_nil ?_
 refine hK4 _ _ ?_
 refine x_ret ?_
 refine r_tmp rfl ?_
 exact ⟨rfl, hS.ext_of⟩
theorem c_cDoneR (w0 : World) (q : Nat) (e : Int) (A : Option Addr) (n c : Nat) (hq : Rd w0 (some ⟨q, 0, none⟩) 1 2 [.int .i64 e, .slice A n c])  :
    CallR Try.prog 37 #[.pointer (some ⟨q, 0, none⟩)] w0 fun v w' => v = .int .i64 (if 0 < n then 3 else e) ∧ Ext w0 w' := by
 have hS := St.rd1 (S := NoB) hq
 refine c_enter (l := [.pointer (some ⟨q, 0, none⟩), undef, undef, undef, undef, undef, undef, undef]) Try.func37 rfl (by simp only [Try.ntmps37, List.size_toArray, List.length_cons, List.length_nil, Nat.reduceAdd, Nat.reduceSub, Array.replicate_succ, Array.replicate_zero, List.push_toArray, List.append_toArray, List.nil_append, List.cons_append]) ?_
 refine x_seq fun K1 hK1 => ?_
 refine x_region ?_
 refine s_go (s_assign) ?_
 try simp only [opv, n1, n2, n3, n4, Value.cells]
 refine x_nil ?_
 refine hK1 _ _ ?_
 refine x_seq fun K2 hK2 => ?_
 refine x_seq fun K3 hK3 => ?_
 refine x_region ?_
 refine s_go (s_move) ?_
 try simp only [opv, n1, n2, n3, n4, Value.cells]
 refine s_call en39 ?_
 try simp only [opv, n1, n2, n3, n4, Value.cells, List.map_toArray, List.map_cons, List.map_nil, List.append_toArray, List.cons_append, List.nil_append, Array.append_empty]
 refine CallR.mono (c_cLeftR _ q e A n c (hS.hasRd (by repeat (exact Has.head)))) ?_
 rintro _ w1 ⟨rfl, hE1⟩
 replace hS := hS.ext hE1
 try simp only [opv, n1, n2, n3, n4, Value.cells]
 refine s_go (s_gtr) ?_
 try simp only [opv, n1, n2, n3, n4, Value.cells]
 refine x_nil ?_
 refine hK3 _ _ ?_
 refine x_cond (ht := fun hc1 => ?_) (hf := fun hc1 => ?_)
 ·
  try simp only [decide_eq_true_eq, decide_eq_false_iff_not, Bool.not_eq_true', Bool.not_eq_false', Int.not_lt, Int.not_le, ne_eq, Decidable.not_not, bne_iff_ne, beq_iff_eq, not_true_eq_false, not_false_eq_true] at hc1
  have hL : (if 0 < n then (3 : Int) else e) = 3 := if_pos (by omega)
  refine x_seq fun K4 hK4 => ?_
  refine x_region ?_
  refine s_go (s_assign) ?_
  try simp only [opv, n1, n2, n3, n4, Value.cells]
  refine x_nil ?_
  refine hK4 _ _ ?_
  refine x_ret ?_
  refine r_tmp rfl ?_
  exact ⟨by rw [hL]; rfl, hS.ext_of⟩
 ·
  try simp only [decide_eq_true_eq, decide_eq_false_iff_not, Bool.not_eq_true', Bool.not_eq_false', Int.not_lt, Int.not_le, ne_eq, Decidable.not_not, bne_iff_ne, beq_iff_eq, not_true_eq_false, not_false_eq_true] at hc1
  have hL : (if 0 < n then (3 : Int) else e) = e := if_neg (by omega)
  refine x_skip ?_
  refine hK2 _ _ ?_
  refine x_seq fun K5 hK5 => ?_
  refine x_region ?_
  refine s_go (s_move) ?_
  try simp only [opv, n1, n2, n3, n4, Value.cells]
  refine s_call en35 ?_
  try simp only [opv, n1, n2, n3, n4, Value.cells, List.map_toArray, List.map_cons, List.map_nil, List.append_toArray, List.cons_append, List.nil_append, Array.append_empty]
  refine CallR.mono (c_cErrR _ q e A n c (hS.hasRd (by repeat (exact Has.head)))) ?_
  rintro _ w2 ⟨rfl, hE2⟩
  replace hS := hS.ext hE2
  try simp only [opv, n1, n2, n3, n4, Value.cells]
  refine s_go (s_assign) ?_
  try simp only [opv, n1, n2, n3, n4, Value.cells]
  refine x_nil ?_
  refine hK5 _ _ ?_
  refine x_ret ?_
  refine r_tmp rfl ?_
  exact ⟨by rw [hL]; rfl, hS.ext_of⟩
theorem c_frDec2 (w0 : World) (q : Nat) (x : Int) (hq : Rd w0 (some ⟨q, 0, none⟩) 1 1 [.int .u8 x])  :
    CallR Try.prog 155 #[.pointer (some ⟨q, 0, none⟩)] w0 fun v w' => v = .bool (decide (x ≤ 1)) ∧ Ext w0 w' := by
 have hS := St.rd1 (S := NoB) hq
 refine c_enter (l := [.pointer (some ⟨q, 0, none⟩), undef, undef, undef, undef]) Try.func155 rfl (by simp only [Try.ntmps155, List.size_toArray, List.length_cons, List.length_nil, Nat.reduceAdd, Nat.reduceSub, Array.replicate_succ, Array.replicate_zero, List.push_toArray, List.append_toArray, List.nil_append, List.cons_append]) ?_
 refine x_seq fun K1 hK1 => ?_
 refine x_region ?_
 refine s_go (s_assign) ?_
 try simp only [opv, n1, n2, n3, n4, Value.cells]
 refine x_nil ?_
 refine hK1 _ _ ?_
 refine x_seq fun K2 hK2 => ?_
 refine x_quiet (by kernel_rfl) (by kernel_rfl) hS ?_
 refine q_go (fun w hS => m_load_bx Try.underlying5 (hS := hS)) ?_
 try simp only [opv, n1, n2, n3, n4, Value.cells, List.getElem_toArray, List.getElem_cons_zero, List.getElem_cons_succ]
 apply q_call en152
 case H =>
   intro w hS
   try simp only [opv, n1, n2, n3, n4, List.map_toArray, List.map_cons, List.map_nil, List.append_toArray, List.cons_append, List.nil_append, Array.append_empty]
   refine CallR.mono (c_frTruth _ _) ?_
   rintro _ w1 ⟨rfl, hE⟩; exact ⟨rfl, hS.ext hE⟩
 try simp only [opv, n1, n2, n3, n4, Value.cells]
 rw [show boolN true = 1 from rfl]
 refine q_go (fun w hS => s_leq) ?_
 try simp only [opv, n1, n2, n3, n4, Value.cells]
 refine q_go (fun w hS => s_assign) ?_
 try simp only [opv, n1, n2, n3, n4, Value.cells]
 clear hS
 refine q_nil fun w1 hS => ?_
 refine hK2 _ _ ?_
 refine x_ret ?_
 refine r_tmp rfl ?_
 exact ⟨rfl, hS.ext_of⟩
theorem c_frDec3 (w0 : World) (q : Nat) (fm : Fm) (A : Option Addr) (cp : Nat) (hq : Rd w0 (some ⟨q, 0, none⟩) 1 9 (fmL fm A cp))  :
    CallR Try.prog 156 #[.pointer (some ⟨q, 0, none⟩)] w0 fun v w' => v = .int .i64 (checkF fm) ∧ Ext w0 w' := by
 have hS := St.rd1 (S := NoB) hq
 refine c_enter (l := [.pointer (some ⟨q, 0, none⟩), undef, undef, undef]) Try.func156 rfl (by simp only [Try.ntmps156, List.size_toArray, List.length_cons, List.length_nil, Nat.reduceAdd, Nat.reduceSub, Array.replicate_succ, Array.replicate_zero, List.push_toArray, List.append_toArray, List.nil_append, List.cons_append]) ?_
 refine x_seq fun K1 hK1 => ?_
 refine x_region ?_
 refine s_go (s_assign) ?_
 try simp only [opv, n1, n2, n3, n4, Value.cells]
 refine x_nil ?_
 refine hK1 _ _ ?_
 refine x_seq fun K2 hK2 => ?_
 refine x_region ?_
 refine s_go (m_loada_bx Try.underlying90 (hi := ti90) (hS := hS) (hfit := by (simp [fmL]; done))) ?_
 try simp only [opv, n1, n2, n3, n4, Value.cells, List.getElem_toArray, List.getElem_cons_zero, List.getElem_cons_succ]
 refine s_call en66 ?_
 try simp only [opv, n1, n2, n3, n4, Value.cells, List.map_toArray, List.map_cons, List.map_nil, List.append_toArray, List.cons_append, List.nil_append, Array.append_empty]
 refine CallR.mono (c_frCheck fm A cp _) ?_
 rintro _ w1 ⟨rfl, hE1⟩
 replace hS := hS.ext hE1
 try simp only [opv, n1, n2, n3, n4, Value.cells]
 refine s_go (s_assign) ?_
 try simp only [opv, n1, n2, n3, n4, Value.cells]
 refine x_nil ?_
 refine hK2 _ _ ?_
 refine x_ret ?_
 refine r_tmp rfl ?_
 exact ⟨rfl, hS.ext_of⟩
theorem c_frNum (w0 : World) (g : Nat) (e : Int) (A : Option Addr) (c : Nat) (xs : List Int) (hc : xs.length ≤ c) (hw : Byt xs) (hn : xs.length ≤ 1000000000) (b : Nat) (hM : St (OwnB [.obj g (.cells #[.int .i64 e, .slice A xs.length c] 162 (0, 0)), .rd A 1 xs.length (xs.map (Value.int .u8)), .obj b (.cells #[.pointer (some ⟨g, 0, none⟩)] 48 (0, 0))]) w0 w0 [.obj g (.cells #[.int .i64 e, .slice A xs.length c] 162 (0, 0)), .rd A 1 xs.length (xs.map (Value.int .u8)), .obj b (.cells #[.pointer (some ⟨g, 0, none⟩)] 48 (0, 0))]) :
    CallR Try.prog 151 #[.pointer (some ⟨b, 0, none⟩)] w0 fun v w' => v = .int .u32 ((numS 4294967295 e xs).1 : Int) ∧ CuSt w0 w' [.obj g (.cells #[.int .i64 e, .slice A xs.length c] 162 (0, 0)), .rd A 1 xs.length (xs.map (Value.int .u8)), .obj b (.cells #[.pointer (some ⟨g, 0, none⟩)] 48 (0, 0))] g (numS 4294967295 e xs).2.1 (numS 4294967295 e xs).2.2 [.obj b (.cells #[.pointer (some ⟨g, 0, none⟩)] 48 (0, 0))] := by
 have hS := hM
 have hnl := numS_le 4294967295 e xs
 refine c_enter (l := [.pointer (some ⟨b, 0, none⟩), undef, undef, undef, undef]) Try.func151 rfl (by simp only [Try.ntmps151, List.size_toArray, List.length_cons, List.length_nil, Nat.reduceAdd, Nat.reduceSub, Array.replicate_succ, Array.replicate_zero, List.push_toArray, List.append_toArray, List.nil_append, List.cons_append]) ?_
 refine x_seq fun K1 hK1 => ?_
 refine x_region ?_
 refine s_go (s_assign) ?_
 try simp only [opv, n1, n2, n3, n4, Value.cells]
 refine x_nil ?_
 refine hK1 _ _ ?_
 refine x_seq fun K2 hK2 => ?_
 refine x_region ?_
 refine s_go (m_load_obj Try.underlying48 (hS := hS)) ?_
 try simp only [opv, n1, n2, n3, n4, Value.cells, List.getElem_toArray, List.getElem_cons_zero, List.getElem_cons_succ]
 refine s_call en122 ?_
 try simp only [opv, n1, n2, n3, n4, Value.cells, List.map_toArray, List.map_cons, List.map_nil, List.append_toArray, List.cons_append, List.nil_append, Array.append_empty]
 refine CallR.mono (c_cNum _ g e A c xs hc hw hn 4294967295 (by omega) (hS.owns (by repeat (first | exact Spl.nil | (apply Spl.cons (by repeat (exact Del.head))))))) ?_
 rintro _ w1 ⟨rfl, A1, c1, hcp1, hR1, hC1⟩
 have hY1 := RdIn.trans hM hS (by repeat (first | exact Spl.nil | (apply Spl.cons (by repeat (exact Del.head))))) hR1 (by intro s hs q hb; simp only [List.mem_cons, List.not_mem_nil, or_false] at hs; rcases hs with rfl | rfl <;> first | (simp [Res.reads] at hb; done) | exact .inr ⟨_, List.mem_cons_of_mem _ (List.mem_cons_self ..), .inr hb⟩)
 replace hS := hS.frame (by repeat (first | exact Spl.nil | (apply Spl.cons (by repeat (exact Del.head))))) hC1 (by intro r hr b hb; simp only [List.mem_cons, List.not_mem_nil, or_false] at hr; rcases hr with rfl | rfl <;> first | (simp [Res.reads] at hb; done) | exact hR1 b hb)
 replace hR1 := hY1
 simp only [List.cons_append, List.nil_append] at hS
 try simp only [opv, n1, n2, n3, n4, Value.cells]
 refine s_go (s_conv Try.underlying40 Try.underlying25 (hc := by exact wr_u32 (by omega) (by omega))) ?_
 try simp only [opv, n1, n2, n3, n4, Value.cells]
 refine s_go (s_assign) ?_
 try simp only [opv, n1, n2, n3, n4, Value.cells]
 refine x_nil ?_
 refine hK2 _ _ ?_
 refine x_ret ?_
 refine r_tmp rfl ?_
 exact ⟨rfl, _, _, by assumption, by assumption, hS.sel (by repeat (first | exact Sel.nil | (refine Sel.cons (by repeat (exact Del.head)) ?_)))⟩
theorem c_frDecode (w0 : World) (A : Option Addr) (n c : Nat) (l : List Int) (hr : Rd w0 A 1 n (l.map (Value.int .u8))) (hl : l.length = n) (hw : Byt l) (hn : n ≤ 1000000) (hc : n ≤ c) :
    CallR Try.prog 60 #[.slice A n c] w0 fun v w' => ∃ (B : Option Addr) (k : Nat), v = .tuple #[.agg (FA (decF l) B k), .int .i64 (decE l)] ∧ St NoB w0 w' [.vec B k 5 1 (decF l).d.length ((decF l).d.map (Value.int .u8))] := by
 have hS := St.rd1 (S := NoB) hr
 refine c_enter (l := [.slice A n c, undef, undef, undef, undef, undef, undef, undef, undef, undef, undef, undef, undef, undef, undef, undef, undef, undef, undef, undef, undef, undef, undef, undef, undef, undef, undef, undef, undef, undef, undef, undef, undef, undef, undef, undef, undef, undef, undef, undef, undef, undef, undef, undef, undef, undef, undef, undef, undef, undef, undef, undef, undef, undef, undef, undef, undef, undef, undef, undef, undef, undef, undef, undef, undef, undef, undef]) Try.func60 rfl (by simp only [Try.ntmps60, List.size_toArray, List.length_cons, List.length_nil, Nat.reduceAdd, Nat.reduceSub, Array.replicate_succ, Array.replicate_zero, List.push_toArray, List.append_toArray, List.nil_append, List.cons_append]) ?_
 refine x_seq fun K1 hK1 => ?_
 refine x_region ?_
 refine m_alloc ti90 hS (fun w1 g1 hS => ?_)
 try simp only [opv, n1, n2, n3, n4, Value.cells, Array.toArray_toList] at hS ⊢
 obtain ⟨gr, hgr⟩ : ∃ z, z = g1 := ⟨_, rfl⟩
 rw [← hgr] at hS ⊢
 replace hS : St NoB w0 w1 (.obj gr (.cells #[.int .u8 0, .int .u8 0, .int .u8 0, .int .u32 0, .int .u32 0, .int .u8 0, .int .u32 0, .bool false, .slice none 0 0] 90 (0, 0)) :: _) := hS
 refine s_go (s_assign) ?_
 try simp only [opv, n1, n2, n3, n4, Value.cells]
 refine x_nil ?_
 refine hK1 _ _ ?_
 refine x_seq fun K2 hK2 => ?_
 refine x_region ?_
 refine s_go (s_move) ?_
 try simp only [opv, n1, n2, n3, n4, Value.cells]
 refine s_call en150 ?_
 try simp only [opv, n1, n2, n3, n4, Value.cells, List.map_toArray, List.map_cons, List.map_nil, List.append_toArray, List.cons_append, List.nil_append, Array.append_empty]
 refine CallR.mono (c_crcOpen _ A n c l (hS.hasRd (by repeat (first | exact Has.head | apply Has.tail))) hl hw (by omega) hc) ?_
 rintro _ w2 ⟨A1, m1, c1, rfl, hm1, hC2⟩
 replace hS := hS.call hC2
 simp only [List.cons_append, List.nil_append] at hS
 try simp only [opv, n1, n2, n3, n4, Value.cells]
 refine s_go (s_move) ?_
 try simp only [opv, n1, n2, n3, n4, Value.cells]
 refine s_go (s_extract (hv := rfl)) ?_
 try simp only [List.getElem_toArray, List.getElem_cons_zero, List.getElem_cons_succ]
 try simp only [opv, n1, n2, n3, n4, Value.cells]
 refine s_go (s_extract (hv := rfl)) ?_
 try simp only [List.getElem_toArray, List.getElem_cons_zero, List.getElem_cons_succ]
 try simp only [opv, n1, n2, n3, n4, Value.cells]
 refine s_go (s_assign) ?_
 try simp only [opv, n1, n2, n3, n4, Value.cells]
 refine s_go (s_assign) ?_
 try simp only [opv, n1, n2, n3, n4, Value.cells]
 refine x_nil ?_
 refine hK2 _ _ ?_
 refine x_seq fun K3 hK3 => ?_
 refine x_seq fun K4 hK4 => ?_
 refine x_region ?_
 refine s_go (s_move) ?_
 try simp only [opv, n1, n2, n3, n4, Value.cells]
 refine s_go (s_neq) ?_
 try simp only [opv, n1, n2, n3, n4, Value.cells]
 refine x_nil ?_
 refine hK4 _ _ ?_
 refine x_cond (ht := fun hc1 => ?_) (hf := fun hc1 => ?_)
 ·
  try simp only [decide_eq_true_eq, decide_eq_false_iff_not, Bool.not_eq_true', Bool.not_eq_false', Int.not_lt, Int.not_le, ne_eq, Decidable.not_not, bne_iff_ne, beq_iff_eq, not_true_eq_false, not_false_eq_true] at hc1
  have hO : ¬ openE l = 0 := hc1
  have hdE : decE l = openE l := if_neg hO
  have hdF : decF l = fm0 := if_neg hO
  refine x_seq fun K5 hK5 => ?_
  refine x_region ?_
  refine s_go (s_build_struct (cells := #[.int .u8 0, .int .u8 0, .int .u8 0, .int .u32 0, .int .u32 0, .int .u8 0, .int .u32 0, .bool false, .slice none 0 0]) Try.underlying90 ti90 bp90 (hc := by simp only [List.map_toArray, List.map_cons, List.map_nil, opv, n1, n2, n3, n4, Value.cells, List.toList_toArray]; (repeat (refine fill_cons rfl rfl (Nat.le_of_ble_eq_true rfl) ?_)); rfl)) ?_
  try simp only [opv, n1, n2, n3, n4, Value.cells]
  refine s_go (s_move) ?_
  try simp only [opv, n1, n2, n3, n4, Value.cells]
  refine m_store_obj ti90 (hS := hS) (h := fun w3 hS => ?_)
  try simp only [opv, n1, n2, n3, n4, Value.cells, Array.toArray_toList] at hS ⊢
  refine s_go (s_assign) ?_
  try simp only [opv, n1, n2, n3, n4, Value.cells]
  refine x_nil ?_
  refine hK5 _ _ ?_
  refine x_ret ?_
  refine r_cell_tmp_agg rfl Try.underlying90 ti90 (hS := hS) (hR := ?_)
  replace hS := hS.nil_vec 5 1
  exact ⟨none, 0, by rw [hdE, hdF]; rfl, by rw [hdF]; exact hS.sel (by repeat (first | exact Sel.nil | (refine Sel.cons (by repeat (exact Del.head)) ?_)))⟩
 ·
  try simp only [decide_eq_true_eq, decide_eq_false_iff_not, Bool.not_eq_true', Bool.not_eq_false', Int.not_lt, Int.not_le, ne_eq, Decidable.not_not, bne_iff_ne, beq_iff_eq, not_true_eq_false, not_false_eq_true] at hc1
  have hO : openE l = 0 := by simpa using hc1
  obtain ⟨d, hod⟩ : ∃ d, openD l = d := ⟨_, rfl⟩
  have hdb : Byt d := by rw [← hod]; exact openD_byt hw
  have hdl : d.length ≤ n := by rw [← hod, ← hl]; exact openD_le l
  have hB := frB hdb
  rw [hod] at hS hm1
  subst hm1
  have hE1 : decE l = frE d := by rw [decE, if_pos hO, hod]
  have hF1 : decF l = frF d := by rw [decF, if_pos hO, hod]
  refine x_skip ?_
  refine hK3 _ _ ?_
  refine x_seq fun K6 hK6 => ?_
  refine x_region ?_
  refine s_go (s_move) ?_
  try simp only [opv, n1, n2, n3, n4, Value.cells]
  refine s_call en31 ?_
  try simp only [opv, n1, n2, n3, n4, Value.cells, List.map_toArray, List.map_cons, List.map_nil, List.append_toArray, List.cons_append, List.nil_append, Array.append_empty]
  refine CallR.mono (c_cFrom _ A1 c1 d (hS.vecRd (by repeat (exact Has.head))) (by omega)) ?_
  rintro _ w4 ⟨q, Aq, cq, rfl, hcq, hC4⟩
  replace hS := hS.call hC4
  simp only [List.cons_append, List.nil_append] at hS
  replace hS := hS.vec_rd (by exact Upd.tail Upd.head)
  try simp only [opv, n1, n2, n3, n4, Value.cells]
  refine m_alloc ti48 hS (fun w5 g5 hS => ?_)
  try simp only [opv, n1, n2, n3, n4, Value.cells, Array.toArray_toList] at hS ⊢
  obtain ⟨gp, hgp⟩ : ∃ z, z = g5 := ⟨_, rfl⟩
  rw [← hgp] at hS ⊢
  refine m_store_obj ti48 (hS := hS) (h := fun w6 hS => ?_)
  try simp only [opv, n1, n2, n3, n4, Value.cells, Array.toArray_toList] at hS ⊢
  refine x_nil ?_
  refine hK6 _ _ ?_
  refine x_seq fun K7 hK7 => ?_
  refine x_region ?_
  refine s_go (m_load_obj Try.underlying48 (hS := hS)) ?_
  try simp only [opv, n1, n2, n3, n4, Value.cells, List.getElem_toArray, List.getElem_cons_zero, List.getElem_cons_succ]
  refine s_go (s_makeFunc) ?_
  try simp only [opv, n1, n2, n3, n4, Value.cells, List.map_toArray, List.map_cons, List.map_nil]
  refine s_go (s_assign) ?_
  try simp only [opv, n1, n2, n3, n4, Value.cells]
  refine x_nil ?_
  refine hK7 _ _ ?_
  refine x_seq fun K8 hK8 => ?_
  refine x_region ?_
  refine s_go (s_makeFunc) ?_
  try simp only [opv, n1, n2, n3, n4, Value.cells, List.map_toArray, List.map_cons, List.map_nil]
  refine s_go (s_assign) ?_
  try simp only [opv, n1, n2, n3, n4, Value.cells]
  refine x_nil ?_
  refine hK8 _ _ ?_
  refine x_seq fun K9 hK9 => ?_
  refine x_region ?_
  refine s_go (s_move) ?_
  try simp only [opv, n1, n2, n3, n4, Value.cells]
  refine s_callm (hv := rfl) en123 ?_
  try simp only [opv, n1, n2, n3, n4, Value.cells, List.map_toArray, List.map_cons, List.map_nil, List.append_toArray, List.cons_append, List.nil_append, Array.append_empty]
  refine CallR.mono (c_cByte _ q (0) Aq cq (d) hcq (hdb) (by omega)  (hS.owns (by repeat (first | exact Spl.nil | (apply Spl.cons (by repeat (first | exact Del.head | apply Del.tail))))))) ?_
  rintro _ w7 ⟨rfl, Ac1, cc1, hcp1, hR7, hC7⟩
  replace hS := hS.frame (by repeat (first | exact Spl.nil | (apply Spl.cons (by repeat (first | exact Del.head | apply Del.tail))))) hC7 (by intro r hr b hb; simp only [List.mem_cons, List.not_mem_nil, or_false] at hr; rcases hr with rfl | rfl <;> first | (simp [Res.reads] at hb; done) | exact hR7 b hb)
  simp only [List.cons_append, List.nil_append] at hS
  replace hcp1 : ((frSt d).s1.2).length ≤ cc1 := hcp1
  replace hS : St NoB w0 w7 (.obj q (.cells #[.int .i64 (frSt d).s1.1, .slice Ac1 ((frSt d).s1.2).length cc1] 162 (0, 0)) :: .rd Ac1 1 ((frSt d).s1.2).length (((frSt d).s1.2).map (Value.int .u8)) :: _) := hS
  try simp only [opv, n1, n2, n3, n4, Value.cells]
  rw [show (oneS 0 d).1 = valB (0, d) from rfl]
  refine s_go (s_move) ?_
  try simp only [opv, n1, n2, n3, n4, Value.cells]
  refine s_callm (hv := rfl) en123 ?_
  try simp only [opv, n1, n2, n3, n4, Value.cells, List.map_toArray, List.map_cons, List.map_nil, List.append_toArray, List.cons_append, List.nil_append, Array.append_empty]
  refine CallR.mono (c_cByte _ q ((frSt d).s1.1) Ac1 cc1 ((frSt d).s1.2) hcp1 (hB.b1) (by have := hB.l1; omega)  (hS.owns (by repeat (first | exact Spl.nil | (apply Spl.cons (by repeat (exact Del.head))))))) ?_
  rintro _ w8 ⟨rfl, Ac2, cc2, hcp2, hR8, hC8⟩
  replace hS := hS.frame (by repeat (first | exact Spl.nil | (apply Spl.cons (by repeat (exact Del.head))))) hC8 (by intro r hr b hb; simp only [List.mem_cons, List.not_mem_nil, or_false] at hr; rcases hr with rfl | rfl <;> first | (simp [Res.reads] at hb; done) | exact hR8 b hb)
  simp only [List.cons_append, List.nil_append] at hS
  replace hcp2 : ((frSt d).s2.2).length ≤ cc2 := hcp2
  replace hS : St NoB w0 w8 (.obj q (.cells #[.int .i64 (frSt d).s2.1, .slice Ac2 ((frSt d).s2.2).length cc2] 162 (0, 0)) :: .rd Ac2 1 ((frSt d).s2.2).length (((frSt d).s2.2).map (Value.int .u8)) :: _) := hS
  try simp only [opv, n1, n2, n3, n4, Value.cells]
  rw [show (oneS (frSt d).s1.1 (frSt d).s1.2).1 = valB (frSt d).s1 from rfl]
  refine s_go (s_move) ?_
  try simp only [opv, n1, n2, n3, n4, Value.cells]
  refine s_callm (hv := rfl) en123 ?_
  try simp only [opv, n1, n2, n3, n4, Value.cells, List.map_toArray, List.map_cons, List.map_nil, List.append_toArray, List.cons_append, List.nil_append, Array.append_empty]
  refine CallR.mono (c_cByte _ q ((frSt d).s2.1) Ac2 cc2 ((frSt d).s2.2) hcp2 (hB.b2) (by have := hB.l2; omega)  (hS.owns (by repeat (first | exact Spl.nil | (apply Spl.cons (by repeat (exact Del.head))))))) ?_
  rintro _ w9 ⟨rfl, Ac3, cc3, hcp3, hR9, hC9⟩
  replace hS := hS.frame (by repeat (first | exact Spl.nil | (apply Spl.cons (by repeat (exact Del.head))))) hC9 (by intro r hr b hb; simp only [List.mem_cons, List.not_mem_nil, or_false] at hr; rcases hr with rfl | rfl <;> first | (simp [Res.reads] at hb; done) | exact hR9 b hb)
  simp only [List.cons_append, List.nil_append] at hS
  replace hcp3 : ((frSt d).s3.2).length ≤ cc3 := hcp3
  replace hS : St NoB w0 w9 (.obj q (.cells #[.int .i64 (frSt d).s3.1, .slice Ac3 ((frSt d).s3.2).length cc3] 162 (0, 0)) :: .rd Ac3 1 ((frSt d).s3.2).length (((frSt d).s3.2).map (Value.int .u8)) :: _) := hS
  try simp only [opv, n1, n2, n3, n4, Value.cells]
  rw [show (oneS (frSt d).s2.1 (frSt d).s2.2).1 = valB (frSt d).s2 from rfl]
  refine s_go (s_build_struct (cells := #[_, _, _, .int .u32 0, .int .u32 0, .int .u8 0, .int .u32 0, .bool false, .slice none 0 0]) Try.underlying90 ti90 bp90 (hc := by simp only [List.map_toArray, List.map_cons, List.map_nil, opv, n1, n2, n3, n4, Value.cells, List.toList_toArray]; (repeat (refine fill_cons rfl rfl (Nat.le_of_ble_eq_true rfl) ?_)); rfl)) ?_
  try simp only [opv, n1, n2, n3, n4, Value.cells]
  refine m_alloc ti90 hS (fun w10 g10 hS => ?_)
  try simp only [opv, n1, n2, n3, n4, Value.cells, Array.toArray_toList] at hS ⊢
  obtain ⟨g9, hg9⟩ : ∃ z, z = g10 := ⟨_, rfl⟩
  rw [← hg9] at hS ⊢
  refine m_store_obj ti90 (hS := hS) (h := fun w11 hS => ?_)
  try simp only [opv, n1, n2, n3, n4, Value.cells, Array.toArray_toList] at hS ⊢
  refine x_nil ?_
  refine hK9 _ _ ?_
  refine x_seq fun K10 hK10 => ?_
  refine x_region ?_
  refine s_go (s_move) ?_
  try simp only [opv, n1, n2, n3, n4, Value.cells]
  refine s_callv (hv := rfl) en151 ?_
  try simp only [opv, n1, n2, n3, n4, Value.cells, List.map_toArray, List.map_cons, List.map_nil, List.append_toArray, List.cons_append, List.nil_append, Array.append_empty]
  refine CallR.mono (c_frNum _ q ((frSt d).s3.1) Ac3 cc3 ((frSt d).s3.2) hcp3 (hB.b3) (by have := hB.l3; omega) gp (hS.owns (by repeat (first | exact Spl.nil | (apply Spl.cons (by repeat (first | exact Del.head | apply Del.tail))))))) ?_
  rintro _ w12 ⟨rfl, Ac4, cc4, hcp4, hR12, hC12⟩
  replace hS := hS.frame (by repeat (first | exact Spl.nil | (apply Spl.cons (by repeat (first | exact Del.head | apply Del.tail))))) hC12 (by intro r hr b hb; simp only [List.mem_cons, List.not_mem_nil, or_false] at hr; rcases hr with rfl | rfl | rfl <;> first | (simp [Res.reads] at hb; done) | exact hR12 b hb)
  simp only [List.cons_append, List.nil_append] at hS
  replace hcp4 : ((frSt d).s4.2).length ≤ cc4 := hcp4
  replace hS : St NoB w0 w12 (.obj q (.cells #[.int .i64 (frSt d).s4.1, .slice Ac4 ((frSt d).s4.2).length cc4] 162 (0, 0)) :: .rd Ac4 1 ((frSt d).s4.2).length (((frSt d).s4.2).map (Value.int .u8)) :: _) := hS
  try simp only [opv, n1, n2, n3, n4, Value.cells]
  rw [show (numS 4294967295 (frSt d).s3.1 (frSt d).s3.2).1 = valN (frSt d).s3 from rfl]
  refine s_go (s_move) ?_
  try simp only [opv, n1, n2, n3, n4, Value.cells]
  refine s_callv (hv := rfl) en151 ?_
  try simp only [opv, n1, n2, n3, n4, Value.cells, List.map_toArray, List.map_cons, List.map_nil, List.append_toArray, List.cons_append, List.nil_append, Array.append_empty]
  refine CallR.mono (c_frNum _ q ((frSt d).s4.1) Ac4 cc4 ((frSt d).s4.2) hcp4 (hB.b4) (by have := hB.l4; omega) gp (hS.owns (by repeat (first | exact Spl.nil | (apply Spl.cons (by repeat (exact Del.head))))))) ?_
  rintro _ w13 ⟨rfl, Ac5, cc5, hcp5, hR13, hC13⟩
  replace hS := hS.frame (by repeat (first | exact Spl.nil | (apply Spl.cons (by repeat (exact Del.head))))) hC13 (by intro r hr b hb; simp only [List.mem_cons, List.not_mem_nil, or_false] at hr; rcases hr with rfl | rfl | rfl <;> first | (simp [Res.reads] at hb; done) | exact hR13 b hb)
  simp only [List.cons_append, List.nil_append] at hS
  replace hcp5 : ((frSt d).s5.2).length ≤ cc5 := hcp5
  replace hS : St NoB w0 w13 (.obj q (.cells #[.int .i64 (frSt d).s5.1, .slice Ac5 ((frSt d).s5.2).length cc5] 162 (0, 0)) :: .rd Ac5 1 ((frSt d).s5.2).length (((frSt d).s5.2).map (Value.int .u8)) :: _) := hS
  try simp only [opv, n1, n2, n3, n4, Value.cells]
  rw [show (numS 4294967295 (frSt d).s4.1 (frSt d).s4.2).1 = valN (frSt d).s4 from rfl]
  refine s_go (m_fieldAddr Try.underlying90 (hi := ti25)) ?_
  try simp only [opv, n1, n2, n3, n4, Value.cells, Nat.zero_add, Nat.add_zero, List.getElem_toArray, List.getElem_cons_zero, List.getElem_cons_succ]
  refine m_store_obj ti25 (hS := hS) (h := fun w14 hS => ?_)
  try simp only [opv, n1, n2, n3, n4, Value.cells, Array.toArray_toList] at hS ⊢
  refine s_go (m_fieldAddr Try.underlying90 (hi := ti25)) ?_
  try simp only [opv, n1, n2, n3, n4, Value.cells, Nat.zero_add, Nat.add_zero, List.getElem_toArray, List.getElem_cons_zero, List.getElem_cons_succ]
  refine m_store_obj ti25 (hS := hS) (h := fun w15 hS => ?_)
  try simp only [opv, n1, n2, n3, n4, Value.cells, Array.toArray_toList] at hS ⊢
  refine x_nil ?_
  refine hK10 _ _ ?_
  refine x_seq fun K11 hK11 => ?_
  refine x_region ?_
  refine s_go (s_move) ?_
  try simp only [opv, n1, n2, n3, n4, Value.cells]
  refine s_callm (hv := rfl) en123 ?_
  try simp only [opv, n1, n2, n3, n4, Value.cells, List.map_toArray, List.map_cons, List.map_nil, List.append_toArray, List.cons_append, List.nil_append, Array.append_empty]
  refine CallR.mono (c_cByte _ q ((frSt d).s5.1) Ac5 cc5 ((frSt d).s5.2) hcp5 (hB.b5) (by have := hB.l5; omega)  (hS.owns (by repeat (first | exact Spl.nil | (apply Spl.cons (by repeat (exact Del.head))))))) ?_
  rintro _ w16 ⟨rfl, Ac6, cc6, hcp6, hR16, hC16⟩
  replace hS := hS.frame (by repeat (first | exact Spl.nil | (apply Spl.cons (by repeat (exact Del.head))))) hC16 (by intro r hr b hb; simp only [List.mem_cons, List.not_mem_nil, or_false] at hr; rcases hr with rfl | rfl <;> first | (simp [Res.reads] at hb; done) | exact hR16 b hb)
  simp only [List.cons_append, List.nil_append] at hS
  replace hcp6 : ((frSt d).s6.2).length ≤ cc6 := hcp6
  replace hS : St NoB w0 w16 (.obj q (.cells #[.int .i64 (frSt d).s6.1, .slice Ac6 ((frSt d).s6.2).length cc6] 162 (0, 0)) :: .rd Ac6 1 ((frSt d).s6.2).length (((frSt d).s6.2).map (Value.int .u8)) :: _) := hS
  try simp only [opv, n1, n2, n3, n4, Value.cells]
  rw [show (oneS (frSt d).s5.1 (frSt d).s5.2).1 = valB (frSt d).s5 from rfl]
  refine s_go (s_move) ?_
  try simp only [opv, n1, n2, n3, n4, Value.cells]
  refine s_callv (hv := rfl) en151 ?_
  try simp only [opv, n1, n2, n3, n4, Value.cells, List.map_toArray, List.map_cons, List.map_nil, List.append_toArray, List.cons_append, List.nil_append, Array.append_empty]
  refine CallR.mono (c_frNum _ q ((frSt d).s6.1) Ac6 cc6 ((frSt d).s6.2) hcp6 (hB.b6) (by have := hB.l6; omega) gp (hS.owns (by repeat (first | exact Spl.nil | (apply Spl.cons (by repeat (exact Del.head))))))) ?_
  rintro _ w17 ⟨rfl, Ac7, cc7, hcp7, hR17, hC17⟩
  replace hS := hS.frame (by repeat (first | exact Spl.nil | (apply Spl.cons (by repeat (exact Del.head))))) hC17 (by intro r hr b hb; simp only [List.mem_cons, List.not_mem_nil, or_false] at hr; rcases hr with rfl | rfl | rfl <;> first | (simp [Res.reads] at hb; done) | exact hR17 b hb)
  simp only [List.cons_append, List.nil_append] at hS
  replace hcp7 : ((frSt d).s7.2).length ≤ cc7 := hcp7
  replace hS : St NoB w0 w17 (.obj q (.cells #[.int .i64 (frSt d).s7.1, .slice Ac7 ((frSt d).s7.2).length cc7] 162 (0, 0)) :: .rd Ac7 1 ((frSt d).s7.2).length (((frSt d).s7.2).map (Value.int .u8)) :: _) := hS
  try simp only [opv, n1, n2, n3, n4, Value.cells]
  rw [show (numS 4294967295 (frSt d).s6.1 (frSt d).s6.2).1 = valN (frSt d).s6 from rfl]
  refine s_go (m_fieldAddr Try.underlying90 (hi := ti5)) ?_
  try simp only [opv, n1, n2, n3, n4, Value.cells, Nat.zero_add, Nat.add_zero, List.getElem_toArray, List.getElem_cons_zero, List.getElem_cons_succ]
  refine m_store_obj ti5 (hS := hS) (h := fun w18 hS => ?_)
  try simp only [opv, n1, n2, n3, n4, Value.cells, Array.toArray_toList] at hS ⊢
  refine s_go (m_fieldAddr Try.underlying90 (hi := ti25)) ?_
  try simp only [opv, n1, n2, n3, n4, Value.cells, Nat.zero_add, Nat.add_zero, List.getElem_toArray, List.getElem_cons_zero, List.getElem_cons_succ]
  refine m_store_obj ti25 (hS := hS) (h := fun w19 hS => ?_)
  try simp only [opv, n1, n2, n3, n4, Value.cells, Array.toArray_toList] at hS ⊢
  refine x_nil ?_
  refine hK11 _ _ ?_
  refine x_seq fun K12 hK12 => ?_
  refine x_region ?_
  refine s_go (s_move) ?_
  try simp only [opv, n1, n2, n3, n4, Value.cells]
  refine s_callm (hv := rfl) en123 ?_
  try simp only [opv, n1, n2, n3, n4, Value.cells, List.map_toArray, List.map_cons, List.map_nil, List.append_toArray, List.cons_append, List.nil_append, Array.append_empty]
  refine CallR.mono (c_cByte _ q ((frSt d).s7.1) Ac7 cc7 ((frSt d).s7.2) hcp7 (hB.b7) (by have := hB.l7; omega)  (hS.owns (by repeat (first | exact Spl.nil | (apply Spl.cons (by repeat (exact Del.head))))))) ?_
  rintro _ w20 ⟨rfl, Ac8, cc8, hcp8, hR20, hC20⟩
  replace hS := hS.frame (by repeat (first | exact Spl.nil | (apply Spl.cons (by repeat (exact Del.head))))) hC20 (by intro r hr b hb; simp only [List.mem_cons, List.not_mem_nil, or_false] at hr; rcases hr with rfl | rfl <;> first | (simp [Res.reads] at hb; done) | exact hR20 b hb)
  simp only [List.cons_append, List.nil_append] at hS
  replace hcp8 : ((frSt d).s8.2).length ≤ cc8 := hcp8
  replace hS : St NoB w0 w20 (.obj q (.cells #[.int .i64 (frSt d).s8.1, .slice Ac8 ((frSt d).s8.2).length cc8] 162 (0, 0)) :: .rd Ac8 1 ((frSt d).s8.2).length (((frSt d).s8.2).map (Value.int .u8)) :: _) := hS
  try simp only [opv, n1, n2, n3, n4, Value.cells]
  rw [show (oneS (frSt d).s7.1 (frSt d).s7.2).1 = valB (frSt d).s7 from rfl]
  refine m_alloc ti5 hS (fun w21 g21 hS => ?_)
  try simp only [opv, n1, n2, n3, n4, Value.cells, Array.toArray_toList] at hS ⊢
  obtain ⟨g10, hg10⟩ : ∃ z, z = g21 := ⟨_, rfl⟩
  rw [← hg10] at hS ⊢
  refine m_store_obj ti5 (hS := hS) (h := fun w22 hS => ?_)
  try simp only [opv, n1, n2, n3, n4, Value.cells, Array.toArray_toList] at hS ⊢
  refine x_nil ?_
  refine hK12 _ _ ?_
  refine x_seq fun K13 hK13 => ?_
  refine x_mixed_c (Lc := [.obj g10 (.cells #[.int .u8 (valB (frSt d).s7)] 5 (0, 0)), .obj gp (.cells #[.pointer (some ⟨q, 0, none⟩)] 48 (0, 0))]) [] 0 [46, 47, 48, 49, 50, 51, 52] (fun f w => ∃ (Ac9 : Option Addr) (cc9 : Nat) (B9 : Option Addr) (k9 : Nat), (frSt d).s9.2.length ≤ cc9 ∧ St NoB w0 w [.obj q (.cells #[.int .i64 (frSt d).s9.1, .slice Ac9 ((frSt d).s9.2).length cc9] 162 (0, 0)), .obj g9 (.cells (FA (frRaw d) B9 k9) 90 (0, 0)), .vec B9 k9 5 1 (frRaw d).d.length ((frRaw d).d.map (Value.int .u8)), .obj g10 (.cells #[.int .u8 (valB (frSt d).s7)] 5 (0, 0)), .obj gp (.cells #[.pointer (some ⟨q, 0, none⟩)] 48 (0, 0)), .obj gr (.cells #[.int .u8 0, .int .u8 0, .int .u8 0, .int .u32 0, .int .u32 0, .int .u8 0, .int .u32 0, .bool false, .slice none 0 0] 90 (0, 0))]) (by kernel_rfl) (by kernel_rfl) (by kernel_rfl) (by decide) hS (fun w23 hS => ?mixpre1101) ?mixrest1101
  case mixpre1101 =>
   refine p_nil ?_
   simp only [List.length_cons, List.length_nil, Nat.reduceAdd, Nat.reduceSub]
   refine any_go (i := 0) (by rfl) (by decide +kernel) (by decide +kernel) noLate_nil (go_yields w_none (fun w hS => m_load_obj Try.underlying5 (hS := hS))) ?_
   try simp only [opv, n1, n2, n3, n4, Value.cells, List.getElem_toArray, List.getElem_cons_zero, List.getElem_cons_succ]
   apply any_go (i := 1) (by rfl) (by decide +kernel) (by decide +kernel) noLate_nil (call_yields w_none en152 ?H1) ?K1
   case H1 =>
     intro w hS
     try simp only [opv, n1, n2, n3, n4, List.map_toArray, List.map_cons, List.map_nil, List.append_toArray, List.cons_append, List.nil_append, Array.append_empty]
     refine CallR.mono (c_frTruth _ _) ?_
     rintro _ w1 ⟨rfl, hE⟩; exact ⟨rfl, hE⟩
   try simp only [opv, n1, n2, n3, n4, Value.cells]
   rw [show boolN true = 1 from rfl]
   refine any_go (i := 2) (by rfl) (by decide +kernel) (by decide +kernel) noLate_nil (go_yields w_none (fun w hS => s_eql)) ?_
   try simp only [opv, n1, n2, n3, n4, Value.cells]
   refine any_go (i := 3) (by rfl) (by decide +kernel) (by decide +kernel) noLate_nil (go_yields w_none (fun w hS => m_load_obj Try.underlying48 (hS := hS))) ?_
   try simp only [opv, n1, n2, n3, n4, Value.cells, List.getElem_toArray, List.getElem_cons_zero, List.getElem_cons_succ]
   refine any_go (i := 5) (by rfl) (by decide +kernel) (by decide +kernel) noLate_nil (go_yields w_none (fun w hS => m_fieldAddr Try.underlying90 (hi := ti4))) ?_
   try simp only [opv, n1, n2, n3, n4, Value.cells, Nat.zero_add, Nat.add_zero, List.getElem_toArray, List.getElem_cons_zero, List.getElem_cons_succ]
   refine any_step [4] (by kernel_rfl) (by decide) (fun w24 hE => ⟨fun _ => (hS.ext hE).sel (by repeat (first | exact Sel.nil | (refine Sel.cons (by repeat (first | exact Del.head | apply Del.tail)) ?_))), ?_⟩)
   replace hS := hS.ext hE
   intro i hi
   simp only [List.mem_cons, List.not_mem_nil, or_false] at hi
   subst hi
   ·
    refine any_op (by rfl) ?_
    refine s_call en125 ?_
    try simp only [opv, n1, n2, n3, n4, Value.cells, List.map_toArray, List.map_cons, List.map_nil, List.append_toArray, List.cons_append, List.nil_append, Array.append_empty]
    refine CallR.mono (c_cBytes _ q ((frSt d).s8.1) Ac8 cc8 ((frSt d).s8.2) hcp8 (hB.b8) (by have := hB.l8; omega) 65536 (by omega) (hS.owns (by repeat (first | exact Spl.nil | (apply Spl.cons (by repeat (first | exact Del.head | apply Del.tail))))))) ?_
    rintro _ w25 ⟨B9, k9, rfl, Ac9, cc9, hcp9, hR25, hC25⟩
    replace hS := hS.frame (by repeat (first | exact Spl.nil | (apply Spl.cons (by repeat (first | exact Del.head | apply Del.tail))))) hC25 (by intro r hr b hb; simp only [List.mem_cons, List.not_mem_nil, or_false] at hr; rcases hr with rfl | rfl | rfl <;> first | (simp [Res.reads] at hb; done) | exact hR25 b hb)
    simp only [List.cons_append, List.nil_append] at hS
    replace hcp9 : ((frSt d).s9.2).length ≤ cc9 := hcp9
    replace hS : St NoB w0 w25 (.obj q (.cells #[.int .i64 (frSt d).s9.1, .slice Ac9 ((frSt d).s9.2).length cc9] 162 (0, 0)) :: .rd Ac9 1 ((frSt d).s9.2).length (((frSt d).s9.2).map (Value.int .u8)) :: _) := hS
    try simp only [opv, n1, n2, n3, n4, Value.cells]
    refine x_nil ?_
    refine any_step [6] (by kernel_rfl) (by decide) (fun w26 hE => ⟨fun _ => (hS.ext hE).sel (by repeat (first | exact Sel.nil | (refine Sel.cons (by repeat (first | exact Del.head | apply Del.tail)) ?_))), ?_⟩)
    replace hS := hS.ext hE
    intro i hi
    simp only [List.mem_cons, List.not_mem_nil, or_false] at hi
    subst hi
    ·
     refine any_op (by rfl) ?_
     refine m_store_obj ti4 (hS := hS) (h := fun w27 hS => ?_)
     try simp only [opv, n1, n2, n3, n4, Value.cells, Array.toArray_toList] at hS ⊢
     refine x_nil ?_
     refine any_go (i := 7) (by rfl) (by decide +kernel) (by decide +kernel) noLate_nil (go_yields w_none (fun w hS => m_fieldAddr Try.underlying90 (hi := ti43))) ?_
     try simp only [opv, n1, n2, n3, n4, Value.cells, Nat.zero_add, Nat.add_zero, List.getElem_toArray, List.getElem_cons_zero, List.getElem_cons_succ]
     refine any_step [8] (by kernel_rfl) (by decide) (fun w28 hE => ⟨fun _ => (hS.ext hE).sel (by repeat (first | exact Sel.nil | (refine Sel.cons (by repeat (first | exact Del.head | apply Del.tail)) ?_))), ?_⟩)
     replace hS := hS.ext hE
     intro i hi
     simp only [List.mem_cons, List.not_mem_nil, or_false] at hi
     subst hi
     ·
      refine any_op (by rfl) ?_
      refine m_store_obj ti43 (hS := hS) (h := fun w29 hS => ?_)
      try simp only [opv, n1, n2, n3, n4, Value.cells, Array.toArray_toList] at hS ⊢
      refine x_nil ?_
      refine any_nil (by kernel_rfl) (fun w30 hE => ?_)
      replace hS := hS.ext hE
      refine ⟨fun _ => hS.sel (by repeat (first | exact Sel.nil | (refine Sel.cons (by repeat (first | exact Del.head | apply Del.tail)) ?_))), ?_⟩
      refine mix_leaf (by simp only [clob, List.foldl, n1, n2, n3, n4]) ?_
      try simp only [n1, n2]
      replace hS : St NoB w0 w30 [.obj q (.cells #[.int .i64 (frSt d).s9.1, .slice Ac9 ((frSt d).s9.2).length cc9] 162 (0, 0)), .obj g9 (.cells #[.int .u8 (valB (0, d)), .int .u8 (valB (frSt d).s1), .int .u8 (valB (frSt d).s2), .int .u32 (valN (frSt d).s3 : Int), .int .u32 (valN (frSt d).s4 : Int), .int .u8 (valB (frSt d).s5), .int .u32 (valN (frSt d).s6 : Int), .bool (decide (valB (frSt d).s7 = 1)), .slice B9 (bytS 65536 (frSt d).s8.1 (frSt d).s8.2).1.length k9] 90 (0, 0)), .vec B9 k9 5 1 (frRaw d).d.length ((frRaw d).d.map (Value.int .u8)), .obj g10 (.cells #[.int .u8 (valB (frSt d).s7)] 5 (0, 0)), .obj gp (.cells #[.pointer (some ⟨q, 0, none⟩)] 48 (0, 0)), .obj gr (.cells #[.int .u8 0, .int .u8 0, .int .u8 0, .int .u32 0, .int .u32 0, .int .u8 0, .int .u32 0, .bool false, .slice none 0 0] 90 (0, 0))] := hS.sel (by repeat (first | exact Sel.nil | (refine Sel.cons (by repeat (first | exact Del.head | apply Del.tail)) ?_)))
      rw [fr_cells hdb] at hS
      exact ⟨_, _, _, _, hcp9, hS⟩
  intro fm1 w31 hM
  obtain ⟨Ac9, cc9, B9, k9, hcp9, hS⟩ := hM
  simp only [clob, List.foldl, n3, n4]
  refine hK13 _ _ ?_
  refine x_seq fun K14 hK14 => ?_
  refine x_mixed_c (Lc := [.obj gp (.cells #[.pointer (some ⟨q, 0, none⟩)] 48 (0, 0))]) [] 0 [5, 53, 54, 55, 56, 57, 58, 59, 60, 61] (fun f w => f 5 = .int .i64 (frE d) ∧ St NoB w0 w [.obj g9 (.cells (FA (frRaw d) B9 k9) 90 (0, 0)), .vec B9 k9 5 1 (frRaw d).d.length ((frRaw d).d.map (Value.int .u8)), .obj gr (.cells #[.int .u8 0, .int .u8 0, .int .u8 0, .int .u32 0, .int .u32 0, .int .u8 0, .int .u32 0, .bool false, .slice none 0 0] 90 (0, 0))]) (by kernel_rfl) (by kernel_rfl) (by kernel_rfl) (by decide) hS (fun w32 hS => ?mixpre1202) ?mixrest1202
  case mixpre1202 =>
   refine p_nil ?_
   simp only [List.length_cons, List.length_nil, Nat.reduceAdd, Nat.reduceSub]
   refine any_go (i := 0) (by rfl) (by decide +kernel) (by decide +kernel) noLate_nil (go_yields w_none (fun w hS => m_load_obj Try.underlying48 (hS := hS))) ?_
   try simp only [opv, n1, n2, n3, n4, Value.cells, List.getElem_toArray, List.getElem_cons_zero, List.getElem_cons_succ]
   refine any_go (i := 1) (by rfl) (by decide +kernel) (by decide +kernel) noLate_nil (go_yields w_none (fun w hS => s_makeFunc)) ?_
   try simp only [opv, n1, n2, n3, n4, Value.cells, List.map_toArray, List.map_cons, List.map_nil]
   refine any_go (i := 2) (by rfl) (by decide +kernel) (by decide +kernel) noLate_nil (go_yields w_none (fun w hS => s_makeFunc)) ?_
   try simp only [opv, n1, n2, n3, n4, Value.cells, List.map_toArray, List.map_cons, List.map_nil]
   refine any_go (i := 4) (by rfl) (by decide +kernel) (by decide +kernel) noLate_nil (go_yields w_none (fun w hS => m_load_obj Try.underlying48 (hS := hS))) ?_
   try simp only [opv, n1, n2, n3, n4, Value.cells, List.getElem_toArray, List.getElem_cons_zero, List.getElem_cons_succ]
   refine any_go (i := 5) (by rfl) (by decide +kernel) (by decide +kernel) noLate_nil (go_yields w_none (fun w hS => s_makeFunc)) ?_
   try simp only [opv, n1, n2, n3, n4, Value.cells, List.map_toArray, List.map_cons, List.map_nil]
   refine any_go (i := 6) (by rfl) (by decide +kernel) (by decide +kernel) noLate_nil (go_yields w_none (fun w hS => s_makeFunc)) ?_
   try simp only [opv, n1, n2, n3, n4, Value.cells, List.map_toArray, List.map_cons, List.map_nil]
   refine any_step [3] (by kernel_rfl) (by decide) (fun w33 hE => ⟨fun _ => (hS.ext hE).sel (by repeat (first | exact Sel.nil | (refine Sel.cons (by repeat (first | exact Del.head | apply Del.tail)) ?_))), ?_⟩)
   replace hS := hS.ext hE
   intro i hi
   simp only [List.mem_cons, List.not_mem_nil, or_false] at hi
   subst hi
   ·
    refine any_op (by rfl) ?_
    refine s_call en154 ?_
    try simp only [opv, n1, n2, n3, n4, Value.cells, List.map_toArray, List.map_cons, List.map_nil, List.append_toArray, List.cons_append, List.nil_append, Array.append_empty]
    refine CallR.mono (c_frUnless _ _ _ _) ?_
    rintro _ w34 ⟨a1, b1, rfl, hC34⟩
    replace hS := hS.call hC34
    simp only [List.cons_append, List.nil_append] at hS
    try simp only [opv, n1, n2, n3, n4, Value.cells]
    refine x_nil ?_
    refine any_step [7] (by kernel_rfl) (by decide) (fun w35 hE => ⟨fun _ => (hS.ext hE).sel (by repeat (first | exact Sel.nil | (refine Sel.cons (by repeat (first | exact Del.head | apply Del.tail)) ?_))), ?_⟩)
    replace hS := hS.ext hE
    intro i hi
    simp only [List.mem_cons, List.not_mem_nil, or_false] at hi
    subst hi
    ·
     refine any_op (by rfl) ?_
     refine m_buildRow (cells := #[_, _, _, _]) Try.underlying247 ti54 (hc := by simp only [List.map_toArray, List.map_cons, List.map_nil, opv, n1, n2, n3, n4, Value.cells, List.toList_toArray]; (repeat (refine fill_cons rfl rfl (Nat.le_of_ble_eq_true rfl) ?_)); rfl) (hS := hS) (h := fun w36 g36 hS => ?_)
     try simp only [opv, n1, n2, n3, n4, Value.cells, Array.toArray_toList] at hS ⊢
     replace hS := hS.obj_rd (sz := 1) (n := 4) rfl .head
     refine x_nil ?_
     refine any_step [8] (by kernel_rfl) (by decide) (fun w37 hE => ⟨fun _ => (hS.ext hE).sel (by repeat (first | exact Sel.nil | (refine Sel.cons (by repeat (first | exact Del.head | apply Del.tail)) ?_))), ?_⟩)
     replace hS := hS.ext hE
     intro i hi
     simp only [List.mem_cons, List.not_mem_nil, or_false] at hi
     subst hi
     ·
      refine any_op (by rfl) ?_
      refine s_call en153 ?_
      try simp only [opv, n1, n2, n3, n4, Value.cells, List.map_toArray, List.map_cons, List.map_nil, List.append_toArray, List.cons_append, List.nil_append, Array.append_empty]
      refine CallR.mono (c_frFirst _ _ 4 _ [⟨35, #[.pointer (some ⟨q, 0, none⟩)], #[], (frSt d).s9.1⟩, ⟨230, #[], #[.pointer (some ⟨a1, 0, none⟩), .pointer (some ⟨b1, 0, none⟩)], if decide (valB (frSt d).s7 ≤ 1) = true then 0 else 3⟩, ⟨37, #[.pointer (some ⟨q, 0, none⟩)], #[], if 0 < (frSt d).s9.2.length then 3 else (frSt d).s9.1⟩, ⟨156, #[], #[.pointer (some ⟨g9, 0, none⟩)], checkF (frRaw d)⟩] (hS.hasRd (by repeat (exact Has.head))) rfl (by decide) (by intro x hx; simp only [List.mem_cons, List.not_mem_nil, or_false] at hx; rcases hx with rfl | rfl | rfl | rfl <;> first | exact en35 | exact en230 | exact en37 | exact en156) (by intro x hx; simp only [List.mem_cons, List.not_mem_nil, or_false] at hx; rcases hx with rfl | rfl | rfl | rfl <;> first | exact fun w hE => c_cErrR w q _ _ _ _ ((hS.objRd (g := q) (cs := #[.int .i64 (frSt d).s9.1, .slice Ac9 (frSt d).s9.2.length cc9]) (by repeat (first | exact Has.head | apply Has.tail))).ext' hE) | exact cl_unless en155 (hS.objRd (g := a1) (cs := #[.func (.func 155) #[] #[.pointer (some ⟨g10, 0, none⟩)]]) (by repeat (first | exact Has.head | apply Has.tail))) (hS.objRd (g := b1) (cs := #[.int .i64 3]) (by repeat (first | exact Has.head | apply Has.tail))) (fun w hE => c_frDec2 _ g10 _ ((hS.objRd (g := g10) (cs := #[.int .u8 (valB (frSt d).s7)]) (by repeat (first | exact Has.head | apply Has.tail))).ext' hE)) | exact fun w hE => c_cDoneR w q _ _ _ _ ((hS.objRd (g := q) (cs := #[.int .i64 (frSt d).s9.1, .slice Ac9 (frSt d).s9.2.length cc9]) (by repeat (first | exact Has.head | apply Has.tail))).ext' hE) | exact fun w hE => c_frDec3 w g9 _ _ _ ((hS.objRd (g := g9) (cs := FA (frRaw d) B9 k9) (by repeat (first | exact Has.head | apply Has.tail))).ext' hE))) ?_
      rintro _ w38 ⟨rfl, hE38⟩
      replace hS := hS.ext hE38
      try simp only [opv, n1, n2, n3, n4, Value.cells]
      refine x_nil ?_
      refine any_go (i := 9) (by rfl) (by decide +kernel) (by decide +kernel) noLate_nil (go_yields w_none (fun w hS => s_assign)) ?_
      try simp only [opv, n1, n2, n3, n4, Value.cells]
      refine any_nil (by kernel_rfl) (fun w39 hE => ?_)
      replace hS := hS.ext hE
      refine ⟨fun _ => hS.sel (by repeat (first | exact Sel.nil | (refine Sel.cons (by repeat (first | exact Del.head | apply Del.tail)) ?_))), ?_⟩
      refine mix_leaf (by simp only [clob, List.foldl, n1, n2, n3, n4]) ?_
      try simp only [n1, n2]
      exact ⟨congrArg (Value.int .i64) (fr_first d), hS.sel (by repeat (first | exact Sel.nil | (refine Sel.cons (by repeat (first | exact Del.head | apply Del.tail)) ?_)))⟩
  intro fm2 w40 hM
  obtain ⟨h5, hS⟩ := hM
  simp only [clob, List.foldl, n3, n4, h5]
  refine hK14 _ _ ?_
  refine x_seq fun K15 hK15 => ?_
  refine x_seq fun K16 hK16 => ?_
  refine x_region ?_
  refine s_go (s_move) ?_
  try simp only [opv, n1, n2, n3, n4, Value.cells]
  refine s_go (s_neq) ?_
  try simp only [opv, n1, n2, n3, n4, Value.cells]
  refine x_nil ?_
  refine hK16 _ _ ?_
  refine x_cond (ht := fun hc2 => ?_) (hf := fun hc2 => ?_)
  ·
   try simp only [decide_eq_true_eq, decide_eq_false_iff_not, Bool.not_eq_true', Bool.not_eq_false', Int.not_lt, Int.not_le, ne_eq, Decidable.not_not, bne_iff_ne, beq_iff_eq, not_true_eq_false, not_false_eq_true] at hc2
   have hfe : ¬ frE d = 0 := hc2
   have hdE := hE1
   have hdF : decF l = fm0 := by rw [hF1, frF, if_neg hfe]
   refine x_seq fun K17 hK17 => ?_
   refine x_region ?_
   refine s_go (s_build_struct (cells := #[.int .u8 0, .int .u8 0, .int .u8 0, .int .u32 0, .int .u32 0, .int .u8 0, .int .u32 0, .bool false, .slice none 0 0]) Try.underlying90 ti90 bp90 (hc := by simp only [List.map_toArray, List.map_cons, List.map_nil, opv, n1, n2, n3, n4, Value.cells, List.toList_toArray]; (repeat (refine fill_cons rfl rfl (Nat.le_of_ble_eq_true rfl) ?_)); rfl)) ?_
   try simp only [opv, n1, n2, n3, n4, Value.cells]
   refine s_go (s_move) ?_
   try simp only [opv, n1, n2, n3, n4, Value.cells]
   refine m_store_obj ti90 (hS := hS) (h := fun w41 hS => ?_)
   try simp only [opv, n1, n2, n3, n4, Value.cells, Array.toArray_toList] at hS ⊢
   refine s_go (s_assign) ?_
   try simp only [opv, n1, n2, n3, n4, Value.cells]
   refine x_nil ?_
   refine hK17 _ _ ?_
   refine x_ret ?_
   refine r_cell_tmp_agg rfl Try.underlying90 ti90 (hS := hS) (hR := ?_)
   replace hS := hS.nil_vec 5 1
   exact ⟨none, 0, by rw [hdE, hdF]; rfl, by rw [hdF]; exact hS.sel (by repeat (first | exact Sel.nil | (refine Sel.cons (by repeat (exact Del.head)) ?_)))⟩
  ·
   try simp only [decide_eq_true_eq, decide_eq_false_iff_not, Bool.not_eq_true', Bool.not_eq_false', Int.not_lt, Int.not_le, ne_eq, Decidable.not_not, bne_iff_ne, beq_iff_eq, not_true_eq_false, not_false_eq_true] at hc2
   have hfe : frE d = 0 := hc2
   have hdF : decF l = frRaw d := by rw [hF1, frF, if_pos hfe]
   have hdE : decE l = 0 := hE1.trans hfe
   refine x_skip ?_
   refine hK15 _ _ ?_
   refine x_seq fun K18 hK18 => ?_
   refine x_region ?_
   refine s_go (m_load_row Try.underlying90 (hi := ti90) (hS := hS)) ?_
   try simp only [opv, n1, n2, n3, n4, Value.cells, List.getElem_toArray, List.getElem_cons_zero, List.getElem_cons_succ]
   refine m_store_obj ti90 (hS := hS) (h1 := by simp [opv, Value.cells, FA, fmL, Value.oneCell']) (hc := by exact splice_whole rfl) (h := fun w42 hS => ?_)
   try simp only [opv, n1, n2, n3, n4, Value.cells, Array.toArray_toList] at hS ⊢
   refine s_go (s_assign) ?_
   try simp only [opv, n1, n2, n3, n4, Value.cells]
   refine x_nil ?_
   refine hK18 _ _ ?_
   refine x_ret ?_
   refine r_cell_tmp_agg rfl Try.underlying90 ti90 (hS := hS) (hR := ?_)
   exact ⟨B9, k9, by rw [hdE, hdF]; rfl, by rw [hdF]; exact hS.sel (by repeat (first | exact Sel.nil | (refine Sel.cons (by repeat (first | exact Del.head | apply Del.tail)) ?_)))⟩
end Go.Proofs.Ytpjpaipkkcengaa
set_option linter.unusedSimpArgs false
set_option linter.unusedVariables false
set_option maxHeartbeats 2000000
set_option maxRecDepth 100000
namespace Go.Proofs.Ytpjpaipkkcengaa
open Go.RowKit

theorem St.own_rd {w0 : World} {A : Option Addr} {n : Nat} {l : List Int} (hr : Rd w0 A 1 n (l.map (Value.int .u8))) : St (OwnB [.rd A 1 n (l.map (Value.int .u8))]) w0 w0 [.rd A 1 n (l.map (Value.int .u8))] :=
  (St.start w0).add_rd hr (fun r h => by cases h)
theorem St.ext_own {w0 w : World} {A : Option Addr} {n : Nat} {xs : List Value} {L : List Res} (h : St (OwnB [.rd A 1 n xs]) w0 w L) : Ext w0 w :=
  h.keep.mono fun k _ hk => by
    obtain ⟨r, hr, ho⟩ := hk
    simp only [List.mem_cons, List.not_mem_nil, or_false] at hr
    subst hr
    simp [Res.own] at ho
theorem rdIn_sub {w0 : World} {A B : Option Addr} {n m : Nat} {xs : List Value} (h : 0 < m → 0 < n ∧ B.map (·.block) = A.map (·.block)) : RdIn w0 [.rd A 1 n xs] B m := fun b hb => by
  by_cases h0 : m = 0
  · rw [if_pos h0] at hb; cases hb
  · obtain ⟨h1, h2⟩ := h (by omega)
    rw [if_neg h0, h2] at hb
    refine .inr ⟨_, List.mem_cons_self .., .inr ?_⟩
    simp only [Res.reads, if_neg (show ¬ n = 0 by omega)]
    exact hb
theorem St.add_rdIn {S : Nat → Prop} {w0 w w' : World} {L : List Res} {A B : Option Addr} {n m : Nat} {xs ys : List Value} (h : St S w0 w L) (hE : Ext w w') (hr : Rd w' B 1 m ys) (hin : RdIn w [.rd A 1 n xs] B m) (hm : Has L (.rd A 1 n xs)) : St S w0 w' (.rd B 1 m ys :: L) := by
  have key : (∀ g, (Res.rd B 1 m ys).reads = some g → w.heap.size ≤ g) ∨ (0 < m → 0 < n ∧ B.map (·.block) = A.map (·.block)) := by
    by_cases h0 : m = 0
    · exact .inr fun h => absurd h (by omega)
    · obtain ⟨b, o, rfl, _, _⟩ := hr.2 (by omega)
      rcases hin b (by rw [if_neg h0]; rfl) with h1 | ⟨s, hs, h2⟩
      · refine .inl fun g hg => ?_
        simp only [Res.reads, if_neg h0, Option.map_some, Option.some.injEq] at hg
        omega
      · simp only [List.mem_cons, List.not_mem_nil, or_false] at hs
        subst hs
        refine .inr fun _ => ?_
        rcases h2 with h2 | h2
        · simp [Res.own] at h2
        · simp only [Res.reads] at h2
          split at h2
          · cases h2
          · exact ⟨by omega, by rw [h2]; rfl⟩
  rcases key with k | k
  · exact h.add (r := .rd B 1 m ys) hE hr (fun g hg => by rcases hg with hg | hg; simp [Res.own] at hg; exact k g hg)
  · exact (h.ext hE).add_rd_of hm hr k
theorem rdS_one (x : Nat) (n e : Int) (xs : List Int) : rdS 1 x n e xs = ((0, (oneS e xs).1, nm0, []), (oneS e xs).2) := by rw [rdS, if_neg (by decide), if_pos rfl]
theorem rdS_num (x : Nat) (n e : Int) (xs : List Int) : rdS 0 x n e xs = (((numS x e xs).1, 0, nm0, []), (numS x e xs).2) := by rw [rdS, if_pos rfl]
theorem rdS_bts (x : Nat) (e : Int) (xs : List Int) : rdS 3 x 65536 e xs = ((0, 0, nm0, (bytS 65536 e xs).1), (bytS 65536 e xs).2) := by rw [rdS, if_neg (by decide), if_neg (by decide), if_neg (by decide)]; rfl

theorem c_ref27Decode (w0 : World) (A : Option Addr) (n c : Nat) (l : List Int) (hr : Rd w0 A 1 n (l.map (Value.int .u8))) (hl : l.length = n) (hw : Byt l) (hn : n ≤ 1000000) (hc : n ≤ c) :
    CallR Try.prog 61 #[.slice A n c] w0 fun v w' => ∃ (B : Option Addr) (k : Nat), v = .tuple #[.agg (FA (decF l) B k), .int .i64 (decE l)] ∧ Ext w0 w' ∧ Rd w' B 1 (decF l).d.length ((decF l).d.map (Value.int .u8)) ∧ RdIn w0 [.rd A 1 n (l.map (Value.int .u8))] B (decF l).d.length := by
 have hS := St.own_rd hr
 refine c_enter (l := [.slice A n c, undef, undef, undef, undef, undef, undef, undef, undef, undef, undef, undef, undef, undef, undef, undef, undef, undef, undef, undef, undef, undef, undef, undef, undef, undef, undef, undef, undef, undef, undef, undef, undef, undef, undef, undef, undef, undef, undef, undef, undef, undef, undef, undef, undef, undef, undef, undef, undef, undef, undef, undef, undef, undef, undef, undef, undef, undef, undef, undef, undef, undef, undef, undef, undef, undef, undef, undef, undef, undef, undef, undef, undef, undef, undef, undef, undef, undef, undef, undef, undef, undef, undef, undef, undef, undef, undef, undef, undef, undef, undef, undef, undef, undef, undef, undef, undef, undef, undef, undef, undef, undef, undef, undef, undef, undef]) Try.func61 rfl (by simp only [Try.ntmps61, List.size_toArray, List.length_cons, List.length_nil, Nat.reduceAdd, Nat.reduceSub, Array.replicate_succ, Array.replicate_zero, List.push_toArray, List.append_toArray, List.nil_append, List.cons_append]) ?_
 refine x_seq fun K1 hK1 => ?_
 refine x_region ?_
 refine m_alloc ti90 hS (fun w1 g1 hS => ?_)
 try simp only [opv, n1, n2, n3, n4, Value.cells, Array.toArray_toList] at hS ⊢
 obtain ⟨gr, hgr⟩ : ∃ z, z = g1 := ⟨_, rfl⟩
 rw [← hgr] at hS ⊢
 replace hS : St (OwnB [.rd A 1 n (l.map (Value.int .u8))]) w0 w1 (.obj gr (.cells #[.int .u8 0, .int .u8 0, .int .u8 0, .int .u32 0, .int .u32 0, .int .u8 0, .int .u32 0, .bool false, .slice none 0 0] 90 (0, 0)) :: _) := hS
 refine s_go (s_assign) ?_
 try simp only [opv, n1, n2, n3, n4, Value.cells]
 refine x_nil ?_
 refine hK1 _ _ ?_
 refine x_seq fun K2 hK2 => ?_
 refine x_region ?_
 refine s_go (s_move) ?_
 try simp only [opv, n1, n2, n3, n4, Value.cells]
 refine s_call en157 ?_
 try simp only [opv, n1, n2, n3, n4, Value.cells, List.map_toArray, List.map_cons, List.map_nil, List.append_toArray, List.cons_append, List.nil_append, Array.append_empty]
 refine CallR.mono (c_ref05Open _ A n c l (hS.hasRd (by repeat (first | exact Has.head | apply Has.tail))) hl hw (by omega) hc) ?_
 rintro _ w2 ⟨A1, m1, c1, rfl, hm1, hE2, hR2, hB2, hcA1⟩
 replace hS := (hS.ext hE2).add_rd_of (A := A) (n := n) (by repeat (first | exact Has.head | apply Has.tail)) hR2 hB2
 have hRj : RdIn w0 [.rd A 1 n (l.map (Value.int .u8))] A1 m1 := rdIn_sub hB2
 try simp only [opv, n1, n2, n3, n4, Value.cells]
 refine s_go (s_move) ?_
 try simp only [opv, n1, n2, n3, n4, Value.cells]
 refine s_go (s_extract (hv := rfl)) ?_
 try simp only [List.getElem_toArray, List.getElem_cons_zero, List.getElem_cons_succ]
 try simp only [opv, n1, n2, n3, n4, Value.cells]
 refine s_go (s_extract (hv := rfl)) ?_
 try simp only [List.getElem_toArray, List.getElem_cons_zero, List.getElem_cons_succ]
 try simp only [opv, n1, n2, n3, n4, Value.cells]
 refine s_go (s_assign) ?_
 try simp only [opv, n1, n2, n3, n4, Value.cells]
 refine s_go (s_assign) ?_
 try simp only [opv, n1, n2, n3, n4, Value.cells]
 refine x_nil ?_
 refine hK2 _ _ ?_
 refine x_seq fun K3 hK3 => ?_
 refine x_seq fun K4 hK4 => ?_
 refine x_region ?_
 refine s_go (s_move) ?_
 try simp only [opv, n1, n2, n3, n4, Value.cells]
 refine s_go (s_neq) ?_
 try simp only [opv, n1, n2, n3, n4, Value.cells]
 refine x_nil ?_
 refine hK4 _ _ ?_
 refine x_cond (ht := fun hc1 => ?_) (hf := fun hc1 => ?_)
 ·
  try simp only [decide_eq_true_eq, decide_eq_false_iff_not, Bool.not_eq_true', Bool.not_eq_false', Int.not_lt, Int.not_le, ne_eq, Decidable.not_not, bne_iff_ne, beq_iff_eq, not_true_eq_false, not_false_eq_true] at hc1
  have hO : ¬ openE l = 0 := hc1
  have hdE : decE l = openE l := if_neg hO
  have hdF : decF l = fm0 := if_neg hO
  refine x_seq fun K5 hK5 => ?_
  refine x_region ?_
  refine s_go (s_build_struct (cells := #[.int .u8 0, .int .u8 0, .int .u8 0, .int .u32 0, .int .u32 0, .int .u8 0, .int .u32 0, .bool false, .slice none 0 0]) Try.underlying90 ti90 bp90 (hc := by simp only [List.map_toArray, List.map_cons, List.map_nil, opv, n1, n2, n3, n4, Value.cells, List.toList_toArray]; (repeat (refine fill_cons rfl rfl (Nat.le_of_ble_eq_true rfl) ?_)); rfl)) ?_
  try simp only [opv, n1, n2, n3, n4, Value.cells]
  refine s_go (s_move) ?_
  try simp only [opv, n1, n2, n3, n4, Value.cells]
  refine m_store_obj ti90 (hS := hS) (h := fun w3 hS => ?_)
  try simp only [opv, n1, n2, n3, n4, Value.cells, Array.toArray_toList] at hS ⊢
  refine s_go (s_assign) ?_
  try simp only [opv, n1, n2, n3, n4, Value.cells]
  refine x_nil ?_
  refine hK5 _ _ ?_
  refine x_ret ?_
  refine r_cell_tmp_agg rfl Try.underlying90 ti90 (hS := hS) (hR := ?_)
  exact ⟨none, 0, by rw [hdE, hdF]; rfl, St.ext_own hS, by rw [hdF]; exact rd_zero _ _ _, by rw [hdF]; exact RdIn.none _ _ _⟩
 ·
  try simp only [decide_eq_true_eq, decide_eq_false_iff_not, Bool.not_eq_true', Bool.not_eq_false', Int.not_lt, Int.not_le, ne_eq, Decidable.not_not, bne_iff_ne, beq_iff_eq, not_true_eq_false, not_false_eq_true] at hc1
  have hO : openE l = 0 := by simpa using hc1
  obtain ⟨d, hod⟩ : ∃ d, openD l = d := ⟨_, rfl⟩
  have hdb : Byt d := by rw [← hod]; exact openD_byt hw
  have hdl : d.length ≤ n := by rw [← hod, ← hl]; exact openD_le l
  have hB := frB hdb
  rw [hod] at hS hm1
  subst hm1
  have hE1 : decE l = frE d := by rw [decE, if_pos hO, hod]
  have hF1 : decF l = frF d := by rw [decF, if_pos hO, hod]
  refine x_skip ?_
  refine hK3 _ _ ?_
  refine x_seq fun K6 hK6 => ?_
  refine x_region ?_
  refine s_go (s_move) ?_
  try simp only [opv, n1, n2, n3, n4, Value.cells]
  refine s_go (s_build_struct (cells := #[_, .int .i64 0]) Try.underlying66 ti66 bp66 (hc := by simp only [List.map_toArray, List.map_cons, List.map_nil, opv, n1, n2, n3, n4, Value.cells, List.toList_toArray]; (repeat (refine fill_cons rfl rfl (Nat.le_of_ble_eq_true rfl) ?_)); rfl)) ?_
  try simp only [opv, n1, n2, n3, n4, Value.cells]
  refine m_box hS (fun w4 g4 hS => ?_)
  try simp only [opv, n1, n2, n3, n4, Value.cells, Array.toArray_toList] at hS ⊢
  obtain ⟨q, hq⟩ : ∃ z, z = g4 := ⟨_, rfl⟩
  rw [← hq] at hS ⊢
  refine s_go (s_assign) ?_
  try simp only [opv, n1, n2, n3, n4, Value.cells]
  refine x_nil ?_
  refine hK6 _ _ ?_
  refine x_seq fun K7 hK7 => ?_
  refine x_region ?_
  refine s_go (s_build_struct (cells := #[_, .int .u64 0, .int .u8 0, .int .u8 0, .int .u8 0, .int .u8 0, .int .u8 0, .int .u8 0, .int .u8 0, .int .u8 0, .int .u8 0, .slice none 0 0, .int .i64 0]) Try.underlying45 ti45 bp45 (hc := by simp only [List.map_toArray, List.map_cons, List.map_nil, opv, n1, n2, n3, n4, Value.cells, List.toList_toArray]; (repeat (refine fill_cons rfl rfl (Nat.le_of_ble_eq_true rfl) ?_)); rfl)) ?_
  try simp only [opv, n1, n2, n3, n4, Value.cells]
  refine s_go (s_build_struct (cells := #[.int .i64 0, _, .int .u8 0, .int .u8 0, .int .u8 0, .int .u8 0, .int .u8 0, .int .u8 0, .int .u8 0, .int .u8 0, .int .u8 0, .slice none 0 0, .int .i64 0]) Try.underlying45 ti45 bp45 (hc := by simp only [List.map_toArray, List.map_cons, List.map_nil, opv, n1, n2, n3, n4, Value.cells, List.toList_toArray]; (repeat (refine fill_cons rfl rfl (Nat.le_of_ble_eq_true rfl) ?_)); rfl)) ?_
  try simp only [opv, n1, n2, n3, n4, Value.cells]
  refine m_alloc ti45 hS (fun w5 g5 hS => ?_)
  try simp only [opv, n1, n2, n3, n4, Value.cells, Array.toArray_toList] at hS ⊢
  obtain ⟨g7, hg7⟩ : ∃ z, z = g5 := ⟨_, rfl⟩
  rw [← hg7] at hS ⊢
  refine m_alloc ti45 hS (fun w6 g6 hS => ?_)
  try simp only [opv, n1, n2, n3, n4, Value.cells, Array.toArray_toList] at hS ⊢
  obtain ⟨g8, hg8⟩ : ∃ z, z = g6 := ⟨_, rfl⟩
  rw [← hg8] at hS ⊢
  refine m_store_obj ti45 (hS := hS) (h := fun w7 hS => ?_)
  try simp only [opv, n1, n2, n3, n4, Value.cells, Array.toArray_toList] at hS ⊢
  refine m_store_obj ti45 (hS := hS) (h := fun w8 hS => ?_)
  try simp only [opv, n1, n2, n3, n4, Value.cells, Array.toArray_toList] at hS ⊢
  replace hS : St (OwnB [.rd A 1 n (l.map (Value.int .u8))]) w0 w8 (.obj g8 (.cells (pP ⟨0, 4294967295, 0, nm0, none, 0, [], 0⟩) 45 (0, 0)) :: .obj g7 (.cells (pP ⟨1, 0, 0, nm0, none, 0, [], 0⟩) 45 (0, 0)) :: _) := hS
  refine x_nil ?_
  refine hK7 _ _ ?_
  refine x_seq fun K8 hK8 => ?_
  refine x_region ?_
  refine m_alloc ti90 hS (fun w9 g9 hS => ?_)
  try simp only [opv, n1, n2, n3, n4, Value.cells, Array.toArray_toList] at hS ⊢
  obtain ⟨g9, hg9⟩ : ∃ z, z = g9 := ⟨_, rfl⟩
  rw [← hg9] at hS ⊢
  refine x_nil ?_
  refine hK8 _ _ ?_
  refine x_seq fun K9 hK9 => ?_
  refine x_region ?_
  refine s_go (s_move) ?_
  try simp only [opv, n1, n2, n3, n4, Value.cells]
  refine s_go (m_load_row Try.underlying45 (hi := ti45) (hS := hS)) ?_
  try simp only [opv, n1, n2, n3, n4, Value.cells, List.getElem_toArray, List.getElem_cons_zero, List.getElem_cons_succ]
  refine s_call en137 ?_
  try simp only [opv, n1, n2, n3, n4, Value.cells, List.map_toArray, List.map_cons, List.map_nil, List.append_toArray, List.cons_append, List.nil_append, Array.append_empty]
  refine CallR.mono (c_ref07Read _ q (0) A1 c1 (d) hcA1 (hdb) (by omega) ⟨1, 0, 0, nm0, none, 0, [], 0⟩ (by decide) (by decide) (hS.owns (by repeat (first | exact Spl.nil | (apply Spl.cons (by repeat (first | exact Del.head | apply Del.tail))))))) ?_
  rintro _ w10 ⟨B10, k10, rfl, hQa, Ac1, cc1, hcp1, hRa, hC10⟩
  have hY10 := RdIn.trans (St.own_rd hr) hS (by repeat (first | exact Spl.nil | (apply Spl.cons (by repeat (first | exact Del.head | apply Del.tail))))) hRa (by intro s hs q hb; simp only [List.mem_cons, List.not_mem_nil, or_false] at hs; rcases hs with rfl | rfl <;> first | (simp [Res.reads] at hb; done) | exact hRj q hb)
  have hX10 := RdIn.trans (St.own_rd hr) hS (by repeat (first | exact Spl.nil | (apply Spl.cons (by repeat (first | exact Del.head | apply Del.tail))))) hQa (by intro s hs q hb; simp only [List.mem_cons, List.not_mem_nil, or_false] at hs; rcases hs with rfl | rfl <;> first | (simp [Res.reads] at hb; done) | exact hRj q hb)
  replace hS := hS.frame (by repeat (first | exact Spl.nil | (apply Spl.cons (by repeat (first | exact Del.head | apply Del.tail))))) hC10 (by intro r hr b hb; simp only [List.mem_cons, List.not_mem_nil, or_false] at hr; rcases hr with rfl | rfl | rfl <;> first | (simp [Res.reads] at hb; done) | exact hRa b hb | exact hQa b hb)
  replace hRa := hY10
  replace hQa := hX10
  simp only [List.cons_append, List.nil_append, rdS_one] at hS hcp1 ⊢
  replace hcp1 : ((frSt d).s1.2).length ≤ cc1 := hcp1
  replace hS : St (OwnB [.rd A 1 n (l.map (Value.int .u8))]) w0 w10 (.obj q (.cells #[.slice Ac1 ((frSt d).s1.2).length cc1, .int .i64 ((frSt d).s1.1)] 66 (0, 0)) :: .rd Ac1 1 ((frSt d).s1.2).length (((frSt d).s1.2).map (Value.int .u8)) :: _) := hS
  try simp only [opv, n1, n2, n3, n4, Value.cells]
  refine s_go (s_field_one Try.underlying45 (hu := Try.underlying5)) ?_
  try simp only [opv, n1, n2, n3, n4, Value.cells, List.getElem_toArray, List.getElem_cons_zero, List.getElem_cons_succ]
  rw [show (oneS 0 d).1 = valB (0, d) from rfl]
  refine s_go (m_fieldAddr Try.underlying90 (hi := ti5)) ?_
  try simp only [opv, n1, n2, n3, n4, Value.cells, Nat.zero_add, Nat.add_zero, List.getElem_toArray, List.getElem_cons_zero, List.getElem_cons_succ]
  refine m_store_obj ti5 (hS := hS) (h := fun w11 hS => ?_)
  try simp only [opv, n1, n2, n3, n4, Value.cells, Array.toArray_toList] at hS ⊢
  refine x_nil ?_
  refine hK9 _ _ ?_
  refine x_seq fun K10 hK10 => ?_
  refine x_region ?_
  refine s_go (s_move) ?_
  try simp only [opv, n1, n2, n3, n4, Value.cells]
  refine s_go (m_load_row Try.underlying45 (hi := ti45) (hS := hS)) ?_
  try simp only [opv, n1, n2, n3, n4, Value.cells, List.getElem_toArray, List.getElem_cons_zero, List.getElem_cons_succ]
  refine s_call en137 ?_
  try simp only [opv, n1, n2, n3, n4, Value.cells, List.map_toArray, List.map_cons, List.map_nil, List.append_toArray, List.cons_append, List.nil_append, Array.append_empty]
  refine CallR.mono (c_ref07Read _ q ((frSt d).s1.1) Ac1 cc1 ((frSt d).s1.2) hcp1 (hB.b1) (by have := hB.l1; omega) ⟨1, 0, 0, nm0, none, 0, [], 0⟩ (by decide) (by decide) (hS.owns (by repeat (first | exact Spl.nil | (apply Spl.cons (by repeat (exact Del.head))))))) ?_
  rintro _ w12 ⟨B12, k12, rfl, hQb, Ac2, cc2, hcp2, hRb, hC12⟩
  have hY12 := RdIn.trans (St.own_rd hr) hS (by repeat (first | exact Spl.nil | (apply Spl.cons (by repeat (exact Del.head))))) hRb (by intro s hs q hb; simp only [List.mem_cons, List.not_mem_nil, or_false] at hs; rcases hs with rfl | rfl <;> first | (simp [Res.reads] at hb; done) | exact hRa q hb)
  have hX12 := RdIn.trans (St.own_rd hr) hS (by repeat (first | exact Spl.nil | (apply Spl.cons (by repeat (exact Del.head))))) hQb (by intro s hs q hb; simp only [List.mem_cons, List.not_mem_nil, or_false] at hs; rcases hs with rfl | rfl <;> first | (simp [Res.reads] at hb; done) | exact hRa q hb)
  replace hS := hS.frame (by repeat (first | exact Spl.nil | (apply Spl.cons (by repeat (exact Del.head))))) hC12 (by intro r hr b hb; simp only [List.mem_cons, List.not_mem_nil, or_false] at hr; rcases hr with rfl | rfl | rfl <;> first | (simp [Res.reads] at hb; done) | exact hRb b hb | exact hQb b hb)
  replace hRb := hY12
  replace hQb := hX12
  simp only [List.cons_append, List.nil_append, rdS_one] at hS hcp2 ⊢
  replace hcp2 : ((frSt d).s2.2).length ≤ cc2 := hcp2
  replace hS : St (OwnB [.rd A 1 n (l.map (Value.int .u8))]) w0 w12 (.obj q (.cells #[.slice Ac2 ((frSt d).s2.2).length cc2, .int .i64 ((frSt d).s2.1)] 66 (0, 0)) :: .rd Ac2 1 ((frSt d).s2.2).length (((frSt d).s2.2).map (Value.int .u8)) :: _) := hS
  try simp only [opv, n1, n2, n3, n4, Value.cells]
  refine s_go (s_field_one Try.underlying45 (hu := Try.underlying5)) ?_
  try simp only [opv, n1, n2, n3, n4, Value.cells, List.getElem_toArray, List.getElem_cons_zero, List.getElem_cons_succ]
  rw [show (oneS (frSt d).s1.1 (frSt d).s1.2).1 = valB (frSt d).s1 from rfl]
  refine s_go (m_fieldAddr Try.underlying90 (hi := ti5)) ?_
  try simp only [opv, n1, n2, n3, n4, Value.cells, Nat.zero_add, Nat.add_zero, List.getElem_toArray, List.getElem_cons_zero, List.getElem_cons_succ]
  refine m_store_obj ti5 (hS := hS) (h := fun w13 hS => ?_)
  try simp only [opv, n1, n2, n3, n4, Value.cells, Array.toArray_toList] at hS ⊢
  refine x_nil ?_
  refine hK10 _ _ ?_
  refine x_seq fun K11 hK11 => ?_
  refine x_region ?_
  refine s_go (s_move) ?_
  try simp only [opv, n1, n2, n3, n4, Value.cells]
  refine s_go (m_load_row Try.underlying45 (hi := ti45) (hS := hS)) ?_
  try simp only [opv, n1, n2, n3, n4, Value.cells, List.getElem_toArray, List.getElem_cons_zero, List.getElem_cons_succ]
  refine s_call en137 ?_
  try simp only [opv, n1, n2, n3, n4, Value.cells, List.map_toArray, List.map_cons, List.map_nil, List.append_toArray, List.cons_append, List.nil_append, Array.append_empty]
  refine CallR.mono (c_ref07Read _ q ((frSt d).s2.1) Ac2 cc2 ((frSt d).s2.2) hcp2 (hB.b2) (by have := hB.l2; omega) ⟨1, 0, 0, nm0, none, 0, [], 0⟩ (by decide) (by decide) (hS.owns (by repeat (first | exact Spl.nil | (apply Spl.cons (by repeat (exact Del.head))))))) ?_
  rintro _ w14 ⟨B14, k14, rfl, hQc, Ac3, cc3, hcp3, hRc, hC14⟩
  have hY14 := RdIn.trans (St.own_rd hr) hS (by repeat (first | exact Spl.nil | (apply Spl.cons (by repeat (exact Del.head))))) hRc (by intro s hs q hb; simp only [List.mem_cons, List.not_mem_nil, or_false] at hs; rcases hs with rfl | rfl <;> first | (simp [Res.reads] at hb; done) | exact hRb q hb)
  have hX14 := RdIn.trans (St.own_rd hr) hS (by repeat (first | exact Spl.nil | (apply Spl.cons (by repeat (exact Del.head))))) hQc (by intro s hs q hb; simp only [List.mem_cons, List.not_mem_nil, or_false] at hs; rcases hs with rfl | rfl <;> first | (simp [Res.reads] at hb; done) | exact hRb q hb)
  replace hS := hS.frame (by repeat (first | exact Spl.nil | (apply Spl.cons (by repeat (exact Del.head))))) hC14 (by intro r hr b hb; simp only [List.mem_cons, List.not_mem_nil, or_false] at hr; rcases hr with rfl | rfl | rfl <;> first | (simp [Res.reads] at hb; done) | exact hRc b hb | exact hQc b hb)
  replace hRc := hY14
  replace hQc := hX14
  simp only [List.cons_append, List.nil_append, rdS_one] at hS hcp3 ⊢
  replace hcp3 : ((frSt d).s3.2).length ≤ cc3 := hcp3
  replace hS : St (OwnB [.rd A 1 n (l.map (Value.int .u8))]) w0 w14 (.obj q (.cells #[.slice Ac3 ((frSt d).s3.2).length cc3, .int .i64 ((frSt d).s3.1)] 66 (0, 0)) :: .rd Ac3 1 ((frSt d).s3.2).length (((frSt d).s3.2).map (Value.int .u8)) :: _) := hS
  try simp only [opv, n1, n2, n3, n4, Value.cells]
  refine s_go (s_field_one Try.underlying45 (hu := Try.underlying5)) ?_
  try simp only [opv, n1, n2, n3, n4, Value.cells, List.getElem_toArray, List.getElem_cons_zero, List.getElem_cons_succ]
  rw [show (oneS (frSt d).s2.1 (frSt d).s2.2).1 = valB (frSt d).s2 from rfl]
  refine s_go (m_fieldAddr Try.underlying90 (hi := ti5)) ?_
  try simp only [opv, n1, n2, n3, n4, Value.cells, Nat.zero_add, Nat.add_zero, List.getElem_toArray, List.getElem_cons_zero, List.getElem_cons_succ]
  refine m_store_obj ti5 (hS := hS) (h := fun w15 hS => ?_)
  try simp only [opv, n1, n2, n3, n4, Value.cells, Array.toArray_toList] at hS ⊢
  refine x_nil ?_
  refine hK11 _ _ ?_
  refine x_seq fun K12 hK12 => ?_
  refine x_region ?_
  refine s_go (s_move) ?_
  try simp only [opv, n1, n2, n3, n4, Value.cells]
  refine s_go (m_load_row Try.underlying45 (hi := ti45) (hS := hS)) ?_
  try simp only [opv, n1, n2, n3, n4, Value.cells, List.getElem_toArray, List.getElem_cons_zero, List.getElem_cons_succ]
  refine s_call en137 ?_
  try simp only [opv, n1, n2, n3, n4, Value.cells, List.map_toArray, List.map_cons, List.map_nil, List.append_toArray, List.cons_append, List.nil_append, Array.append_empty]
  refine CallR.mono (c_ref07Read _ q ((frSt d).s3.1) Ac3 cc3 ((frSt d).s3.2) hcp3 (hB.b3) (by have := hB.l3; omega) ⟨0, 4294967295, 0, nm0, none, 0, [], 0⟩ (by decide) (by decide) (hS.owns (by repeat (first | exact Spl.nil | (apply Spl.cons (by repeat (exact Del.head))))))) ?_
  rintro _ w16 ⟨B16, k16, rfl, hQd, Ac4, cc4, hcp4, hRd, hC16⟩
  have hY16 := RdIn.trans (St.own_rd hr) hS (by repeat (first | exact Spl.nil | (apply Spl.cons (by repeat (exact Del.head))))) hRd (by intro s hs q hb; simp only [List.mem_cons, List.not_mem_nil, or_false] at hs; rcases hs with rfl | rfl <;> first | (simp [Res.reads] at hb; done) | exact hRc q hb)
  have hX16 := RdIn.trans (St.own_rd hr) hS (by repeat (first | exact Spl.nil | (apply Spl.cons (by repeat (exact Del.head))))) hQd (by intro s hs q hb; simp only [List.mem_cons, List.not_mem_nil, or_false] at hs; rcases hs with rfl | rfl <;> first | (simp [Res.reads] at hb; done) | exact hRc q hb)
  replace hS := hS.frame (by repeat (first | exact Spl.nil | (apply Spl.cons (by repeat (exact Del.head))))) hC16 (by intro r hr b hb; simp only [List.mem_cons, List.not_mem_nil, or_false] at hr; rcases hr with rfl | rfl | rfl <;> first | (simp [Res.reads] at hb; done) | exact hRd b hb | exact hQd b hb)
  replace hRd := hY16
  replace hQd := hX16
  simp only [List.cons_append, List.nil_append, rdS_num] at hS hcp4 ⊢
  replace hcp4 : ((frSt d).s4.2).length ≤ cc4 := hcp4
  replace hS : St (OwnB [.rd A 1 n (l.map (Value.int .u8))]) w0 w16 (.obj q (.cells #[.slice Ac4 ((frSt d).s4.2).length cc4, .int .i64 ((frSt d).s4.1)] 66 (0, 0)) :: .rd Ac4 1 ((frSt d).s4.2).length (((frSt d).s4.2).map (Value.int .u8)) :: _) := hS
  try simp only [opv, n1, n2, n3, n4, Value.cells]
  refine s_go (s_field_one Try.underlying45 (hu := Try.underlying40)) ?_
  try simp only [opv, n1, n2, n3, n4, Value.cells, List.getElem_toArray, List.getElem_cons_zero, List.getElem_cons_succ]
  rw [show (numS 4294967295 (frSt d).s3.1 (frSt d).s3.2).1 = valN (frSt d).s3 from rfl]
  have hn4 := numS_le 4294967295 (frSt d).s3.1 (frSt d).s3.2
  replace hn4 : valN (frSt d).s3 ≤ 4294967295 := hn4
  refine s_go (s_conv Try.underlying40 Try.underlying25 (hc := by exact wr_u32 (by omega) (by omega))) ?_
  try simp only [opv, n1, n2, n3, n4, Value.cells]
  refine s_go (m_fieldAddr Try.underlying90 (hi := ti25)) ?_
  try simp only [opv, n1, n2, n3, n4, Value.cells, Nat.zero_add, Nat.add_zero, List.getElem_toArray, List.getElem_cons_zero, List.getElem_cons_succ]
  refine m_store_obj ti25 (hS := hS) (h := fun w17 hS => ?_)
  try simp only [opv, n1, n2, n3, n4, Value.cells, Array.toArray_toList] at hS ⊢
  refine x_nil ?_
  refine hK12 _ _ ?_
  refine x_seq fun K13 hK13 => ?_
  refine x_region ?_
  refine s_go (s_move) ?_
  try simp only [opv, n1, n2, n3, n4, Value.cells]
  refine s_go (m_load_row Try.underlying45 (hi := ti45) (hS := hS)) ?_
  try simp only [opv, n1, n2, n3, n4, Value.cells, List.getElem_toArray, List.getElem_cons_zero, List.getElem_cons_succ]
  refine s_call en137 ?_
  try simp only [opv, n1, n2, n3, n4, Value.cells, List.map_toArray, List.map_cons, List.map_nil, List.append_toArray, List.cons_append, List.nil_append, Array.append_empty]
  refine CallR.mono (c_ref07Read _ q ((frSt d).s4.1) Ac4 cc4 ((frSt d).s4.2) hcp4 (hB.b4) (by have := hB.l4; omega) ⟨0, 4294967295, 0, nm0, none, 0, [], 0⟩ (by decide) (by decide) (hS.owns (by repeat (first | exact Spl.nil | (apply Spl.cons (by repeat (exact Del.head))))))) ?_
  rintro _ w18 ⟨B18, k18, rfl, hQe, Ac5, cc5, hcp5, hRe, hC18⟩
  have hY18 := RdIn.trans (St.own_rd hr) hS (by repeat (first | exact Spl.nil | (apply Spl.cons (by repeat (exact Del.head))))) hRe (by intro s hs q hb; simp only [List.mem_cons, List.not_mem_nil, or_false] at hs; rcases hs with rfl | rfl <;> first | (simp [Res.reads] at hb; done) | exact hRd q hb)
  have hX18 := RdIn.trans (St.own_rd hr) hS (by repeat (first | exact Spl.nil | (apply Spl.cons (by repeat (exact Del.head))))) hQe (by intro s hs q hb; simp only [List.mem_cons, List.not_mem_nil, or_false] at hs; rcases hs with rfl | rfl <;> first | (simp [Res.reads] at hb; done) | exact hRd q hb)
  replace hS := hS.frame (by repeat (first | exact Spl.nil | (apply Spl.cons (by repeat (exact Del.head))))) hC18 (by intro r hr b hb; simp only [List.mem_cons, List.not_mem_nil, or_false] at hr; rcases hr with rfl | rfl | rfl <;> first | (simp [Res.reads] at hb; done) | exact hRe b hb | exact hQe b hb)
  replace hRe := hY18
  replace hQe := hX18
  simp only [List.cons_append, List.nil_append, rdS_num] at hS hcp5 ⊢
  replace hcp5 : ((frSt d).s5.2).length ≤ cc5 := hcp5
  replace hS : St (OwnB [.rd A 1 n (l.map (Value.int .u8))]) w0 w18 (.obj q (.cells #[.slice Ac5 ((frSt d).s5.2).length cc5, .int .i64 ((frSt d).s5.1)] 66 (0, 0)) :: .rd Ac5 1 ((frSt d).s5.2).length (((frSt d).s5.2).map (Value.int .u8)) :: _) := hS
  try simp only [opv, n1, n2, n3, n4, Value.cells]
  refine s_go (s_field_one Try.underlying45 (hu := Try.underlying40)) ?_
  try simp only [opv, n1, n2, n3, n4, Value.cells, List.getElem_toArray, List.getElem_cons_zero, List.getElem_cons_succ]
  rw [show (numS 4294967295 (frSt d).s4.1 (frSt d).s4.2).1 = valN (frSt d).s4 from rfl]
  have hn5 := numS_le 4294967295 (frSt d).s4.1 (frSt d).s4.2
  replace hn5 : valN (frSt d).s4 ≤ 4294967295 := hn5
  refine s_go (s_conv Try.underlying40 Try.underlying25 (hc := by exact wr_u32 (by omega) (by omega))) ?_
  try simp only [opv, n1, n2, n3, n4, Value.cells]
  refine s_go (m_fieldAddr Try.underlying90 (hi := ti25)) ?_
  try simp only [opv, n1, n2, n3, n4, Value.cells, Nat.zero_add, Nat.add_zero, List.getElem_toArray, List.getElem_cons_zero, List.getElem_cons_succ]
  refine m_store_obj ti25 (hS := hS) (h := fun w19 hS => ?_)
  try simp only [opv, n1, n2, n3, n4, Value.cells, Array.toArray_toList] at hS ⊢
  refine x_nil ?_
  refine hK13 _ _ ?_
  refine x_seq fun K14 hK14 => ?_
  refine x_region ?_
  refine s_go (s_move) ?_
  try simp only [opv, n1, n2, n3, n4, Value.cells]
  refine s_go (m_load_row Try.underlying45 (hi := ti45) (hS := hS)) ?_
  try simp only [opv, n1, n2, n3, n4, Value.cells, List.getElem_toArray, List.getElem_cons_zero, List.getElem_cons_succ]
  refine s_call en137 ?_
  try simp only [opv, n1, n2, n3, n4, Value.cells, List.map_toArray, List.map_cons, List.map_nil, List.append_toArray, List.cons_append, List.nil_append, Array.append_empty]
  refine CallR.mono (c_ref07Read _ q ((frSt d).s5.1) Ac5 cc5 ((frSt d).s5.2) hcp5 (hB.b5) (by have := hB.l5; omega) ⟨1, 0, 0, nm0, none, 0, [], 0⟩ (by decide) (by decide) (hS.owns (by repeat (first | exact Spl.nil | (apply Spl.cons (by repeat (exact Del.head))))))) ?_
  rintro _ w20 ⟨B20, k20, rfl, hQf, Ac6, cc6, hcp6, hRf, hC20⟩
  have hY20 := RdIn.trans (St.own_rd hr) hS (by repeat (first | exact Spl.nil | (apply Spl.cons (by repeat (exact Del.head))))) hRf (by intro s hs q hb; simp only [List.mem_cons, List.not_mem_nil, or_false] at hs; rcases hs with rfl | rfl <;> first | (simp [Res.reads] at hb; done) | exact hRe q hb)
  have hX20 := RdIn.trans (St.own_rd hr) hS (by repeat (first | exact Spl.nil | (apply Spl.cons (by repeat (exact Del.head))))) hQf (by intro s hs q hb; simp only [List.mem_cons, List.not_mem_nil, or_false] at hs; rcases hs with rfl | rfl <;> first | (simp [Res.reads] at hb; done) | exact hRe q hb)
  replace hS := hS.frame (by repeat (first | exact Spl.nil | (apply Spl.cons (by repeat (exact Del.head))))) hC20 (by intro r hr b hb; simp only [List.mem_cons, List.not_mem_nil, or_false] at hr; rcases hr with rfl | rfl | rfl <;> first | (simp [Res.reads] at hb; done) | exact hRf b hb | exact hQf b hb)
  replace hRf := hY20
  replace hQf := hX20
  simp only [List.cons_append, List.nil_append, rdS_one] at hS hcp6 ⊢
  replace hcp6 : ((frSt d).s6.2).length ≤ cc6 := hcp6
  replace hS : St (OwnB [.rd A 1 n (l.map (Value.int .u8))]) w0 w20 (.obj q (.cells #[.slice Ac6 ((frSt d).s6.2).length cc6, .int .i64 ((frSt d).s6.1)] 66 (0, 0)) :: .rd Ac6 1 ((frSt d).s6.2).length (((frSt d).s6.2).map (Value.int .u8)) :: _) := hS
  try simp only [opv, n1, n2, n3, n4, Value.cells]
  refine s_go (s_field_one Try.underlying45 (hu := Try.underlying5)) ?_
  try simp only [opv, n1, n2, n3, n4, Value.cells, List.getElem_toArray, List.getElem_cons_zero, List.getElem_cons_succ]
  rw [show (oneS (frSt d).s5.1 (frSt d).s5.2).1 = valB (frSt d).s5 from rfl]
  refine s_go (m_fieldAddr Try.underlying90 (hi := ti5)) ?_
  try simp only [opv, n1, n2, n3, n4, Value.cells, Nat.zero_add, Nat.add_zero, List.getElem_toArray, List.getElem_cons_zero, List.getElem_cons_succ]
  refine m_store_obj ti5 (hS := hS) (h := fun w21 hS => ?_)
  try simp only [opv, n1, n2, n3, n4, Value.cells, Array.toArray_toList] at hS ⊢
  refine x_nil ?_
  refine hK14 _ _ ?_
  refine x_seq fun K15 hK15 => ?_
  refine x_region ?_
  refine s_go (s_move) ?_
  try simp only [opv, n1, n2, n3, n4, Value.cells]
  refine s_go (m_load_row Try.underlying45 (hi := ti45) (hS := hS)) ?_
  try simp only [opv, n1, n2, n3, n4, Value.cells, List.getElem_toArray, List.getElem_cons_zero, List.getElem_cons_succ]
  refine s_call en137 ?_
  try simp only [opv, n1, n2, n3, n4, Value.cells, List.map_toArray, List.map_cons, List.map_nil, List.append_toArray, List.cons_append, List.nil_append, Array.append_empty]
  refine CallR.mono (c_ref07Read _ q ((frSt d).s6.1) Ac6 cc6 ((frSt d).s6.2) hcp6 (hB.b6) (by have := hB.l6; omega) ⟨0, 4294967295, 0, nm0, none, 0, [], 0⟩ (by decide) (by decide) (hS.owns (by repeat (first | exact Spl.nil | (apply Spl.cons (by repeat (exact Del.head))))))) ?_
  rintro _ w22 ⟨B22, k22, rfl, hQg, Ac7, cc7, hcp7, hRg, hC22⟩
  have hY22 := RdIn.trans (St.own_rd hr) hS (by repeat (first | exact Spl.nil | (apply Spl.cons (by repeat (exact Del.head))))) hRg (by intro s hs q hb; simp only [List.mem_cons, List.not_mem_nil, or_false] at hs; rcases hs with rfl | rfl <;> first | (simp [Res.reads] at hb; done) | exact hRf q hb)
  have hX22 := RdIn.trans (St.own_rd hr) hS (by repeat (first | exact Spl.nil | (apply Spl.cons (by repeat (exact Del.head))))) hQg (by intro s hs q hb; simp only [List.mem_cons, List.not_mem_nil, or_false] at hs; rcases hs with rfl | rfl <;> first | (simp [Res.reads] at hb; done) | exact hRf q hb)
  replace hS := hS.frame (by repeat (first | exact Spl.nil | (apply Spl.cons (by repeat (exact Del.head))))) hC22 (by intro r hr b hb; simp only [List.mem_cons, List.not_mem_nil, or_false] at hr; rcases hr with rfl | rfl | rfl <;> first | (simp [Res.reads] at hb; done) | exact hRg b hb | exact hQg b hb)
  replace hRg := hY22
  replace hQg := hX22
  simp only [List.cons_append, List.nil_append, rdS_num] at hS hcp7 ⊢
  replace hcp7 : ((frSt d).s7.2).length ≤ cc7 := hcp7
  replace hS : St (OwnB [.rd A 1 n (l.map (Value.int .u8))]) w0 w22 (.obj q (.cells #[.slice Ac7 ((frSt d).s7.2).length cc7, .int .i64 ((frSt d).s7.1)] 66 (0, 0)) :: .rd Ac7 1 ((frSt d).s7.2).length (((frSt d).s7.2).map (Value.int .u8)) :: _) := hS
  try simp only [opv, n1, n2, n3, n4, Value.cells]
  refine s_go (s_field_one Try.underlying45 (hu := Try.underlying40)) ?_
  try simp only [opv, n1, n2, n3, n4, Value.cells, List.getElem_toArray, List.getElem_cons_zero, List.getElem_cons_succ]
  rw [show (numS 4294967295 (frSt d).s6.1 (frSt d).s6.2).1 = valN (frSt d).s6 from rfl]
  have hn7 := numS_le 4294967295 (frSt d).s6.1 (frSt d).s6.2
  replace hn7 : valN (frSt d).s6 ≤ 4294967295 := hn7
  refine s_go (s_conv Try.underlying40 Try.underlying25 (hc := by exact wr_u32 (by omega) (by omega))) ?_
  try simp only [opv, n1, n2, n3, n4, Value.cells]
  refine s_go (m_fieldAddr Try.underlying90 (hi := ti25)) ?_
  try simp only [opv, n1, n2, n3, n4, Value.cells, Nat.zero_add, Nat.add_zero, List.getElem_toArray, List.getElem_cons_zero, List.getElem_cons_succ]
  refine m_store_obj ti25 (hS := hS) (h := fun w23 hS => ?_)
  try simp only [opv, n1, n2, n3, n4, Value.cells, Array.toArray_toList] at hS ⊢
  refine x_nil ?_
  refine hK15 _ _ ?_
  refine x_seq fun K16 hK16 => ?_
  refine x_region ?_
  refine s_go (s_move) ?_
  try simp only [opv, n1, n2, n3, n4, Value.cells]
  refine s_go (m_load_row Try.underlying45 (hi := ti45) (hS := hS)) ?_
  try simp only [opv, n1, n2, n3, n4, Value.cells, List.getElem_toArray, List.getElem_cons_zero, List.getElem_cons_succ]
  refine s_call en137 ?_
  try simp only [opv, n1, n2, n3, n4, Value.cells, List.map_toArray, List.map_cons, List.map_nil, List.append_toArray, List.cons_append, List.nil_append, Array.append_empty]
  refine CallR.mono (c_ref07Read _ q ((frSt d).s7.1) Ac7 cc7 ((frSt d).s7.2) hcp7 (hB.b7) (by have := hB.l7; omega) ⟨1, 0, 0, nm0, none, 0, [], 0⟩ (by decide) (by decide) (hS.owns (by repeat (first | exact Spl.nil | (apply Spl.cons (by repeat (exact Del.head))))))) ?_
  rintro _ w24 ⟨B24, k24, rfl, hQh, Ac8, cc8, hcp8, hRh, hC24⟩
  have hY24 := RdIn.trans (St.own_rd hr) hS (by repeat (first | exact Spl.nil | (apply Spl.cons (by repeat (exact Del.head))))) hRh (by intro s hs q hb; simp only [List.mem_cons, List.not_mem_nil, or_false] at hs; rcases hs with rfl | rfl <;> first | (simp [Res.reads] at hb; done) | exact hRg q hb)
  have hX24 := RdIn.trans (St.own_rd hr) hS (by repeat (first | exact Spl.nil | (apply Spl.cons (by repeat (exact Del.head))))) hQh (by intro s hs q hb; simp only [List.mem_cons, List.not_mem_nil, or_false] at hs; rcases hs with rfl | rfl <;> first | (simp [Res.reads] at hb; done) | exact hRg q hb)
  replace hS := hS.frame (by repeat (first | exact Spl.nil | (apply Spl.cons (by repeat (exact Del.head))))) hC24 (by intro r hr b hb; simp only [List.mem_cons, List.not_mem_nil, or_false] at hr; rcases hr with rfl | rfl | rfl <;> first | (simp [Res.reads] at hb; done) | exact hRh b hb | exact hQh b hb)
  replace hRh := hY24
  replace hQh := hX24
  simp only [List.cons_append, List.nil_append, rdS_one] at hS hcp8 ⊢
  replace hcp8 : ((frSt d).s8.2).length ≤ cc8 := hcp8
  replace hS : St (OwnB [.rd A 1 n (l.map (Value.int .u8))]) w0 w24 (.obj q (.cells #[.slice Ac8 ((frSt d).s8.2).length cc8, .int .i64 ((frSt d).s8.1)] 66 (0, 0)) :: .rd Ac8 1 ((frSt d).s8.2).length (((frSt d).s8.2).map (Value.int .u8)) :: _) := hS
  try simp only [opv, n1, n2, n3, n4, Value.cells]
  refine s_go (s_field_one Try.underlying45 (hu := Try.underlying5)) ?_
  try simp only [opv, n1, n2, n3, n4, Value.cells, List.getElem_toArray, List.getElem_cons_zero, List.getElem_cons_succ]
  rw [show (oneS (frSt d).s7.1 (frSt d).s7.2).1 = valB (frSt d).s7 from rfl]
  refine s_go (s_assign) ?_
  try simp only [opv, n1, n2, n3, n4, Value.cells]
  refine x_nil ?_
  refine hK16 _ _ ?_
  refine x_seq fun K17 hK17 => ?_
  refine x_region ?_
  refine s_go (s_move) ?_
  try simp only [opv, n1, n2, n3, n4, Value.cells]
  refine s_go (s_build_struct (cells := #[_, .int .u64 0, .int .u8 0, .int .u8 0, .int .u8 0, .int .u8 0, .int .u8 0, .int .u8 0, .int .u8 0, .int .u8 0, .int .u8 0, .slice none 0 0, _]) Try.underlying45 ti45 bp45 (hc := by simp only [List.map_toArray, List.map_cons, List.map_nil, opv, n1, n2, n3, n4, Value.cells, List.toList_toArray]; (repeat (refine fill_cons rfl rfl (Nat.le_of_ble_eq_true rfl) ?_)); rfl)) ?_
  try simp only [opv, n1, n2, n3, n4, Value.cells]
  refine s_call en137 ?_
  try simp only [opv, n1, n2, n3, n4, Value.cells, List.map_toArray, List.map_cons, List.map_nil, List.append_toArray, List.cons_append, List.nil_append, Array.append_empty]
  refine CallR.mono (c_ref07Read _ q ((frSt d).s8.1) Ac8 cc8 ((frSt d).s8.2) hcp8 (hB.b8) (by have := hB.l8; omega) ⟨3, 0, 0, nm0, none, 0, [], 65536⟩ (by decide) (by decide) (hS.owns (by repeat (first | exact Spl.nil | (apply Spl.cons (by repeat (exact Del.head))))))) ?_
  rintro _ w25 ⟨B9, k9, rfl, hQi, Ac9, cc9, hcp9, hRi, hC25⟩
  have hY25 := RdIn.trans (St.own_rd hr) hS (by repeat (first | exact Spl.nil | (apply Spl.cons (by repeat (exact Del.head))))) hRi (by intro s hs q hb; simp only [List.mem_cons, List.not_mem_nil, or_false] at hs; rcases hs with rfl | rfl <;> first | (simp [Res.reads] at hb; done) | exact hRh q hb)
  have hX25 := RdIn.trans (St.own_rd hr) hS (by repeat (first | exact Spl.nil | (apply Spl.cons (by repeat (exact Del.head))))) hQi (by intro s hs q hb; simp only [List.mem_cons, List.not_mem_nil, or_false] at hs; rcases hs with rfl | rfl <;> first | (simp [Res.reads] at hb; done) | exact hRh q hb)
  replace hS := hS.frame (by repeat (first | exact Spl.nil | (apply Spl.cons (by repeat (exact Del.head))))) hC25 (by intro r hr b hb; simp only [List.mem_cons, List.not_mem_nil, or_false] at hr; rcases hr with rfl | rfl | rfl <;> first | (simp [Res.reads] at hb; done) | exact hRi b hb | exact hQi b hb)
  replace hRi := hY25
  replace hQi := hX25
  simp only [List.cons_append, List.nil_append, rdS_bts] at hS hcp9 ⊢
  replace hcp9 : ((frSt d).s9.2).length ≤ cc9 := hcp9
  replace hS : St (OwnB [.rd A 1 n (l.map (Value.int .u8))]) w0 w25 (.obj q (.cells #[.slice Ac9 ((frSt d).s9.2).length cc9, .int .i64 ((frSt d).s9.1)] 66 (0, 0)) :: .rd Ac9 1 ((frSt d).s9.2).length (((frSt d).s9.2).map (Value.int .u8)) :: _) := hS
  try simp only [opv, n1, n2, n3, n4, Value.cells]
  refine s_go (s_field_one Try.underlying45 (hu := Try.underlying43)) ?_
  try simp only [opv, n1, n2, n3, n4, Value.cells, List.getElem_toArray, List.getElem_cons_zero, List.getElem_cons_succ]
  refine s_go (m_fieldAddr Try.underlying90 (hi := ti43)) ?_
  try simp only [opv, n1, n2, n3, n4, Value.cells, Nat.zero_add, Nat.add_zero, List.getElem_toArray, List.getElem_cons_zero, List.getElem_cons_succ]
  refine m_store_obj ti43 (hS := hS) (h := fun w26 hS => ?_)
  try simp only [opv, n1, n2, n3, n4, Value.cells, Array.toArray_toList] at hS ⊢
  refine x_nil ?_
  refine hK17 _ _ ?_
  refine x_seq fun K18 hK18 => ?_
  refine x_region ?_
  refine s_go (s_move) ?_
  try simp only [opv, n1, n2, n3, n4, Value.cells]
  refine s_go (s_eql) ?_
  try simp only [opv, n1, n2, n3, n4, Value.cells]
  refine s_go (m_fieldAddr Try.underlying90 (hi := ti4)) ?_
  try simp only [opv, n1, n2, n3, n4, Value.cells, Nat.zero_add, Nat.add_zero, List.getElem_toArray, List.getElem_cons_zero, List.getElem_cons_succ]
  refine m_store_obj ti4 (hS := hS) (h := fun w27 hS => ?_)
  try simp only [opv, n1, n2, n3, n4, Value.cells, Array.toArray_toList] at hS ⊢
  replace hS : St (OwnB [.rd A 1 n (l.map (Value.int .u8))]) w0 w27 [.obj q (.cells #[.slice Ac9 ((frSt d).s9.2).length cc9, .int .i64 ((frSt d).s9.1)] 66 (0, 0)), .rd Ac9 1 (frSt d).s9.2.length ((frSt d).s9.2.map (Value.int .u8)), .rd B9 1 (frRaw d).d.length ((frRaw d).d.map (Value.int .u8)), .obj g9 (.cells #[.int .u8 (valB (0, d)), .int .u8 (valB (frSt d).s1), .int .u8 (valB (frSt d).s2), .int .u32 (valN (frSt d).s3 : Int), .int .u32 (valN (frSt d).s4 : Int), .int .u8 (valB (frSt d).s5), .int .u32 (valN (frSt d).s6 : Int), .bool (decide (valB (frSt d).s7 = 1)), .slice B9 (bytS 65536 (frSt d).s8.1 (frSt d).s8.2).1.length k9] 90 (0, 0)), .obj gr (.cells #[.int .u8 0, .int .u8 0, .int .u8 0, .int .u32 0, .int .u32 0, .int .u8 0, .int .u32 0, .bool false, .slice none 0 0] 90 (0, 0))] := hS.sel (by repeat (first | exact Sel.nil | (refine Sel.cons (by repeat (first | exact Del.head | apply Del.tail)) ?_)))
  rw [fr_cells hdb] at hS
  refine x_nil ?_
  refine hK18 _ _ ?_
  refine x_seq fun K19 hK19 => ?_
  refine x_block ?_
  refine x_seq fun K20 hK20 => ?_
  refine x_region ?_
  refine s_go (s_move) ?_
  try simp only [opv, n1, n2, n3, n4, Value.cells]
  refine s_go (s_nilCheck) ?_
  try simp only [opv, n1, n2, n3, n4, Value.cells]
  refine s_go (m_fieldAddr Try.underlying66 (hi := ti53)) ?_
  try simp only [opv, n1, n2, n3, n4, Value.cells, Nat.zero_add, Nat.add_zero, List.getElem_toArray, List.getElem_cons_zero, List.getElem_cons_succ]
  refine s_go (m_load_obj Try.underlying53 (hS := hS)) ?_
  try simp only [opv, n1, n2, n3, n4, Value.cells, List.getElem_toArray, List.getElem_cons_zero, List.getElem_cons_succ]
  refine s_go (s_neq) ?_
  try simp only [opv, n1, n2, n3, n4, Value.cells]
  refine s_go (s_assign) ?_
  try simp only [opv, n1, n2, n3, n4, Value.cells]
  refine x_nil ?_
  refine hK20 _ _ ?_
  refine x_cond (ht := fun hc2 => ?_) (hf := fun hc2 => ?_)
  ·
   try simp only [decide_eq_true_eq, decide_eq_false_iff_not, Bool.not_eq_true', Bool.not_eq_false', Int.not_lt, Int.not_le, ne_eq, Decidable.not_not, bne_iff_ne, beq_iff_eq, not_true_eq_false, not_false_eq_true] at hc2
   have h9 : ¬ (frSt d).s9.1 = 0 := hc2
   have hfe : frE d = (frSt d).s9.1 := if_neg h9
   refine x_seq fun K21 hK21 => ?_
   refine x_mixed_f [] 0 [3, 81, 82, 83, 84, 85] (fun f w => f 3 = .int .i64 (frE d) ∧ St (OwnB [.rd A 1 n (l.map (Value.int .u8))]) w0 w [.obj gr (.cells #[.int .u8 0, .int .u8 0, .int .u8 0, .int .u32 0, .int .u32 0, .int .u8 0, .int .u32 0, .bool false, .slice none 0 0] 90 (0, 0))]) (by kernel_rfl) (by kernel_rfl) (by kernel_rfl) (by decide) hS (fun w28 hS => ?mixpre1801) ?mixrest1801
   case mixpre1801 =>
    refine p_nil ?_
    simp only [List.length_cons, List.length_nil, Nat.reduceAdd, Nat.reduceSub]
    refine any_go (i := 0) (by rfl) (by decide +kernel) (by decide +kernel) noLate_nil (go_yields w_none (fun w hS => s_build_struct (cells := #[.int .u8 0, .int .u8 0, .int .u8 0, .int .u32 0, .int .u32 0, .int .u8 0, .int .u32 0, .bool false, .slice none 0 0]) Try.underlying90 ti90 bp90 (hc := by simp only [List.map_toArray, List.map_cons, List.map_nil, opv, n1, n2, n3, n4, Value.cells, List.toList_toArray]; (repeat (refine fill_cons rfl rfl (Nat.le_of_ble_eq_true rfl) ?_)); rfl))) ?_
    try simp only [opv, n1, n2, n3, n4, Value.cells]
    refine any_go (i := 1) (by rfl) (by decide +kernel) (by decide +kernel) noLate_nil (go_yields w_none (fun w hS => s_move)) ?_
    try simp only [opv, n1, n2, n3, n4, Value.cells]
    refine any_go (i := 2) (by rfl) (by decide +kernel) (by decide +kernel) noLate_nil (go_yields w_none (fun w hS => s_nilCheck)) ?_
    try simp only [opv, n1, n2, n3, n4, Value.cells]
    refine any_go (i := 3) (by rfl) (by decide +kernel) (by decide +kernel) noLate_nil (go_yields w_none (fun w hS => m_fieldAddr Try.underlying66 (hi := ti53))) ?_
    try simp only [opv, n1, n2, n3, n4, Value.cells, Nat.zero_add, Nat.add_zero, List.getElem_toArray, List.getElem_cons_zero, List.getElem_cons_succ]
    refine any_go (i := 4) (by rfl) (by decide +kernel) (by decide +kernel) noLate_nil (go_yields w_none (fun w hS => m_load_obj Try.underlying53 (hS := hS))) ?_
    try simp only [opv, n1, n2, n3, n4, Value.cells, List.getElem_toArray, List.getElem_cons_zero, List.getElem_cons_succ]
    refine any_step [5] (by kernel_rfl) (by decide) (fun w29 hE => ⟨fun _ => (hS.ext hE).sel (by repeat (first | exact Sel.nil | (refine Sel.cons (by repeat (exact Del.head)) ?_))), ?_⟩)
    replace hS := hS.ext hE
    intro i hi
    simp only [List.mem_cons, List.not_mem_nil, or_false] at hi
    subst hi
    ·
     refine any_op (by rfl) ?_
     refine m_store_obj ti90 (hS := hS) (h := fun w30 hS => ?_)
     try simp only [opv, n1, n2, n3, n4, Value.cells, Array.toArray_toList] at hS ⊢
     refine x_nil ?_
     refine any_go (i := 6) (by rfl) (by decide +kernel) (by decide +kernel) noLate_nil (go_yields w_none (fun w hS => s_assign)) ?_
     try simp only [opv, n1, n2, n3, n4, Value.cells]
     refine any_nil (by kernel_rfl) (fun w31 hE => ?_)
     replace hS := hS.ext hE
     refine ⟨fun _ => hS.sel (by repeat (first | exact Sel.nil | (refine Sel.cons (by repeat (exact Del.head)) ?_))), ?_⟩
     refine mix_leaf (by simp only [clob, List.foldl, n1, n2, n3, n4]) ?_
     try simp only [n1, n2]
     rw [hfe]
     exact ⟨by trivial, hS.sel (by repeat (first | exact Sel.nil | (refine Sel.cons (by repeat (first | exact Del.head | apply Del.tail)) ?_)))⟩
   intro fm1 w32 hM
   obtain ⟨h3, hS⟩ := hM
   simp only [clob, List.foldl, n3, n4, h3]
   refine hK21 _ _ ?_
   refine x_ret ?_
   refine r_cell_tmp_agg rfl Try.underlying90 ti90 (hS := hS) (hR := ?_)
   have hdE := hE1
   have hdF : decF l = fm0 := by rw [hF1, frF, if_neg (by rw [hfe]; exact h9)]
   exact ⟨none, 0, by rw [hdE, hdF]; rfl, St.ext_own hS, by rw [hdF]; exact rd_zero _ _ _, by rw [hdF]; exact RdIn.none _ _ _⟩
  ·
   try simp only [decide_eq_true_eq, decide_eq_false_iff_not, Bool.not_eq_true', Bool.not_eq_false', Int.not_lt, Int.not_le, ne_eq, Decidable.not_not, bne_iff_ne, beq_iff_eq, not_true_eq_false, not_false_eq_true] at hc2
   have h9 : (frSt d).s9.1 = 0 := by simpa using hc2
   refine x_seq fun K22 hK22 => ?_
   refine x_region ?_
   refine s_go (s_move) ?_
   try simp only [opv, n1, n2, n3, n4, Value.cells]
   refine s_go (s_gtr) ?_
   try simp only [opv, n1, n2, n3, n4, Value.cells]
   refine s_go (s_move) ?_
   try simp only [opv, n1, n2, n3, n4, Value.cells]
   refine s_part 89 rfl (fun hp1 => ?_) (fun hp1 => ?_)
   ·
    try simp only [n3, n4]
    try simp only [decide_eq_true_eq, decide_eq_false_iff_not, Bool.not_eq_true', Bool.not_eq_false', Int.not_lt, Int.not_le, ne_eq, Decidable.not_not] at hp1
    have hbad : 1 < (valB (frSt d).s7) ∨ 0 < (frSt d).s9.2.length := .inl hp1
    refine g_off (yi (t := 89) rfl rfl) ?_
    try simp only [opv, n1, n2, n3, n4, Value.cells]
    refine g_off (yi (t := 89) rfl rfl) ?_
    try simp only [opv, n1, n2, n3, n4, Value.cells]
    refine g_off (yi (t := 89) rfl rfl) ?_
    try simp only [opv, n1, n2, n3, n4, Value.cells]
    refine g_off (yi (t := 89) rfl rfl) ?_
    try simp only [opv, n1, n2, n3, n4, Value.cells]
    refine g_off (yi (t := 89) rfl rfl) ?_
    try simp only [opv, n1, n2, n3, n4, Value.cells]
    refine g_off (yi (t := 89) rfl rfl) ?_
    try simp only [opv, n1, n2, n3, n4, Value.cells]
    refine s_go (s_pick_t) ?_
    try simp only [opv, n1, n2, n3, n4, Value.cells]
    refine s_go (s_assign) ?_
    try simp only [opv, n1, n2, n3, n4, Value.cells]
    refine x_nil ?_
    refine hK22 _ _ ?_
    refine x_cond_t (h := ?_)
    try have hbad : 1 < (valB (frSt d).s7) ∨ 0 < (frSt d).s9.2.length := .inr (by omega)
    have hfe : frE d = 3 := by rw [frE, if_pos h9, if_pos hbad]
    refine x_seq fun K23 hK23 => ?_
    refine x_region ?_
    refine s_go (s_build_struct (cells := #[.int .u8 0, .int .u8 0, .int .u8 0, .int .u32 0, .int .u32 0, .int .u8 0, .int .u32 0, .bool false, .slice none 0 0]) Try.underlying90 ti90 bp90 (hc := by simp only [List.map_toArray, List.map_cons, List.map_nil, opv, n1, n2, n3, n4, Value.cells, List.toList_toArray]; (repeat (refine fill_cons rfl rfl (Nat.le_of_ble_eq_true rfl) ?_)); rfl)) ?_
    try simp only [opv, n1, n2, n3, n4, Value.cells]
    refine m_store_obj ti90 (hS := hS) (h := fun w33 hS => ?_)
    try simp only [opv, n1, n2, n3, n4, Value.cells, Array.toArray_toList] at hS ⊢
    refine s_go (s_assign) ?_
    try simp only [opv, n1, n2, n3, n4, Value.cells]
    refine x_nil ?_
    refine hK23 _ _ ?_
    refine x_ret ?_
    refine r_cell_tmp_agg rfl Try.underlying90 ti90 (hS := hS) (hR := ?_)
    have hdE := hE1.trans hfe
    have hdF : decF l = fm0 := by rw [hF1, frF, if_neg (by rw [hfe]; decide)]
    exact ⟨none, 0, by rw [hdE, hdF]; rfl, St.ext_own hS, by rw [hdF]; exact rd_zero _ _ _, by rw [hdF]; exact RdIn.none _ _ _⟩
   ·
    try simp only [n3, n4]
    try simp only [decide_eq_true_eq, decide_eq_false_iff_not, Bool.not_eq_true', Bool.not_eq_false', Int.not_lt, Int.not_le, ne_eq, Decidable.not_not] at hp1
    have hl1 : ¬ 1 < (valB (frSt d).s7) := by omega
    refine g_on (yi (t := 89) rfl rfl) ?_
    refine s_go (s_move) ?_
    try simp only [opv, n1, n2, n3, n4, Value.cells]
    refine g_on (yi (t := 89) rfl rfl) ?_
    refine s_go (s_nilCheck) ?_
    try simp only [opv, n1, n2, n3, n4, Value.cells]
    refine g_on (yi (t := 89) rfl rfl) ?_
    refine s_go (m_fieldAddr Try.underlying66 (hi := ti43)) ?_
    try simp only [opv, n1, n2, n3, n4, Value.cells, Nat.zero_add, Nat.add_zero, List.getElem_toArray, List.getElem_cons_zero, List.getElem_cons_succ]
    refine g_on (yi (t := 89) rfl rfl) ?_
    refine s_go (m_load_obj Try.underlying43 (hS := hS)) ?_
    try simp only [opv, n1, n2, n3, n4, Value.cells, List.getElem_toArray, List.getElem_cons_zero, List.getElem_cons_succ]
    refine g_on (yi (t := 89) rfl rfl) ?_
    refine s_go (s_len_sl Try.underlying43) ?_
    try simp only [opv, n1, n2, n3, n4, Value.cells]
    refine g_on (yi (t := 89) rfl rfl) ?_
    refine s_go (s_gtr) ?_
    try simp only [opv, n1, n2, n3, n4, Value.cells]
    refine s_go (s_pick_f) ?_
    try simp only [opv, n1, n2, n3, n4, Value.cells]
    refine s_go (s_assign) ?_
    try simp only [opv, n1, n2, n3, n4, Value.cells]
    refine x_nil ?_
    refine hK22 _ _ ?_
    refine x_cond (ht := fun hc4 => ?_) (hf := fun hc4 => ?_)
    ·
     try simp only [decide_eq_true_eq, decide_eq_false_iff_not, Bool.not_eq_true', Bool.not_eq_false', Int.not_lt, Int.not_le, ne_eq, Decidable.not_not, bne_iff_ne, beq_iff_eq, not_true_eq_false, not_false_eq_true] at hc4
     try have hbad : 1 < (valB (frSt d).s7) ∨ 0 < (frSt d).s9.2.length := .inr (by omega)
     have hfe : frE d = 3 := by rw [frE, if_pos h9, if_pos hbad]
     refine x_seq fun K24 hK24 => ?_
     refine x_region ?_
     refine s_go (s_build_struct (cells := #[.int .u8 0, .int .u8 0, .int .u8 0, .int .u32 0, .int .u32 0, .int .u8 0, .int .u32 0, .bool false, .slice none 0 0]) Try.underlying90 ti90 bp90 (hc := by simp only [List.map_toArray, List.map_cons, List.map_nil, opv, n1, n2, n3, n4, Value.cells, List.toList_toArray]; (repeat (refine fill_cons rfl rfl (Nat.le_of_ble_eq_true rfl) ?_)); rfl)) ?_
     try simp only [opv, n1, n2, n3, n4, Value.cells]
     refine m_store_obj ti90 (hS := hS) (h := fun w34 hS => ?_)
     try simp only [opv, n1, n2, n3, n4, Value.cells, Array.toArray_toList] at hS ⊢
     refine s_go (s_assign) ?_
     try simp only [opv, n1, n2, n3, n4, Value.cells]
     refine x_nil ?_
     refine hK24 _ _ ?_
     refine x_ret ?_
     refine r_cell_tmp_agg rfl Try.underlying90 ti90 (hS := hS) (hR := ?_)
     have hdE := hE1.trans hfe
     have hdF : decF l = fm0 := by rw [hF1, frF, if_neg (by rw [hfe]; decide)]
     exact ⟨none, 0, by rw [hdE, hdF]; rfl, St.ext_own hS, by rw [hdF]; exact rd_zero _ _ _, by rw [hdF]; exact RdIn.none _ _ _⟩
    ·
     try simp only [decide_eq_true_eq, decide_eq_false_iff_not, Bool.not_eq_true', Bool.not_eq_false', Int.not_lt, Int.not_le, ne_eq, Decidable.not_not, bne_iff_ne, beq_iff_eq, not_true_eq_false, not_false_eq_true] at hc4
     have hfe : frE d = checkF (frRaw d) := by rw [frE, if_pos h9, if_neg (by omega)]
     refine x_seq fun K25 hK25 => ?_
     refine x_region ?_
     refine s_go (m_load_row Try.underlying90 (hi := ti90) (hS := hS)) ?_
     try simp only [opv, n1, n2, n3, n4, Value.cells, List.getElem_toArray, List.getElem_cons_zero, List.getElem_cons_succ]
     refine s_call en67 ?_
     try simp only [opv, n1, n2, n3, n4, Value.cells, List.map_toArray, List.map_cons, List.map_nil, List.append_toArray, List.cons_append, List.nil_append, Array.append_empty]
     refine CallR.mono (c_ref27Check _ _ _ _) ?_
     rintro _ w35 ⟨rfl, hE35⟩
     replace hS := hS.ext hE35
     try simp only [opv, n1, n2, n3, n4, Value.cells]
     refine s_go (s_neq) ?_
     try simp only [opv, n1, n2, n3, n4, Value.cells]
     refine s_go (s_assign) ?_
     try simp only [opv, n1, n2, n3, n4, Value.cells]
     refine x_nil ?_
     refine hK25 _ _ ?_
     refine x_cond (ht := fun hc5 => ?_) (hf := fun hc5 => ?_)
     ·
      try simp only [decide_eq_true_eq, decide_eq_false_iff_not, Bool.not_eq_true', Bool.not_eq_false', Int.not_lt, Int.not_le, ne_eq, Decidable.not_not, bne_iff_ne, beq_iff_eq, not_true_eq_false, not_false_eq_true] at hc5
      have hfn : ¬ frE d = 0 := by rw [hfe]; exact hc5
      refine x_seq fun K26 hK26 => ?_
      refine x_region ?_
      refine s_go (s_build_struct (cells := #[.int .u8 0, .int .u8 0, .int .u8 0, .int .u32 0, .int .u32 0, .int .u8 0, .int .u32 0, .bool false, .slice none 0 0]) Try.underlying90 ti90 bp90 (hc := by simp only [List.map_toArray, List.map_cons, List.map_nil, opv, n1, n2, n3, n4, Value.cells, List.toList_toArray]; (repeat (refine fill_cons rfl rfl (Nat.le_of_ble_eq_true rfl) ?_)); rfl)) ?_
      try simp only [opv, n1, n2, n3, n4, Value.cells]
      refine s_go (m_load_row Try.underlying90 (hi := ti90) (hS := hS)) ?_
      try simp only [opv, n1, n2, n3, n4, Value.cells, List.getElem_toArray, List.getElem_cons_zero, List.getElem_cons_succ]
      refine s_call en67 ?_
      try simp only [opv, n1, n2, n3, n4, Value.cells, List.map_toArray, List.map_cons, List.map_nil, List.append_toArray, List.cons_append, List.nil_append, Array.append_empty]
      refine CallR.mono (c_ref27Check _ _ _ _) ?_
      rintro _ w36 ⟨rfl, hE36⟩
      replace hS := hS.ext hE36
      try simp only [opv, n1, n2, n3, n4, Value.cells]
      refine m_store_obj ti90 (hS := hS) (h := fun w37 hS => ?_)
      try simp only [opv, n1, n2, n3, n4, Value.cells, Array.toArray_toList] at hS ⊢
      refine s_go (s_assign) ?_
      try simp only [opv, n1, n2, n3, n4, Value.cells]
      refine x_nil ?_
      refine hK26 _ _ ?_
      refine x_ret ?_
      refine r_cell_tmp_agg rfl Try.underlying90 ti90 (hS := hS) (hR := ?_)
      have hdE := hE1.trans hfe
      have hdF : decF l = fm0 := by rw [hF1, frF, if_neg hfn]
      exact ⟨none, 0, by rw [hdE, hdF]; rfl, St.ext_own hS, by rw [hdF]; exact rd_zero _ _ _, by rw [hdF]; exact RdIn.none _ _ _⟩
     ·
      try simp only [decide_eq_true_eq, decide_eq_false_iff_not, Bool.not_eq_true', Bool.not_eq_false', Int.not_lt, Int.not_le, ne_eq, Decidable.not_not, bne_iff_ne, beq_iff_eq, not_true_eq_false, not_false_eq_true] at hc5
      have hfn : frE d = 0 := by rw [hfe]; simpa using hc5
      have hdF : decF l = frRaw d := by rw [hF1, frF, if_pos hfn]
      have hdE : decE l = 0 := hE1.trans hfn
      refine x_skip ?_
      refine hK19 _ _ ?_
      refine x_seq fun K27 hK27 => ?_
      refine x_region ?_
      refine s_go (m_load_row Try.underlying90 (hi := ti90) (hS := hS)) ?_
      try simp only [opv, n1, n2, n3, n4, Value.cells, List.getElem_toArray, List.getElem_cons_zero, List.getElem_cons_succ]
      refine m_store_obj ti90 (hS := hS) (h1 := by simp [opv, Value.cells, FA, fmL, Value.oneCell']) (hc := by exact splice_whole rfl) (h := fun w38 hS => ?_)
      try simp only [opv, n1, n2, n3, n4, Value.cells, Array.toArray_toList] at hS ⊢
      refine s_go (s_assign) ?_
      try simp only [opv, n1, n2, n3, n4, Value.cells]
      refine x_nil ?_
      refine hK27 _ _ ?_
      refine x_ret ?_
      refine r_cell_tmp_agg rfl Try.underlying90 ti90 (hS := hS) (hR := ?_)
      exact ⟨B9, k9, by rw [hdE, hdF]; rfl, St.ext_own hS, by rw [hdF]; exact hS.hasRd (by repeat (first | exact Has.head | apply Has.tail)), by rw [hdF]; exact hQi⟩
end Go.Proofs.Ytpjpaipkkcengaa
set_option linter.unusedSimpArgs false
set_option linter.unusedVariables false
set_option maxHeartbeats 2000000
set_option maxRecDepth 100000
namespace Go.Proofs.Ytpjpaipkkcengaa
open Go.RowKit

theorem dec_enc {f : Fm} (hf : FmOk f) (h : checkF f = 0) : decE (encF f) = 0 ∧ decF (encF f) = f := by
  obtain ⟨h1, h2⟩ := fr_back hf h
  obtain ⟨h3, h4⟩ := open_sealed (fmBody_byt hf)
  rw [encF_yes h]
  exact ⟨by rw [decE, if_pos h3, h4, h1], by rw [decF, if_pos h3, h4, h2]⟩
theorem decF_ok {l : List Int} (hb : Byt l) : FmOk (decF l) := by
  unfold decF; split
  · exact frF_ok (openD_byt hb)
  · exact ⟨by decide, by decide, by decide, by decide, by decide, by decide, by decide, by intro y hy; cases hy⟩
theorem decF_len (l : List Int) : (decF l).d.length ≤ 65536 := by
  unfold decF; split
  · exact frF_len _
  · simp [fm0]
theorem encF_len {f : Fm} (hf : FmOk f) (h : f.d.length ≤ 100000) : (encF f).length ≤ f.d.length + 26 := by
  have h1 := fmBody_len hf (by omega)
  have h2 := sealed_len (fmBody f)
  unfold encF; split
  · omega
  · simp
theorem encF_byt {f : Fm} (hf : FmOk f) : Byt (encF f) := by
  unfold encF; split
  · exact sealed_byt (fmBody_byt hf)
  · intro y hy; cases hy
def f1m : Fm := ⟨1, 0, 1, 0, 0, 0, 0, false, [120]⟩
theorem f1_ok : FmOk f1m := ⟨by decide, by decide, by decide, by decide, by decide, by decide, by decide, by unfold Byt; decide⟩
theorem f1_chk : checkF f1m = 0 := by decide
theorem c_law27alive  (w0 : World) :
    CallR Try.prog 59 #[] w0 fun v w' => v = .bool true ∧ Ext w0 w' := by
 have hS : St NoB w0 w0 [] := St.start w0
 have hc1 := f1_chk
 obtain ⟨hde, hdf⟩ := dec_enc f1_ok f1_chk
 have hel := encF_len f1_ok (by decide)
 replace hel : (encF f1m).length ≤ 27 := hel
 refine c_enter (l := [undef, undef, undef, undef, undef, undef, undef, undef, undef, undef, undef, undef, undef, undef, undef, undef, undef, undef, undef, undef, undef, undef, undef, undef, undef, undef, undef, undef, undef, undef, undef, undef, undef, undef, undef, undef, undef, undef, undef, undef, undef, undef]) Try.func59 rfl (by simp only [Try.ntmps59, List.size_toArray, List.length_cons, List.length_nil, Nat.reduceAdd, Nat.reduceSub, Array.replicate_succ, Array.replicate_zero, List.push_toArray, List.append_toArray, List.nil_append, List.cons_append]) ?_
 refine x_seq fun K1 hK1 => ?_
 refine x_region ?_
 refine s_go (s_assign) ?_
 try simp only [opv, n1, n2, n3, n4, Value.cells]
 refine x_nil ?_
 refine hK1 _ _ ?_
 refine x_seq fun K2 hK2 => ?_
 refine x_region ?_
 refine m_buildRow (cells := #[_]) Try.underlying43 ti5 (hc := by simp only [List.map_toArray, List.map_cons, List.map_nil, opv, n1, n2, n3, n4, Value.cells, List.toList_toArray]; (repeat (refine fill_cons rfl rfl (Nat.le_of_ble_eq_true rfl) ?_)); rfl) (hS := hS) (h := fun w1 g1 hS => ?_)
 try simp only [opv, n1, n2, n3, n4, Value.cells, Array.toArray_toList] at hS ⊢
 refine m_mark Try.underlying43 Try.underlying5 (hS := hS) (h := fun w2 hS => ?_)
 try simp only [opv, n1, n2, n3, n4, Value.cells, Array.toArray_toList] at hS ⊢
 refine s_go (s_build_struct (cells := #[_, .int .u8 0, _, .int .u32 0, .int .u32 0, .int .u8 0, .int .u32 0, .bool false, _]) Try.underlying90 ti90 bp90 (hc := by simp only [List.map_toArray, List.map_cons, List.map_nil, opv, n1, n2, n3, n4, Value.cells, List.toList_toArray]; (repeat (refine fill_cons rfl rfl (Nat.le_of_ble_eq_true rfl) ?_)); rfl)) ?_
 try simp only [opv, n1, n2, n3, n4, Value.cells]
 refine s_call en63 ?_
 try simp only [opv, n1, n2, n3, n4, Value.cells, List.map_toArray, List.map_cons, List.map_nil, List.append_toArray, List.cons_append, List.nil_append, Array.append_empty]
 refine CallR.mono (c_frEncode _ f1m f1_ok _ 1 (hS.hasRd (by repeat (exact Has.head))) (by decide)) ?_
 rintro _ w3 ⟨B1, k1, rfl, hkB1, hC3⟩
 replace hS := hS.call hC3
 simp only [List.cons_append, List.nil_append] at hS
 rw [f1_chk]
 try simp only [opv, n1, n2, n3, n4, Value.cells]
 refine s_go (s_move) ?_
 try simp only [opv, n1, n2, n3, n4, Value.cells]
 refine s_go (s_extract (hv := rfl)) ?_
 try simp only [List.getElem_toArray, List.getElem_cons_zero, List.getElem_cons_succ]
 try simp only [opv, n1, n2, n3, n4, Value.cells]
 refine s_go (s_extract (hv := rfl)) ?_
 try simp only [List.getElem_toArray, List.getElem_cons_zero, List.getElem_cons_succ]
 try simp only [opv, n1, n2, n3, n4, Value.cells]
 refine s_go (s_assign) ?_
 try simp only [opv, n1, n2, n3, n4, Value.cells]
 refine s_go (s_assign) ?_
 try simp only [opv, n1, n2, n3, n4, Value.cells]
 refine x_nil ?_
 refine hK2 _ _ ?_
 refine x_seq fun K3 hK3 => ?_
 refine x_region ?_
 refine s_go (s_move) ?_
 try simp only [opv, n1, n2, n3, n4, Value.cells]
 refine s_call en60 ?_
 try simp only [opv, n1, n2, n3, n4, Value.cells, List.map_toArray, List.map_cons, List.map_nil, List.append_toArray, List.cons_append, List.nil_append, Array.append_empty]
 refine CallR.mono (c_frDecode _ B1 _ k1 (encF f1m) (hS.vecRd (by repeat (exact Has.head))) rfl (encF_byt f1_ok) (by omega) hkB1) ?_
 rintro _ w4 ⟨B2, k2, rfl, hC4⟩
 replace hS := hS.call hC4
 simp only [List.cons_append, List.nil_append] at hS
 rw [hdf] at hS
 rw [hde, hdf]
 try simp only [opv, n1, n2, n3, n4, Value.cells]
 refine s_go (s_move) ?_
 try simp only [opv, n1, n2, n3, n4, Value.cells]
 refine s_go (s_extract (hv := rfl)) ?_
 try simp only [List.getElem_toArray, List.getElem_cons_zero, List.getElem_cons_succ]
 try simp only [opv, n1, n2, n3, n4, Value.cells]
 refine s_go (s_extract (hv := rfl)) ?_
 try simp only [List.getElem_toArray, List.getElem_cons_zero, List.getElem_cons_succ]
 try simp only [opv, n1, n2, n3, n4, Value.cells]
 refine m_alloc ti90 hS (fun w5 g5 hS => ?_)
 try simp only [opv, n1, n2, n3, n4, Value.cells, Array.toArray_toList] at hS ⊢
 refine m_store_obj ti90 (hS := hS) (h1 := by simp [opv, Value.cells, FA, fmL, Value.oneCell']) (h := fun w6 hS => ?_)
 try simp only [opv, n1, n2, n3, n4, Value.cells, Array.toArray_toList] at hS ⊢
 refine s_go (s_assign) ?_
 try simp only [opv, n1, n2, n3, n4, Value.cells]
 refine x_nil ?_
 refine hK3 _ _ ?_
 refine x_seq fun K4 hK4 => ?_
 refine x_region ?_
 refine s_call en69 ?_
 try simp only [opv, n1, n2, n3, n4, Value.cells, List.map_toArray, List.map_cons, List.map_nil, List.append_toArray, List.cons_append, List.nil_append, Array.append_empty]
 refine CallR.mono (c_frRoom _ (by omega) _) ?_
 rintro _ w7 ⟨rfl, hE7⟩
 replace hS := hS.ext hE7
 try simp only [opv, n1, n2, n3, n4, Value.cells]
 rw [show (if (32 : Int) < 32 then (0 : Int) else 32 - 26) = 6 from rfl]
 refine s_go (s_eql) ?_
 try simp only [opv, n1, n2, n3, n4, Value.cells]
 try simp only [eq_self, decide_true, beq_self_eq_true, Bool.and_self]
 refine s_go (s_move) ?_
 try simp only [opv, n1, n2, n3, n4, Value.cells]
 refine g_on (yi (t := 19) rfl rfl) ?_
 refine s_call en69 ?_
 try simp only [opv, n1, n2, n3, n4, Value.cells, List.map_toArray, List.map_cons, List.map_nil, List.append_toArray, List.cons_append, List.nil_append, Array.append_empty]
 refine CallR.mono (c_frRoom _ (by omega) _) ?_
 rintro _ w8 ⟨rfl, hE8⟩
 replace hS := hS.ext hE8
 try simp only [opv, n1, n2, n3, n4, Value.cells]
 rw [show (if (31 : Int) < 32 then (0 : Int) else 31 - 26) = 0 from rfl]
 refine g_on (yi (t := 19) rfl rfl) ?_
 refine s_go (s_eql) ?_
 try simp only [opv, n1, n2, n3, n4, Value.cells]
 try simp only [eq_self, decide_true, beq_self_eq_true, Bool.and_self]
 refine s_go (s_pick_t) ?_
 try simp only [opv, n1, n2, n3, n4, Value.cells]
 refine s_go (s_move) ?_
 try simp only [opv, n1, n2, n3, n4, Value.cells]
 refine g_on (yi (t := 23) rfl rfl) ?_
 refine s_go (s_move) ?_
 try simp only [opv, n1, n2, n3, n4, Value.cells]
 refine g_on (yi (t := 23) rfl rfl) ?_
 refine s_go (s_eql) ?_
 try simp only [opv, n1, n2, n3, n4, Value.cells]
 try simp only [eq_self, decide_true, beq_self_eq_true, Bool.and_self]
 refine s_go (s_pick_t) ?_
 try simp only [opv, n1, n2, n3, n4, Value.cells]
 refine s_go (s_move) ?_
 try simp only [opv, n1, n2, n3, n4, Value.cells]
 refine g_on (yi (t := 27) rfl rfl) ?_
 refine s_go (s_move) ?_
 try simp only [opv, n1, n2, n3, n4, Value.cells]
 refine g_on (yi (t := 27) rfl rfl) ?_
 refine s_go (s_eql) ?_
 try simp only [opv, n1, n2, n3, n4, Value.cells]
 try simp only [eq_self, decide_true, beq_self_eq_true, Bool.and_self]
 refine s_go (s_pick_t) ?_
 try simp only [opv, n1, n2, n3, n4, Value.cells]
 refine s_go (s_move) ?_
 try simp only [opv, n1, n2, n3, n4, Value.cells]
 refine g_on (yi (t := 31) rfl rfl) ?_
 refine s_go (m_fieldAddr Try.underlying90 (hi := ti5)) ?_
 try simp only [opv, n1, n2, n3, n4, Value.cells, Nat.zero_add, Nat.add_zero, List.getElem_toArray, List.getElem_cons_zero, List.getElem_cons_succ]
 refine g_on (yi (t := 31) rfl rfl) ?_
 refine s_go (m_load_obj Try.underlying5 (hS := hS)) ?_
 try simp only [opv, n1, n2, n3, n4, Value.cells, List.getElem_toArray, List.getElem_cons_zero, List.getElem_cons_succ]
 refine g_on (yi (t := 31) rfl rfl) ?_
 refine s_go (s_eql) ?_
 try simp only [opv, n1, n2, n3, n4, Value.cells]
 rw [show decide (((f1m.to : Nat) : Int) = 1) = true from rfl]
 try simp only [eq_self, decide_true, beq_self_eq_true, Bool.and_self]
 refine s_go (s_pick_t) ?_
 try simp only [opv, n1, n2, n3, n4, Value.cells]
 refine s_go (s_move) ?_
 try simp only [opv, n1, n2, n3, n4, Value.cells]
 refine g_on (yi (t := 36) rfl rfl) ?_
 refine s_go (m_fieldAddr Try.underlying90 (hi := ti43)) ?_
 try simp only [opv, n1, n2, n3, n4, Value.cells, Nat.zero_add, Nat.add_zero, List.getElem_toArray, List.getElem_cons_zero, List.getElem_cons_succ]
 refine g_on (yi (t := 36) rfl rfl) ?_
 refine s_go (m_load_obj Try.underlying43 (hS := hS)) ?_
 try simp only [opv, n1, n2, n3, n4, Value.cells, List.getElem_toArray, List.getElem_cons_zero, List.getElem_cons_succ]
 refine g_on (yi (t := 36) rfl rfl) ?_
 refine s_go (s_len_sl Try.underlying43) ?_
 try simp only [opv, n1, n2, n3, n4, Value.cells]
 refine g_on (yi (t := 36) rfl rfl) ?_
 refine s_go (s_eql) ?_
 try simp only [opv, n1, n2, n3, n4, Value.cells]
 rw [show decide (((f1m.d.length : Nat) : Int) = 1) = true from rfl]
 try simp only [eq_self, decide_true, beq_self_eq_true, Bool.and_self]
 refine s_go (s_pick_t) ?_
 try simp only [opv, n1, n2, n3, n4, Value.cells]
 refine s_go (s_assign) ?_
 try simp only [opv, n1, n2, n3, n4, Value.cells]
 refine x_nil ?_
 refine hK4 _ _ ?_
 refine x_ret ?_
 refine r_tmp rfl ?_
 exact ⟨rfl, hS.ext_of⟩
theorem c_FrameReads (w0 : World) (A : Option Addr) (n c : Nat) (l : List Int) (hr : Rd w0 A 1 n (l.map (Value.int .u8))) (hl : l.length = n) (hw : Byt l) (hn : n ≤ 9000000000000000) (hc : n ≤ c) :
    CallR Try.prog 9 #[.slice A n c] w0 fun v w' => v = .bool true ∧ Ext w0 w' := by
 have hS := St.rd1 (S := NoB) hr
 refine c_enter (l := [.slice A n c, undef, undef, undef, undef, undef, undef, undef, undef, undef, undef, undef, undef, undef, undef, undef, undef, undef, undef, undef, undef, undef, undef, undef, undef, undef, undef, undef, undef, undef, undef, undef]) Try.func9 rfl (by simp only [Try.ntmps9, List.size_toArray, List.length_cons, List.length_nil, Nat.reduceAdd, Nat.reduceSub, Array.replicate_succ, Array.replicate_zero, List.push_toArray, List.append_toArray, List.nil_append, List.cons_append]) ?_
 refine x_seq fun K1 hK1 => ?_
 refine x_region ?_
 refine s_go (s_assign) ?_
 try simp only [opv, n1, n2, n3, n4, Value.cells]
 refine x_nil ?_
 refine hK1 _ _ ?_
 refine x_seq fun K2 hK2 => ?_
 refine x_seq fun K3 hK3 => ?_
 refine x_region ?_
 refine s_go (s_move) ?_
 try simp only [opv, n1, n2, n3, n4, Value.cells]
 refine s_go (s_len_sl Try.underlying43) ?_
 try simp only [opv, n1, n2, n3, n4, Value.cells]
 refine s_go (s_gtr) ?_
 try simp only [opv, n1, n2, n3, n4, Value.cells]
 refine x_nil ?_
 refine hK3 _ _ ?_
 refine x_cond (ht := fun hc1 => ?_) (hf := fun hc1 => ?_)
 ·
  try simp only [decide_eq_true_eq, decide_eq_false_iff_not, Bool.not_eq_true', Bool.not_eq_false', Int.not_lt, Int.not_le, ne_eq, Decidable.not_not, bne_iff_ne, beq_iff_eq, not_true_eq_false, not_false_eq_true] at hc1
  refine x_seq fun K4 hK4 => ?_
  refine x_region ?_
  refine s_call en59 ?_
  try simp only [opv, n1, n2, n3, n4, Value.cells, List.map_toArray, List.map_cons, List.map_nil, List.append_toArray, List.cons_append, List.nil_append, Array.append_empty]
  refine CallR.mono (c_law27alive _) ?_
  rintro _ w1 ⟨rfl, hE1⟩
  replace hS := hS.ext hE1
  try simp only [opv, n1, n2, n3, n4, Value.cells]
  refine s_go (s_assign) ?_
  try simp only [opv, n1, n2, n3, n4, Value.cells]
  refine x_nil ?_
  refine hK4 _ _ ?_
  refine x_ret ?_
  refine r_tmp rfl ?_
  exact ⟨rfl, hS.ext_of⟩
 ·
  try simp only [decide_eq_true_eq, decide_eq_false_iff_not, Bool.not_eq_true', Bool.not_eq_false', Int.not_lt, Int.not_le, ne_eq, Decidable.not_not, bne_iff_ne, beq_iff_eq, not_true_eq_false, not_false_eq_true] at hc1
  have hn5 : n ≤ 500 := by omega
  have hdo := decF_ok hw
  have hdl := decF_len l
  refine x_skip ?_
  refine hK2 _ _ ?_
  refine x_seq fun K5 hK5 => ?_
  refine x_region ?_
  refine s_go (s_move) ?_
  try simp only [opv, n1, n2, n3, n4, Value.cells]
  refine s_call en60 ?_
  try simp only [opv, n1, n2, n3, n4, Value.cells, List.map_toArray, List.map_cons, List.map_nil, List.append_toArray, List.cons_append, List.nil_append, Array.append_empty]
  refine CallR.mono (c_frDecode _ A n c l (hS.hasRd (by repeat (exact Has.head))) hl hw (by omega) hc) ?_
  rintro _ w2 ⟨B1, k1, rfl, hC2⟩
  replace hS := hS.call hC2
  simp only [List.cons_append, List.nil_append] at hS
  try simp only [opv, n1, n2, n3, n4, Value.cells]
  refine s_go (s_move) ?_
  try simp only [opv, n1, n2, n3, n4, Value.cells]
  refine s_go (s_extract (hv := rfl)) ?_
  try simp only [List.getElem_toArray, List.getElem_cons_zero, List.getElem_cons_succ]
  try simp only [opv, n1, n2, n3, n4, Value.cells]
  refine s_go (s_extract (hv := rfl)) ?_
  try simp only [List.getElem_toArray, List.getElem_cons_zero, List.getElem_cons_succ]
  try simp only [opv, n1, n2, n3, n4, Value.cells]
  refine m_alloc ti90 hS (fun w3 g3 hS => ?_)
  try simp only [opv, n1, n2, n3, n4, Value.cells, Array.toArray_toList] at hS ⊢
  refine m_store_obj ti90 (hS := hS) (h1 := by simp [opv, Value.cells, FA, fmL, Value.oneCell']) (h := fun w4 hS => ?_)
  try simp only [opv, n1, n2, n3, n4, Value.cells, Array.toArray_toList] at hS ⊢
  refine s_go (s_assign) ?_
  try simp only [opv, n1, n2, n3, n4, Value.cells]
  refine x_nil ?_
  refine hK5 _ _ ?_
  refine x_seq fun K6 hK6 => ?_
  refine x_region ?_
  refine s_go (s_move) ?_
  try simp only [opv, n1, n2, n3, n4, Value.cells]
  refine s_call en61 ?_
  try simp only [opv, n1, n2, n3, n4, Value.cells, List.map_toArray, List.map_cons, List.map_nil, List.append_toArray, List.cons_append, List.nil_append, Array.append_empty]
  refine CallR.mono (c_ref27Decode _ A n c l (hS.hasRd (by repeat (first | exact Has.head | apply Has.tail))) hl hw (by omega) hc) ?_
  rintro _ w5 ⟨B2, k2, rfl, hE5, hR5, hI5⟩
  replace hS := hS.add_rdIn hE5 hR5 hI5 (by repeat (first | exact Has.head | apply Has.tail))
  try simp only [opv, n1, n2, n3, n4, Value.cells]
  refine s_go (s_move) ?_
  try simp only [opv, n1, n2, n3, n4, Value.cells]
  refine s_go (s_extract (hv := rfl)) ?_
  try simp only [List.getElem_toArray, List.getElem_cons_zero, List.getElem_cons_succ]
  try simp only [opv, n1, n2, n3, n4, Value.cells]
  refine s_go (s_extract (hv := rfl)) ?_
  try simp only [List.getElem_toArray, List.getElem_cons_zero, List.getElem_cons_succ]
  try simp only [opv, n1, n2, n3, n4, Value.cells]
  refine m_alloc ti90 hS (fun w6 g6 hS => ?_)
  try simp only [opv, n1, n2, n3, n4, Value.cells, Array.toArray_toList] at hS ⊢
  refine m_store_obj ti90 (hS := hS) (h1 := by simp [opv, Value.cells, FA, fmL, Value.oneCell']) (h := fun w7 hS => ?_)
  try simp only [opv, n1, n2, n3, n4, Value.cells, Array.toArray_toList] at hS ⊢
  refine s_go (s_assign) ?_
  try simp only [opv, n1, n2, n3, n4, Value.cells]
  refine x_nil ?_
  refine hK6 _ _ ?_
  refine x_seq fun K7 hK7 => ?_
  refine x_region ?_
  refine s_go (m_load_row Try.underlying90 (hi := ti90) (hS := hS)) ?_
  try simp only [opv, n1, n2, n3, n4, Value.cells, List.getElem_toArray, List.getElem_cons_zero, List.getElem_cons_succ]
  refine s_go (m_load_row Try.underlying90 (hi := ti90) (hS := hS)) ?_
  try simp only [opv, n1, n2, n3, n4, Value.cells, List.getElem_toArray, List.getElem_cons_zero, List.getElem_cons_succ]
  refine s_call en62 ?_
  try simp only [opv, n1, n2, n3, n4, Value.cells, List.map_toArray, List.map_cons, List.map_nil, List.append_toArray, List.cons_append, List.nil_append, Array.append_empty]
  refine CallR.mono (c_ref27Same _ (decF l) (decF l) B1 B2 k1 k2 (hS.vecRd (by repeat (first | exact Has.head | apply Has.tail))) (hS.hasRd (by repeat (first | exact Has.head | apply Has.tail))) hdo.d hdo.d (by omega)) ?_
  rintro _ w8 ⟨rfl, hE8⟩
  replace hS := hS.ext hE8
  try simp only [opv, n1, n2, n3, n4, Value.cells]
  try simp only [eq_self, decide_true, beq_self_eq_true, Bool.and_self]
  refine s_go (s_move) ?_
  try simp only [opv, n1, n2, n3, n4, Value.cells]
  refine g_on (yi (t := 24) rfl rfl) ?_
  refine s_go (s_move) ?_
  try simp only [opv, n1, n2, n3, n4, Value.cells]
  refine g_on (yi (t := 24) rfl rfl) ?_
  refine s_go (s_move) ?_
  try simp only [opv, n1, n2, n3, n4, Value.cells]
  refine g_on (yi (t := 24) rfl rfl) ?_
  refine s_go (s_eql) ?_
  try simp only [opv, n1, n2, n3, n4, Value.cells]
  try simp only [eq_self, decide_true, beq_self_eq_true, Bool.and_self]
  refine s_go (s_pick_t) ?_
  try simp only [opv, n1, n2, n3, n4, Value.cells]
  refine s_go (s_move) ?_
  try simp only [opv, n1, n2, n3, n4, Value.cells]
  refine g_on (yi (t := 29) rfl rfl) ?_
  refine s_call en59 ?_
  try simp only [opv, n1, n2, n3, n4, Value.cells, List.map_toArray, List.map_cons, List.map_nil, List.append_toArray, List.cons_append, List.nil_append, Array.append_empty]
  refine CallR.mono (c_law27alive _) ?_
  rintro _ w9 ⟨rfl, hE9⟩
  replace hS := hS.ext hE9
  try simp only [opv, n1, n2, n3, n4, Value.cells]
  refine s_go (s_pick_t) ?_
  try simp only [opv, n1, n2, n3, n4, Value.cells]
  refine s_go (s_assign) ?_
  try simp only [opv, n1, n2, n3, n4, Value.cells]
  refine x_nil ?_
  refine hK7 _ _ ?_
  refine x_ret ?_
  refine r_tmp rfl ?_
  exact ⟨rfl, hS.ext_of⟩
end Go.Proofs.Ytpjpaipkkcengaa
namespace Go.Proofs.Ytpjpaipkkcengaa
open Go.ChangeShapes Go.WideShapes Go.ChangeAt Go.RowKit
theorem own0 : ownKnob Try.prog.godebug = none := by kernel_rfl
theorem laidOut0 : laidOutB Try.prog = true := by kernel_rfl
end Go.Proofs.Ytpjpaipkkcengaa
namespace Go.Proofs.Ytpjpaipkkcengaa
theorem ws_cons {c : Char} (h : c ≠ Char.ofNat 32) (x : List Char) : wordsSigns (c :: x) = (match wordsSigns x with | w :: ws => (c :: w) :: ws | [] => [[c]]) := by
  conv => lhs; unfold wordsSigns
  split
  · simp_all
  · next h1 => exact absurd (by simpa using (List.cons.inj h1).1) h
  · next h1 => obtain ⟨rfl, rfl⟩ := List.cons.inj h1; rfl
theorem ws_app (b : List Char) : ∀ (a : List Char), (∀ c ∈ a, c ≠ Char.ofNat 32) → wordsSigns (a ++ Char.ofNat 32 :: b) = a :: wordsSigns b
  | [], _ => rfl
  | c :: r, h => by
    rw [List.cons_append, ws_cons (h c (by simp)), ws_app b r (fun x hx => h x (by simp [hx]))]
/-- the head's words: harness, a sum, cut -/
theorem head_words {P : Program} {s b : List Char} (he : P.initOrder = String.ofList ("harness".toList ++ Char.ofNat 32 :: (s ++ Char.ofNat 32 :: ("cut".toList ++ Char.ofNat 32 :: b)))) (hs : isSumSigns s = true) (hb : ∀ c ∈ s, c ≠ Char.ofNat 32) :
    ∃ R, behindMainWord (wordsSigns P.initOrder.toList) = "cut".toList :: R := by
  refine ⟨wordsSigns b, ?_⟩
  rw [he, String.toList_ofList, ws_app _ _ (by decide), ws_app _ _ hb, ws_app _ _ (by decide)]
  simp only [behindMainWord, hs, beq_self_eq_true, Bool.true_or, Bool.and_self, if_true]
theorem e_gc : ("cut".toList == "gc".toList) = false := by decide
theorem e_spec : ("cut".toList == "spec".toList) = false := by decide
theorem e_car : ("cut".toList == "carried".toList) = false := by decide
theorem e_sl (R : List (List Char)) : stripLifts liftWords ("cut".toList :: R) = ([], "cut".toList :: R) := by
  have h : ∀ (l : List String), (∀ o ∈ l, ("cut".toList == o.toList) = false) → stripLifts l ("cut".toList :: R) = ([], "cut".toList :: R) := by
    intro l
    induction l with
    | nil => intro _; rfl
    | cons o os ih => intro hl; rw [stripLifts, hl o (by simp)]; simp only [Bool.false_eq_true, if_false]; exact ih fun x hx => hl x (by simp [hx])
  exact h liftWords (by decide)
section
variable {P : Program} (h : ∃ R, behindMainWord (wordsSigns P.initOrder.toList) = "cut".toList :: R)
include h
theorem make_of : P.make = some .cut := by
  obtain ⟨R, h⟩ := h
  unfold Program.make
  rw [h]
  simp only [e_gc, e_spec, beq_self_eq_true, Bool.or_self, Bool.true_or, Bool.false_eq_true, if_false, if_true]
theorem lifts_of : P.liftsFinal = false := by
  obtain ⟨R, h⟩ := h
  unfold Program.liftsFinal Program.headLifts
  rw [h, e_sl]
  show (_ || _) = false
  rfl
theorem enter_of (hl : P.laysLater = false) (hr : P.bearsReflect = false) (hd : P.doorFits [] = true) : P.mayEnter = true := by
  obtain ⟨R, h⟩ := h
  unfold Program.mayEnter
  rw [h]
  dsimp only
  rw [e_sl, hl, hr]
  simp only [hd, e_gc, e_spec, e_car, beq_self_eq_true, Bool.or_self, Bool.false_and, Bool.not_false, Bool.or_true, Bool.and_true, List.head?_cons, List.contains_nil]
end
theorem closed_of {P : Program} {f : FuncId} {fn : Func} {s : ChangeSpec} {c : OpenClaim} (hm : P.make = some .cut) (hl : P.liftsFinal = false) (he : P.mayEnter = true) (h2 : laidOutB P = true) (h3 : mapsRowed P = true) (hst : (P.stops == []) = true) (hk : (P.stopKnobs == []) = true)
    (hp : P.plainKeys = c.plainKeys) (hh : P.stopsHeard = true) (i1 : P.inPlace f = c.inPlace) (i2 : P.unfollowed f = c.unfollowed) (i3 : P.recurses f = c.recurses) (i4 : P.varsNamed f = c.named)
    (rest : (c.wf (OpenSpec.ofChange s) && fn.params.all (P.readableRec ·) && namedTie P c.named s.vars && (c.stops == []) && (c.knobs == []) &&
      (c.maps == (fn.params.toList ++ s.plain.varTypes P).any (P.mapsRec ·)) && (c.ifaces == (fn.params.toList ++ s.plain.varTypes P).any (P.ifacesRec ·)) && (c.mapsOut == P.mapsAmong fn.resultTypes.toList) &&
      (c.loops == (fn.params.toList ++ s.plain.varTypes P).any (P.loopsFrom ·)) && (c.wideKeys == (fn.params.toList ++ s.plain.varTypes P ++ fn.resultTypes.toList).any (P.wideKeysFrom ·)) &&
      s.vars.all (P.varReadable ·) && fn.resultTypes.all (fun t => P.readableRec t && decide (t < P.types.size)) && (c.ifacesOut == fn.resultTypes.toList.any (P.ifacesRec ·)) && (c.loopsOut == fn.resultTypes.toList.any (P.loopsFrom ·)) && c.shortTexts.isNone && (c.lifted == false) && (some Make.cut == some c.make) &&
      (c.kinds == (if c.domain.isEmpty then [] else fn.params.toList.map fun t => match P.underlying t with | some (.int k) => some k | _ => none)) && (c.pinned == c.pinnedBy) &&
      (c.veiled == (fn.params.toList ++ s.plain.varTypes P ++ fn.resultTypes.toList).any (P.veiledRec ·)) && c.veiledFits P fn.params.toList (fn.params.toList ++ s.plain.varTypes P ++ fn.resultTypes.toList)) = true) : joinedFacts P f fn s c = true := by
  simp only [Bool.and_eq_true] at rest
  unfold joinedFacts
  rw [hm, hl, he, h2, h3, hst, hk, hp, hh, i1, i2, i3, i4]
  simp only [beq_self_eq_true, Bool.and_eq_true, Bool.and_true]
  have hkd := rest.1.1.1.2
  simp only [rest, and_self]
  exact ⟨⟨⟨⟨trivial, hkd⟩, trivial⟩, trivial⟩, trivial⟩
end Go.Proofs.Ytpjpaipkkcengaa
namespace Go.Proofs.Ytpjpaipkkcengaa
def ioS : List Nat := [100, 48, 57, 50, 100, 97, 48, 97, 54, 97, 55, 100, 53, 57, 52, 54, 49, 55, 55, 54, 97, 100, 97, 57, 51, 55, 57, 99, 56, 99, 48, 52, 48, 49, 53, 50, 101, 49, 49, 53, 100, 53, 101, 56, 49, 97, 53, 50, 100, 101, 51, 52, 101, 102, 50, 102, 52, 51, 97, 56, 49, 98, 97, 56]
def ioB : List Nat := [97, 116, 32, 104, 97, 110, 100, 99, 97, 114, 116, 47, 104, 97, 110, 100, 99, 97, 114, 116, 108, 97, 119, 49, 50, 46, 86, 101, 99, 67, 111, 117, 110, 116, 115, 32, 104, 97, 110, 100, 99, 97, 114, 116, 47, 104, 97, 110, 100, 99, 97, 114, 116, 108, 97, 119, 48, 55, 46, 87, 105, 114, 101, 66, 97, 99, 107, 32, 104, 97, 110, 100, 99, 97, 114, 116, 47, 104, 97, 110, 100, 99, 97, 114, 116, 108, 97, 119, 48, 56, 46, 75, 101, 121, 82, 101, 97, 100, 115, 32, 104, 97, 110, 100, 99, 97, 114, 116, 47, 104, 97, 110, 100, 99, 97, 114, 116, 108, 97, 119, 48, 56, 46, 75, 101, 121, 66, 97, 99, 107, 32, 104, 97, 110, 100, 99, 97, 114, 116, 47, 104, 97, 110, 100, 99, 97, 114, 116, 108, 97, 119, 48, 57, 46, 65, 116, 111, 109, 66, 97, 99, 107, 32, 104, 97, 110, 100, 99, 97, 114, 116, 47, 104, 97, 110, 100, 99, 97, 114, 116, 108, 97, 119, 51, 52, 46, 66, 111, 117, 110, 100, 65, 116, 111, 109, 115, 32, 104, 97, 110, 100, 99, 97, 114, 116, 47, 104, 97, 110, 100, 99, 97, 114, 116, 108, 97, 119, 50, 55, 46, 70, 114, 97, 109, 101, 82, 101, 97, 100, 115, 32, 104, 97, 110, 100, 99, 97, 114, 116, 47, 104, 97, 110, 100, 99, 97, 114, 116, 108, 97, 119, 50, 55, 46, 70, 114, 97, 109, 101, 84, 117, 114, 110, 101, 100, 32, 104, 97, 110, 100, 99, 97, 114, 116, 47, 104, 97, 110, 100, 99, 97, 114, 116, 108, 97, 119, 50, 55, 46, 70, 114, 97, 109, 101, 66, 97, 99, 107, 32, 104, 97, 110, 100, 99, 97, 114, 116, 47, 104, 97, 110, 100, 99, 97, 114, 116, 108, 97, 119, 50, 55, 46, 70, 114, 97, 109, 101, 67, 111, 100, 101, 115, 32, 104, 97, 110, 100, 99, 97, 114, 116, 47, 104, 97, 110, 100, 99, 97, 114, 116, 108, 97, 119, 49, 51, 46, 68, 111, 116, 115, 65, 100, 100, 115, 32, 104, 97, 110, 100, 99, 97, 114, 116, 47, 104, 97, 110, 100, 99, 97, 114, 116, 108, 97, 119, 49, 51, 46, 68, 111, 116, 115, 65, 108, 111, 110, 101, 32, 104, 97, 110, 100, 99, 97, 114, 116, 47, 104, 97, 110, 100, 99, 97, 114, 116, 108, 97, 119, 49, 51, 46, 68, 111, 116, 115, 74, 111, 105, 110, 115, 32, 104, 97, 110, 100, 99, 97, 114, 116, 47, 104, 97, 110, 100, 99, 97, 114, 116, 108, 97, 119, 49, 48, 46, 76, 97, 116, 65, 108, 108, 32, 104, 97, 110, 100, 99, 97, 114, 116, 47, 104, 97, 110, 100, 99, 97, 114, 116, 108, 97, 119, 49, 48, 46, 76, 97, 116, 78, 111, 114, 109, 115, 32, 104, 97, 110, 100, 99, 97, 114, 116, 47, 104, 97, 110, 100, 99, 97, 114, 116, 108, 97, 119, 49, 48, 46, 76, 97, 116, 74, 111, 105, 110, 115, 32, 104, 97, 110, 100, 99, 97, 114, 116, 47, 104, 97, 110, 100, 99, 97, 114, 116, 108, 97, 119, 49, 48, 46, 76, 97, 116, 76, 101, 97, 115, 116]
theorem io_eq : Try.prog.initOrder = String.ofList ("harness".toList ++ Char.ofNat 32 :: (ioS.map Char.ofNat ++ Char.ofNat 32 :: ("cut".toList ++ Char.ofNat 32 :: ioB.map Char.ofNat))) := by kernel_rfl
theorem io_sum : isSumSigns (ioS.map Char.ofNat) = true := by kernel_rfl
theorem io_hd : ∃ R, behindMainWord (wordsSigns Try.prog.initOrder.toList) = "cut".toList :: R := head_words io_eq io_sum (by decide)
theorem p_make : Try.prog.make = some .cut := make_of io_hd
theorem p_lifts : Try.prog.liftsFinal = false := lifts_of io_hd
theorem p_ll : Try.prog.laysLater = false := by kernel_rfl
theorem p_br : Try.prog.bearsReflect = false := by kernel_rfl
theorem p_df : Try.prog.doorFits [] = true := by kernel_rfl
theorem p_enter : Try.prog.mayEnter = true := enter_of io_hd p_ll p_br p_df
theorem p_rowed : mapsRowed Try.prog = true := by kernel_rfl
theorem p_stops : (Try.prog.stops == []) = true := by kernel_rfl
theorem p_knobs : (Try.prog.stopKnobs == []) = true := by kernel_rfl
theorem p_keys : Try.prog.plainKeys = false := by kernel_rfl
theorem p_heard : Try.prog.stopsHeard = true := by kernel_rfl
end Go.Proofs.Ytpjpaipkkcengaa
