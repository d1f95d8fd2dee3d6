/- Contracts of functions, printed by a program of this seat (wip/tools/gen.py) out of its specs. -/
import Derived.Test.YtjgbcaegofpggaaCn
import Derived.Test.YtjgbcaegofpggaaPkey
set_option linter.unusedSimpArgs false
set_option linter.unusedVariables false
set_option maxHeartbeats 800000
set_option maxRecDepth 100000
namespace Go.Proofs.Ytjgbcaegofpggaa
open Go.RowKit

theorem c_bitDown  (w0 : World) :
    CallR Try.prog 226 #[.bool false] w0 fun v w' => v = .func (.func 256) #[] #[] ∧ Ext w0 w' := by
  have hS : St NoB w0 w0 [] := St.start w0
  refine c_enter (l := [.bool false, undef, undef, undef]) Try.func226 rfl (by simp only [Try.ntmps226, List.size_toArray, List.length_cons, List.length_nil, Nat.reduceAdd, Nat.reduceSub, Array.replicate_succ, Array.replicate_zero, List.push_toArray, List.append_toArray, List.nil_append, List.cons_append]) ?_
  refine x_seq fun K1 hK1 => ?_
  refine x_region ?_
  refine s_go (s_assign) ?_
  try simp only [opv, n1, n2, n3, n4, Value.cells]
  refine x_nil ?_
  refine hK1 _ _ ?_
  refine x_seq fun K2 hK2 => ?_
  refine x_seq fun K3 hK3 => ?_
  refine x_region ?_
  refine s_go (s_move) ?_
  try simp only [opv, n1, n2, n3, n4, Value.cells]
  refine x_nil ?_
  refine hK3 _ _ ?_
  refine x_cond_f (h := ?_)
  refine x_skip ?_
  refine hK2 _ _ ?_
  refine x_seq fun K4 hK4 => ?_
  refine x_region ?_
  refine s_go (s_assign) ?_
  try simp only [opv, n1, n2, n3, n4, Value.cells]
  refine x_nil ?_
  refine hK4 _ _ ?_
  refine x_ret ?_
  refine r_tmp rfl ?_
  exact ⟨rfl, hS.ext_of⟩

theorem c_bitDown2 (x : Nat) (hx : x < 18446744073709551616) (n : Nat) (hn : n ≤ 63)  (w0 : World) :
    CallR Try.prog 256 #[.int .u64 (x : Int), .int .i64 (n : Int)] w0 fun v w' => v = .int .u64 ((x / 2 ^ n : Nat) : Int) ∧ Ext w0 w' := by
  have hS : St NoB w0 w0 [] := St.start w0
  refine c_enter (l := [.int .u64 (x : Int), .int .i64 (n : Int), undef, undef, undef, undef, undef, undef, undef]) Try.func256 rfl (by simp only [Try.ntmps256, List.size_toArray, List.length_cons, List.length_nil, Nat.reduceAdd, Nat.reduceSub, Array.replicate_succ, Array.replicate_zero, List.push_toArray, List.append_toArray, List.nil_append, List.cons_append]) ?_
  refine x_seq fun K1 hK1 => ?_
  refine x_region ?_
  refine s_go (s_assign) ?_
  try simp only [opv, n1, n2, n3, n4, Value.cells]
  refine x_nil ?_
  refine hK1 _ _ ?_
  refine x_seq fun K2 hK2 => ?_
  refine x_region ?_
  refine s_go (s_move) ?_
  try simp only [opv, n1, n2, n3, n4, Value.cells]
  refine s_go (s_move) ?_
  try simp only [opv, n1, n2, n3, n4, Value.cells]
  refine s_go (s_conv Try.underlying3 Try.underlying168 (hc := by first | exact wr_u64 (by omega) (by omega) | rfl)) ?_
  try simp only [opv, n1, n2, n3, n4, Value.cells]
  refine s_go (s_shr (hc := shr_n (r := x) (n := n) rfl (by simp [IntKind.bits]; omega))) ?_
  try simp only [opv, n1, n2, n3, n4, Value.cells]
  refine s_go (s_assign) ?_
  try simp only [opv, n1, n2, n3, n4, Value.cells]
  refine x_nil ?_
  refine hK2 _ _ ?_
  refine x_ret ?_
  refine r_tmp rfl ?_
  exact ⟨rfl, hS.ext_of⟩

theorem c_bitLow (x : Nat) (hx : x < 18446744073709551616) (z : Int) (hz : -9223372036854775808 ≤ z ∧ z ≤ 9223372036854775807)  (w0 : World) :
    CallR Try.prog 227 #[.int .u64 (x : Int), .int .i64 z] w0 fun v w' => v = .int .u64 (lowN x z : Int) ∧ Ext w0 w' := by
  have hS : St NoB w0 w0 [] := St.start w0
  refine c_enter (l := [.int .u64 (x : Int), .int .i64 z, undef, undef, undef, undef, undef, undef, undef, undef, undef, undef, undef, undef, undef, undef, undef, undef]) Try.func227 rfl (by simp only [Try.ntmps227, List.size_toArray, List.length_cons, List.length_nil, Nat.reduceAdd, Nat.reduceSub, Array.replicate_succ, Array.replicate_zero, List.push_toArray, List.append_toArray, List.nil_append, List.cons_append]) ?_
  refine x_seq fun K1 hK1 => ?_
  refine x_region ?_
  refine s_go (s_assign) ?_
  try simp only [opv, n1, n2, n3, n4, Value.cells]
  refine x_nil ?_
  refine hK1 _ _ ?_
  refine x_seq fun K2 hK2 => ?_
  refine x_block ?_
  refine x_seq fun K3 hK3 => ?_
  refine x_region ?_
  refine s_go (s_move) ?_
  try simp only [opv, n1, n2, n3, n4, Value.cells]
  refine s_go (s_leq) ?_
  try simp only [opv, n1, n2, n3, n4, Value.cells]
  refine s_go (s_assign) ?_
  try simp only [opv, n1, n2, n3, n4, Value.cells]
  refine x_nil ?_
  refine hK3 _ _ ?_
  refine x_cond (ht := fun hc1 => ?_) (hf := fun hc1 => ?_)
  ·
    try simp only [decide_eq_true_eq, decide_eq_false_iff_not, Bool.not_eq_true', Bool.not_eq_false', Int.not_lt, Int.not_le, ne_eq, Decidable.not_not, bne_iff_ne, beq_iff_eq, not_true_eq_false, not_false_eq_true] at hc1
    refine x_seq fun K4 hK4 => ?_
    refine x_region ?_
    refine s_go (s_assign) ?_
    try simp only [opv, n1, n2, n3, n4, Value.cells]
    refine x_nil ?_
    refine hK4 _ _ ?_
    refine x_ret ?_
    refine r_tmp rfl ?_
    exact ⟨NU (show 0 = lowN x z by simp [lowN, show z ≤ 0 by omega]), hS.ext_of⟩
  ·
    try simp only [decide_eq_true_eq, decide_eq_false_iff_not, Bool.not_eq_true', Bool.not_eq_false', Int.not_lt, Int.not_le, ne_eq, Decidable.not_not, bne_iff_ne, beq_iff_eq, not_true_eq_false, not_false_eq_true] at hc1
    refine x_seq fun K5 hK5 => ?_
    refine x_region ?_
    refine s_go (s_move) ?_
    try simp only [opv, n1, n2, n3, n4, Value.cells]
    refine s_go (s_geq) ?_
    try simp only [opv, n1, n2, n3, n4, Value.cells]
    refine s_go (s_assign) ?_
    try simp only [opv, n1, n2, n3, n4, Value.cells]
    refine x_nil ?_
    refine hK5 _ _ ?_
    refine x_cond (ht := fun hc2 => ?_) (hf := fun hc2 => ?_)
    ·
      try simp only [decide_eq_true_eq, decide_eq_false_iff_not, Bool.not_eq_true', Bool.not_eq_false', Int.not_lt, Int.not_le, ne_eq, Decidable.not_not, bne_iff_ne, beq_iff_eq, not_true_eq_false, not_false_eq_true] at hc2
      refine x_seq fun K6 hK6 => ?_
      refine x_region ?_
      refine s_go (s_move) ?_
      try simp only [opv, n1, n2, n3, n4, Value.cells]
      refine s_go (s_assign) ?_
      try simp only [opv, n1, n2, n3, n4, Value.cells]
      refine x_nil ?_
      refine hK6 _ _ ?_
      refine x_ret ?_
      refine r_tmp rfl ?_
      exact ⟨NU (show x = lowN x z by simp [lowN, show ¬ z ≤ 0 by omega, show 64 ≤ z by omega]), hS.ext_of⟩
    ·
      try simp only [decide_eq_true_eq, decide_eq_false_iff_not, Bool.not_eq_true', Bool.not_eq_false', Int.not_lt, Int.not_le, ne_eq, Decidable.not_not, bne_iff_ne, beq_iff_eq, not_true_eq_false, not_false_eq_true] at hc2
      obtain ⟨i, rfl⟩ := Int.eq_ofNat_of_zero_le (show 0 ≤ z by omega)
      have hpp := Nat.two_pow_pos i
      have hpl : 2 ^ i ≤ 2 ^ 63 := Nat.pow_le_pow_right (by omega) (by omega)
      refine x_skip ?_
      refine hK2 _ _ ?_
      refine x_seq fun K7 hK7 => ?_
      refine x_region ?_
      refine s_go (s_move) ?_
      try simp only [opv, n1, n2, n3, n4, Value.cells]
      refine s_go (s_move) ?_
      try simp only [opv, n1, n2, n3, n4, Value.cells]
      refine s_go (s_conv Try.underlying3 Try.underlying168 (hc := by first | exact wr_u64 (by omega) (by omega) | rfl)) ?_
      try simp only [opv, n1, n2, n3, n4, Value.cells]
      refine s_go (s_shl (hc := shl_lt64 (r := 1) (n := i) rfl (by omega))) ?_
      try simp only [opv, n1, n2, n3, n4, Value.cells]
      refine s_go (s_sub (hc := (wr_u64 (by omega) (by omega)).trans (show (((2 ^ i * 1 : Nat) : Int) - 1) = ((2 ^ i - 1 : Nat) : Int) by omega))) ?_
      try simp only [opv, n1, n2, n3, n4, Value.cells]
      refine s_go (s_bits (by simp) (hc := and_mask hx rfl (by omega))) ?_
      try simp only [opv, n1, n2, n3, n4, Value.cells]
      refine s_go (s_assign) ?_
      try simp only [opv, n1, n2, n3, n4, Value.cells]
      refine x_nil ?_
      refine hK7 _ _ ?_
      refine x_ret ?_
      refine r_tmp rfl ?_
      exact ⟨NU (show x % 2 ^ i = lowN x i by simp only [lowN, Int.toNat_natCast, if_neg (show ¬ (i : Int) ≤ 0 by omega), if_neg (show ¬ 64 ≤ (i : Int) by omega)]), hS.ext_of⟩

theorem c_bitPart (x : Nat) (hx : x < 18446744073709551616) (j : Nat) (hj : j ≤ 63) (z : Int) (hz : -9223372036854775808 ≤ z ∧ z ≤ 9223372036854775807)  (w0 : World) :
    CallR Try.prog 170 #[.int .u64 (x : Int), .int .i64 (j : Int), .int .i64 z] w0 fun v w' => v = .int .u64 (lowN (x / 2 ^ j) z : Int) ∧ Ext w0 w' := by
  have hS : St NoB w0 w0 [] := St.start w0
  refine c_enter (l := [.int .u64 (x : Int), .int .i64 (j : Int), .int .i64 z, undef, undef, undef, undef, undef, undef, undef, undef, undef, undef, undef, undef, undef]) Try.func170 rfl (by simp only [Try.ntmps170, List.size_toArray, List.length_cons, List.length_nil, Nat.reduceAdd, Nat.reduceSub, Array.replicate_succ, Array.replicate_zero, List.push_toArray, List.append_toArray, List.nil_append, List.cons_append]) ?_
  refine x_seq fun K1 hK1 => ?_
  refine x_region ?_
  refine s_go (s_assign) ?_
  try simp only [opv, n1, n2, n3, n4, Value.cells]
  refine x_nil ?_
  refine hK1 _ _ ?_
  refine x_seq fun K2 hK2 => ?_
  refine x_region ?_
  refine s_call en226 ?_
  try simp only [opv, n1, n2, n3, n4, Value.cells, List.map_toArray, List.map_cons, List.map_nil, List.append_toArray, List.cons_append, List.nil_append, Array.append_empty]
  refine CallR.mono (c_bitDown _) ?_
  rintro _ w1 ⟨rfl, hE1⟩
  replace hS := hS.ext hE1
  try simp only [opv, n1, n2, n3, n4, Value.cells]
  refine s_go (s_assign) ?_
  try simp only [opv, n1, n2, n3, n4, Value.cells]
  refine x_nil ?_
  refine hK2 _ _ ?_
  refine x_seq fun K3 hK3 => ?_
  refine x_region ?_
  refine s_go (s_move) ?_
  try simp only [opv, n1, n2, n3, n4, Value.cells]
  refine s_go (s_move) ?_
  try simp only [opv, n1, n2, n3, n4, Value.cells]
  refine s_go (s_move) ?_
  try simp only [opv, n1, n2, n3, n4, Value.cells]
  refine s_go (s_max) ?_
  try simp only [opv, n1, n2, n3, n4, Value.cells]
  rw [Int.max_eq_left (by omega)]
  refine s_callv (hv := rfl) en256 ?_
  try simp only [opv, n1, n2, n3, n4, Value.cells, List.map_toArray, List.map_cons, List.map_nil, List.append_toArray, List.cons_append, List.nil_append, Array.append_empty]
  refine CallR.mono (c_bitDown2 x hx j hj _) ?_
  rintro _ w2 ⟨rfl, hE2⟩
  replace hS := hS.ext hE2
  try simp only [opv, n1, n2, n3, n4, Value.cells]
  refine s_go (s_move) ?_
  try simp only [opv, n1, n2, n3, n4, Value.cells]
  have hdv := Nat.div_le_self x (2 ^ j)
  refine s_call en227 ?_
  try simp only [opv, n1, n2, n3, n4, Value.cells, List.map_toArray, List.map_cons, List.map_nil, List.append_toArray, List.cons_append, List.nil_append, Array.append_empty]
  refine CallR.mono (c_bitLow _ (by omega) _ (by omega) _) ?_
  rintro _ w3 ⟨rfl, hE3⟩
  replace hS := hS.ext hE3
  try simp only [opv, n1, n2, n3, n4, Value.cells]
  refine s_go (s_assign) ?_
  try simp only [opv, n1, n2, n3, n4, Value.cells]
  refine x_nil ?_
  refine hK3 _ _ ?_
  refine x_ret ?_
  refine r_tmp rfl ?_
  exact ⟨rfl, hS.ext_of⟩

theorem c_keyUndot (x : Nat) (hx : x < 18446744073709551616)  (w0 : World) :
    CallR Try.prog 80 #[.int .u64 (x : Int)] w0 fun v w' => v = .tuple #[.int .u8 ((x / 4294967296 % 256 : Nat) : Int), .int .u32 ((x % 4294967296 : Nat) : Int)] ∧ Ext w0 w' := by
  have hS : St NoB w0 w0 [] := St.start w0
  refine c_enter (l := [.int .u64 (x : Int), undef, undef, undef, undef, undef, undef, undef, undef]) Try.func80 rfl (by simp only [Try.ntmps80, List.size_toArray, List.length_cons, List.length_nil, Nat.reduceAdd, Nat.reduceSub, Array.replicate_succ, Array.replicate_zero, List.push_toArray, List.append_toArray, List.nil_append, List.cons_append]) ?_
  refine x_seq fun K1 hK1 => ?_
  refine x_region ?_
  refine s_go (s_assign) ?_
  try simp only [opv, n1, n2, n3, n4, Value.cells]
  refine s_go (s_assign) ?_
  try simp only [opv, n1, n2, n3, n4, Value.cells]
  refine x_nil ?_
  refine hK1 _ _ ?_
  refine x_seq fun K2 hK2 => ?_
  refine x_region ?_
  refine s_go (s_move) ?_
  try simp only [opv, n1, n2, n3, n4, Value.cells]
  refine s_call en170 ?_
  try simp only [opv, n1, n2, n3, n4, Value.cells, List.map_toArray, List.map_cons, List.map_nil, List.append_toArray, List.cons_append, List.nil_append, Array.append_empty]
  refine CallR.mono (c_bitPart x hx 32 (by omega) 8 (by omega) _) ?_
  rintro _ w1 ⟨rfl, hE1⟩
  replace hS := hS.ext hE1
  try simp only [opv, n1, n2, n3, n4, Value.cells]
  rw [show lowN (x / 2 ^ 32) 8 = x / 4294967296 % 256 from rfl]
  refine s_go (s_conv Try.underlying53 Try.underlying5 (hc := by first | exact wr_u8 (by omega) (by omega) | exact cv_u8 rfl | rfl)) ?_
  try simp only [opv, n1, n2, n3, n4, Value.cells]
  refine s_go (s_move) ?_
  try simp only [opv, n1, n2, n3, n4, Value.cells]
  refine s_go (s_conv Try.underlying53 Try.underlying22 (hc := cv_u32 rfl)) ?_
  try simp only [opv, n1, n2, n3, n4, Value.cells]
  refine s_go (s_assign) ?_
  try simp only [opv, n1, n2, n3, n4, Value.cells]
  refine s_go (s_assign) ?_
  try simp only [opv, n1, n2, n3, n4, Value.cells]
  refine x_nil ?_
  refine hK2 _ _ ?_
  refine x_ret ?_
  refine r_tmp2 rfl ?_
  exact ⟨rfl, hS.ext_of⟩

theorem c_keyDot (x : List Int) (hk : KeyOk x)  (w0 : World) :
    CallR Try.prog 81 #[.agg (KA x)] w0 fun v w' => v = .int .u64 (dotN x : Int) ∧ Ext w0 w' := by
  have hS : St NoB w0 w0 [] := St.start w0
  refine c_enter (l := [.agg (KA x), undef, undef, undef, undef, undef, undef, undef, undef, undef, undef]) Try.func81 rfl (by simp only [Try.ntmps81, List.size_toArray, List.length_cons, List.length_nil, Nat.reduceAdd, Nat.reduceSub, Array.replicate_succ, Array.replicate_zero, List.push_toArray, List.append_toArray, List.nil_append, List.cons_append]) ?_
  refine x_seq fun K1 hK1 => ?_
  refine x_region ?_
  refine m_box hS (fun w1 g1 hS => ?_)
  try simp only [opv, n1, n2, n3, n4, Value.cells, Array.toArray_toList] at hS ⊢
  refine s_go (s_assign) ?_
  try simp only [opv, n1, n2, n3, n4, Value.cells]
  refine x_nil ?_
  refine hK1 _ _ ?_
  refine x_seq fun K2 hK2 => ?_
  refine x_region ?_
  have hkl := hk.len
  have hb10 := hk.b10
  have hb11 := hk.b11
  first | refine s_go (m_fieldAddr Try.underlying89 (hi := ti5)) ?_ | refine s_go (m_fieldAddr_rd Try.underlying89 (hi := ti5) (hS := hS)) ?_ | refine s_go (m_fieldAddr_vec Try.underlying89 (hi := ti5) (hS := hS)) ?_
  try simp only [opv, n1, n2, n3, n4, Value.cells, Nat.zero_add, Nat.add_zero, List.getElem_toArray, List.getElem_cons_zero, List.getElem_cons_succ]
  first | refine s_go (m_load_obj Try.underlying5 (hS := hS) (hv := by first | rfl | exact zi_get rfl (by omega) | exact ic_get (by omega) | exact il_get (by omega))) ?_ | refine s_go (m_load_bx Try.underlying5 (hS := hS) (hv := by first | rfl | exact zi_get rfl (by omega) | exact ic_get (by omega) | exact il_get (by omega))) ?_ | refine s_go (m_load_rd Try.underlying5 (hS := hS) (hv := by first | rfl | exact zi_get rfl (by omega) | exact ic_get (by omega) | exact il_get (by omega))) ?_ | refine s_go (m_load_vec Try.underlying5 (hS := hS) (hv := by first | rfl | exact zi_get rfl (by omega) | exact ic_get (by omega) | exact il_get (by omega))) ?_
  try simp only [opv, n1, n2, n3, n4, Value.cells, List.getElem_toArray, List.getElem_cons_zero, List.getElem_cons_succ]
  rw [hk.e10]
  refine s_go (s_conv Try.underlying5 Try.underlying53 (hc := by first | exact wr_u64 (by omega) (by omega) | rfl)) ?_
  try simp only [opv, n1, n2, n3, n4, Value.cells]
  refine s_go (s_shl (hc := shl_lt64 (r := kn x 10) (n := 32) rfl (by omega))) ?_
  try simp only [opv, n1, n2, n3, n4, Value.cells]
  first | refine s_go (m_fieldAddr Try.underlying89 (hi := ti22)) ?_ | refine s_go (m_fieldAddr_rd Try.underlying89 (hi := ti22) (hS := hS)) ?_ | refine s_go (m_fieldAddr_vec Try.underlying89 (hi := ti22) (hS := hS)) ?_
  try simp only [opv, n1, n2, n3, n4, Value.cells, Nat.zero_add, Nat.add_zero, List.getElem_toArray, List.getElem_cons_zero, List.getElem_cons_succ]
  first | refine s_go (m_load_obj Try.underlying22 (hS := hS) (hv := by first | rfl | exact zi_get rfl (by omega) | exact ic_get (by omega) | exact il_get (by omega))) ?_ | refine s_go (m_load_bx Try.underlying22 (hS := hS) (hv := by first | rfl | exact zi_get rfl (by omega) | exact ic_get (by omega) | exact il_get (by omega))) ?_ | refine s_go (m_load_rd Try.underlying22 (hS := hS) (hv := by first | rfl | exact zi_get rfl (by omega) | exact ic_get (by omega) | exact il_get (by omega))) ?_ | refine s_go (m_load_vec Try.underlying22 (hS := hS) (hv := by first | rfl | exact zi_get rfl (by omega) | exact ic_get (by omega) | exact il_get (by omega))) ?_
  try simp only [opv, n1, n2, n3, n4, Value.cells, List.getElem_toArray, List.getElem_cons_zero, List.getElem_cons_succ]
  rw [hk.e11]
  refine s_go (s_conv Try.underlying22 Try.underlying53 (hc := by first | exact wr_u64 (by omega) (by omega) | rfl)) ?_
  try simp only [opv, n1, n2, n3, n4, Value.cells]
  refine s_go (s_bits (by simp) (hc := or_hi64 (n := 32) hb11 (by omega))) ?_
  try simp only [opv, n1, n2, n3, n4, Value.cells]
  refine s_go (s_assign) ?_
  try simp only [opv, n1, n2, n3, n4, Value.cells]
  refine x_nil ?_
  refine hK2 _ _ ?_
  refine x_ret ?_
  refine r_tmp rfl ?_
  exact ⟨rfl, hS.ext_of⟩
end Go.Proofs.Ytjgbcaegofpggaa
