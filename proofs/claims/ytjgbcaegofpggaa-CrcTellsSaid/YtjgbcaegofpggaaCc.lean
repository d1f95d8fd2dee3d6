/- Contracts of functions, printed by a program of this seat (wip/tools/gen.py) out of its specs. -/
import Derived.Test.YtjgbcaegofpggaaTa
import Derived.Test.YtjgbcaegofpggaaPcrc
set_option linter.unusedSimpArgs false
set_option linter.unusedVariables false
set_option maxHeartbeats 2000000
set_option maxRecDepth 100000
namespace Go.Proofs.Ytjgbcaegofpggaa
open Go.RowKit


theorem cst_bits {r : Nat} (hr : r < 65536) : decide (bits .and .u16 (r : Int) 32768 ≠ 0) = decide (32768 ≤ r) := by
  have h := and_u16 (a := r) (b := 32768) hr (by omega)
  rw [show ((32768 : Nat) : Int) = 32768 from rfl] at h
  rw [h]
  have h2 := and_pow r 15
  rw [show (2 : Nat) ^ 15 = 32768 from rfl] at h2
  rw [h2]
  by_cases h3 : 32768 ≤ r
  · have : r / 32768 % 2 = 1 := by omega
    simp [h3, this]
  · have : r / 32768 % 2 = 0 := by omega
    simp [h3, this]


theorem c_crcMore1 (r : Nat) (hr : r < 65536) (w0 : World) :
    CallR Try.prog 147 #[.int .u16 (r : Int)] w0 fun v w' => v = .int .u16 ((cst r : Nat) : Int) ∧ Ext w0 w' := by
  have hS : St NoB w0 w0 [] := St.start w0
  refine c_enter (l := [.int .u16 (r : Int), undef, undef, undef, undef, undef, undef, undef, undef, undef, undef]) Try.func147 rfl (by simp only [Try.ntmps147, List.size_toArray, List.length_cons, List.length_nil, Nat.reduceAdd, Nat.reduceSub, Array.replicate_succ, Array.replicate_zero, List.push_toArray, List.append_toArray, List.nil_append, List.cons_append]) ?_
  refine x_seq fun K1 hK1 => ?_
  refine x_region ?_
  refine s_go (s_assign) ?_
  try simp only [opv, n1, n2, n3, n4, Value.cells]
  refine x_nil ?_
  refine hK1 _ _ ?_
  refine x_seq fun K2 hK2 => ?_
  refine x_seq fun K3 hK3 => ?_
  refine x_region ?_
  refine s_go (s_move) ?_
  try simp only [opv, n1, n2, n3, n4, Value.cells]
  refine s_go (s_bits (by simp) (hc := rfl)) ?_
  try simp only [opv, n1, n2, n3, n4, Value.cells]
  refine s_go (s_neq) ?_
  try simp only [opv, n1, n2, n3, n4, Value.cells]
  rw [cst_bits hr]
  refine x_nil ?_
  refine hK3 _ _ ?_
  refine x_cond (ht := fun hc1 => ?_) (hf := fun hc1 => ?_)
  ·
    try simp only [decide_eq_true_eq, decide_eq_false_iff_not, Bool.not_eq_true', Bool.not_eq_false', Int.not_lt, Int.not_le, ne_eq, Decidable.not_not] at hc1
    refine x_seq fun K4 hK4 => ?_
    refine x_region ?_
    refine s_go (s_move) ?_
    try simp only [opv, n1, n2, n3, n4, Value.cells]
    refine s_go (s_shl (hc := shl_u16 (r := r) (p := 2) (s := 2 * r % 65536) (by rw [Nat.mul_comm]))) ?_
    try simp only [opv, n1, n2, n3, n4, Value.cells]
    refine s_go (s_bits (by simp) (hc := xor_u16 (a := 2 * r % 65536) (b := 4129) (by omega) (by omega))) ?_
    try simp only [opv, n1, n2, n3, n4, Value.cells]
    refine s_go (s_assign) ?_
    try simp only [opv, n1, n2, n3, n4, Value.cells]
    refine x_nil ?_
    refine hK4 _ _ ?_
    refine x_ret ?_
    refine r_tmp rfl ?_
    exact ⟨by rw [cst, if_pos hc1]; rfl, hS.ext_of⟩
  ·
    try simp only [decide_eq_true_eq, decide_eq_false_iff_not, Bool.not_eq_true', Bool.not_eq_false', Int.not_lt, Int.not_le, ne_eq, Decidable.not_not] at hc1
    refine x_skip ?_
    refine hK2 _ _ ?_
    refine x_seq fun K5 hK5 => ?_
    refine x_region ?_
    refine s_go (s_move) ?_
    try simp only [opv, n1, n2, n3, n4, Value.cells]
    refine s_go (s_shl (hc := shl_u16 (r := r) (p := 2) (s := 2 * r % 65536) (by rw [Nat.mul_comm]))) ?_
    try simp only [opv, n1, n2, n3, n4, Value.cells]
    refine s_go (s_assign) ?_
    try simp only [opv, n1, n2, n3, n4, Value.cells]
    refine x_nil ?_
    refine hK5 _ _ ?_
    refine x_ret ?_
    refine r_tmp rfl ?_
    exact ⟨by rw [cst, if_neg hc1]; rfl, hS.ext_of⟩


def ctab : List Int := (List.range 256).map fun i => ((cstN 8 (i * 256) : Nat) : Int)
def ctabTo (k : Nat) : List Int := ctab.take k ++ List.replicate (256 - k) 0
theorem ctab_len : ctab.length = 256 := by simp [ctab]
theorem ctabTo_len {k : Nat} (h : k ≤ 256) : (ctabTo k).length = 256 := by simp [ctabTo, ctab_len]; omega
theorem ctabTo_zero : ctabTo 0 = List.replicate 256 0 := by simp [ctabTo]
theorem ctabTo_all : ctabTo 256 = ctab := by simp only [ctabTo, Nat.sub_self, List.replicate_zero, List.append_nil]; rw [← ctab_len, List.take_length]
theorem ctabTo_set {k : Nat} (h : k < 256) : (ctabTo k).set k ((cstN 8 (k * 256) : Nat) : Int) = ctabTo (k + 1) := by
  unfold ctabTo
  rw [List.set_append_right _ _ (by simp [ctab_len]; omega)]
  have e : k - (ctab.take k).length = 0 := by simp [ctab_len]; omega
  rw [e, show 256 - k = (256 - (k + 1)) + 1 by omega, List.replicate_succ, List.set_cons_zero]
  have hk : k < ctab.length := by rw [ctab_len]; exact h
  rw [List.take_succ_eq_append_getElem hk]
  simp [ctab]
theorem ctab_cell {i : Nat} (h : i < 256) : (ic .u16 ctab)[i]? = some (.int .u16 ((cstN 8 (i * 256) : Nat) : Int)) := by
  rw [ic_get (by rw [ctab_len]; exact h)]
  simp [ctab, List.getD_eq_getElem?_getD, h]


theorem c_crcTable  (w0 : World) :
    CallR Try.prog 146 #[.func (.func 147) #[] #[]] w0 fun v w' => v = .agg (ic .u16 ctab) ∧ Ext w0 w' := by
  have hS : St NoB w0 w0 [] := St.start w0
  refine c_enter (l := [.func (.func 147) #[] #[], undef, undef, undef, undef, undef, undef, undef, undef, undef, undef, undef, undef, undef, undef, undef, undef, undef, undef, undef, undef, undef]) Try.func146 rfl (by simp only [Try.ntmps146, List.size_toArray, List.length_cons, List.length_nil, Nat.reduceAdd, Nat.reduceSub, Array.replicate_succ, Array.replicate_zero, List.push_toArray, List.append_toArray, List.nil_append, List.cons_append]) ?_
  refine x_seq fun K1 hK1 => ?_
  refine x_region ?_
  refine m_alloc ti166 hS (fun w1 g1 hS => ?_)
  try simp only [opv, n1, n2, n3, n4, Value.cells, Array.toArray_toList] at hS ⊢
  refine x_nil ?_
  refine hK1 _ _ ?_
  refine x_seq fun K2 hK2 => ?_
  refine x_seq fun K3 hK3 => ?_
  refine x_region ?_
  refine s_go (s_move) ?_
  try simp only [opv, n1, n2, n3, n4, Value.cells]
  refine x_nil ?_
  refine hK3 _ _ ?_
  refine x_block ?_
  refine x_loop [3, 4, 5, 6, 7, 8, 9, 10, 11, 12, 13, 14, 15, 16, 17, 18, 19, 20] (fun m f w => ∃ k : Nat, k ≤ 256 ∧ m = 256 - k ∧ f 5 = .int .i64 (k : Int) ∧ St NoB w0 w [.obj g1 (.cells (ic .u16 (ctabTo k)) 166 (0, 0))]) (256) ?init1 (fun m1 f1 wl1 hI => ?_)
  case init1 =>
    try simp only [opv, n1, n2, n3, n4, Value.cells]
    exact ⟨0, by omega, rfl, rfl, by rw [ctabTo_zero]; exact hS⟩
  obtain ⟨k, hk, hm, h5, hS⟩ := hI
  simp only [clob, List.foldl, n3, n4, h5]
  have hkl := ctabTo_len hk
  refine x_seq fun K4 hK4 => ?_
  refine x_region ?_
  refine s_go (s_lss) ?_
  try simp only [opv, n1, n2, n3, n4, Value.cells]
  refine x_nil ?_
  refine hK4 _ _ ?_
  refine x_seq fun K5 hK5 => ?_
  refine x_cond (ht := fun hc1 => ?_) (hf := fun hc1 => ?_)
  ·
    try simp only [decide_eq_true_eq, decide_eq_false_iff_not, Bool.not_eq_true', Bool.not_eq_false', Int.not_lt, Int.not_le, ne_eq, Decidable.not_not] at hc1
    refine x_skip ?_
    refine hK5 _ _ ?_
    refine x_seq fun K6 hK6 => ?_
    refine x_block ?_
    refine x_seq fun K7 hK7 => ?_
    refine x_region ?_
    refine s_go (s_move) ?_
    try simp only [opv, n1, n2, n3, n4, Value.cells]
    refine s_go (s_assign) ?_
    try simp only [opv, n1, n2, n3, n4, Value.cells]
    refine x_nil ?_
    refine hK7 _ _ ?_
    refine x_seq fun K8 hK8 => ?_
    refine x_region ?_
    refine s_go (s_move) ?_
    try simp only [opv, n1, n2, n3, n4, Value.cells]
    refine s_go (s_conv Try.underlying3 Try.underlying43 (hc := by first | exact wr_u16 (by omega) (by omega) | rfl)) ?_
    try simp only [opv, n1, n2, n3, n4, Value.cells]
    refine s_go (s_shl (hc := shl_u16 (r := k) (p := 256) (s := k * 256) (by omega))) ?_
    try simp only [opv, n1, n2, n3, n4, Value.cells]
    refine s_go (s_assign) ?_
    try simp only [opv, n1, n2, n3, n4, Value.cells]
    refine x_nil ?_
    refine hK8 _ _ ?_
    refine x_seq fun K9 hK9 => ?_
    refine x_seq fun K10 hK10 => ?_
    refine x_region ?_
    refine s_go (s_move) ?_
    try simp only [opv, n1, n2, n3, n4, Value.cells]
    refine x_nil ?_
    refine hK10 _ _ ?_
    refine x_block ?_
    refine x_loop [4, 11, 12, 13, 14, 15, 16] (fun m f w => ∃ j : Nat, j ≤ 8 ∧ m = 8 - j ∧ f 11 = .int .i64 (j : Int) ∧ f 4 = .int .u16 ((cstN j (k * 256) : Nat) : Int) ∧ St NoB w0 w [.obj g1 (.cells (ic .u16 (ctabTo k)) 166 (0, 0))]) (8) ?init2 (fun m2 f2 wl2 hI => ?_)
    case init2 =>
      try simp only [opv, n1, n2, n3, n4, Value.cells]
      exact ⟨0, by omega, rfl, rfl, rfl, hS⟩
    obtain ⟨j, hj, hm2, h11, h4, hS⟩ := hI
    simp only [clob, List.foldl, n3, n4, h11, h4]
    have hcl : cstN j (k * 256) < 65536 := cstN_lt (by omega) j
    refine x_seq fun K11 hK11 => ?_
    refine x_region ?_
    refine s_go (s_lss) ?_
    try simp only [opv, n1, n2, n3, n4, Value.cells]
    refine x_nil ?_
    refine hK11 _ _ ?_
    refine x_seq fun K12 hK12 => ?_
    refine x_cond (ht := fun hc2 => ?_) (hf := fun hc2 => ?_)
    ·
      try simp only [decide_eq_true_eq, decide_eq_false_iff_not, Bool.not_eq_true', Bool.not_eq_false', Int.not_lt, Int.not_le, ne_eq, Decidable.not_not] at hc2
      refine x_skip ?_
      refine hK12 _ _ ?_
      refine x_seq fun K13 hK13 => ?_
      refine x_block ?_
      refine x_region ?_
      refine s_go (s_move) ?_
      try simp only [opv, n1, n2, n3, n4, Value.cells]
      refine s_go (s_move) ?_
      try simp only [opv, n1, n2, n3, n4, Value.cells]
      refine s_callv (hv := rfl) en147 ?_
      try simp only [opv, n1, n2, n3, n4, Value.cells, List.map_toArray, List.map_cons, List.map_nil, List.append_toArray, List.cons_append, List.nil_append, Array.append_empty]
      refine CallR.mono (c_crcMore1 _ (by assumption) _) ?_
      rintro _ w2 ⟨rfl, hE2⟩
      replace hS := hS.ext hE2
      try simp only [opv, n1, n2, n3, n4, Value.cells]
      refine s_go (s_assign) ?_
      try simp only [opv, n1, n2, n3, n4, Value.cells]
      refine x_nil ?_
      refine hK13 _ _ ?_
      refine x_region ?_
      refine s_go (s_add (hc := by first | exact wr_i64 (by omega) (by omega) | rfl)) ?_
      try simp only [opv, n1, n2, n3, n4, Value.cells]
      refine s_go (s_move) ?_
      try simp only [opv, n1, n2, n3, n4, Value.cells]
      refine x_nil ?_
      refine loop_back (m' := 8 - (j + 1)) (by simp only [clob, List.foldl, n1, n2, n3, n4]) ?_ ?_
      · try simp only [opv, n1, n2, n3, n4, Value.cells]
        exact ⟨j + 1, by omega, by omega, by rfl, by rfl, hS⟩
      · omega
    ·
      try simp only [decide_eq_true_eq, decide_eq_false_iff_not, Bool.not_eq_true', Bool.not_eq_false', Int.not_lt, Int.not_le, ne_eq, Decidable.not_not] at hc2
      obtain rfl : j = 8 := by omega
      refine x_exit (look_here ?_)
      refine hK9 _ _ ?_
      refine x_region ?_
      refine s_go (s_move) ?_
      try simp only [opv, n1, n2, n3, n4, Value.cells]
      refine s_go (s_move) ?_
      try simp only [opv, n1, n2, n3, n4, Value.cells]
      refine s_go (m_indexAddr_arr Try.underlying166 ti43) ?_
      try simp only [opv, n1, n2, n3, n4, Value.cells, Nat.mul_one, Nat.zero_add, Int.toNat_natCast]
      first | refine m_store_obj ti43 (hS := hS) (hc := by exact (splice_ic (by rw [hkl]; omega)).trans (by rw [ctabTo_set (by omega)])) (h := fun w3 hS => ?_) | refine m_store_vec ti43 (hS := hS) (hc := by exact (splice_ic (by rw [hkl]; omega)).trans (by rw [ctabTo_set (by omega)])) (h := fun w3 hS => ?_)
      try simp only [opv, n1, n2, n3, n4, Value.cells, Array.toArray_toList] at hS ⊢
      refine x_nil ?_
      refine hK6 _ _ ?_
      refine x_region ?_
      refine s_go (s_add (hc := by first | exact wr_i64 (by omega) (by omega) | rfl)) ?_
      try simp only [opv, n1, n2, n3, n4, Value.cells]
      refine s_go (s_move) ?_
      try simp only [opv, n1, n2, n3, n4, Value.cells]
      refine x_nil ?_
      refine loop_back (m' := 256 - (k + 1)) (by simp only [clob, List.foldl, n1, n2, n3, n4]) ?_ ?_
      · try simp only [opv, n1, n2, n3, n4, Value.cells]
        exact ⟨k + 1, by omega, by omega, by rfl, hS⟩
      · omega
  ·
    try simp only [decide_eq_true_eq, decide_eq_false_iff_not, Bool.not_eq_true', Bool.not_eq_false', Int.not_lt, Int.not_le, ne_eq, Decidable.not_not] at hc1
    obtain rfl : k = 256 := by omega
    rw [ctabTo_all] at hS
    have hcl := ctab_len
    refine x_exit (look_here ?_)
    refine hK2 _ _ ?_
    refine x_seq fun K14 hK14 => ?_
    refine x_region ?_
    first | refine s_go (m_load_row Try.underlying166 (hi := ti166) (hS := hS)) ?_ | refine s_go (m_loada_obj Try.underlying166 (hi := ti166) (hS := hS)) ?_ | refine s_go (m_loada_rd Try.underlying166 (hi := ti166) (hS := hS)) ?_ | refine s_go (m_loada_vec Try.underlying166 (hi := ti166) (hS := hS)) ?_
    try simp only [opv, n1, n2, n3, n4, Value.cells]
    first | refine m_store_obj ti166 (hS := hS) (h := fun w4 hS => ?_) | refine m_store_vec ti166 (hS := hS) (h := fun w4 hS => ?_)
    try simp only [opv, n1, n2, n3, n4, Value.cells, Array.toArray_toList] at hS ⊢
    refine x_nil ?_
    refine hK14 _ _ ?_
    refine x_ret ?_
    refine r_cell_agg rfl Try.underlying166 ti166 (hS := hS) (hR := ?_)
    exact ⟨rfl, hS.ext_of⟩

theorem c_crcMore (w0 : World) (r : Nat) (hrr : r < 65536) (A : Option Addr) (n c : Nat) (l : List Int) (hr : Rd w0 A 1 n (l.map (Value.int .u8))) (hl : l.length = n) (hw : Byt l) (hn : n ≤ 140737488355000) (hc : n ≤ c) :
    CallR Try.prog 46 #[.int .u16 (r : Int), .slice A n c] w0 fun v w' => v = .int .u16 ((crcM r l : Nat) : Int) ∧ Ext w0 w' := by
  have hS := St.rd1 (S := NoB) hr
  refine c_enter (l := [.int .u16 (r : Int), .slice A n c, undef, undef, undef, undef, undef, undef, undef, undef, undef, undef, undef, undef, undef, undef, undef, undef, undef, undef, undef, undef, undef, undef, undef, undef, undef]) Try.func46 rfl (by simp only [Try.ntmps46, List.size_toArray, List.length_cons, List.length_nil, Nat.reduceAdd, Nat.reduceSub, Array.replicate_succ, Array.replicate_zero, List.push_toArray, List.append_toArray, List.nil_append, List.cons_append]) ?_
  refine x_seq fun K1 hK1 => ?_
  refine x_region ?_
  refine s_go (s_assign) ?_
  try simp only [opv, n1, n2, n3, n4, Value.cells]
  refine x_nil ?_
  refine hK1 _ _ ?_
  refine x_seq fun K2 hK2 => ?_
  refine x_region ?_
  refine s_call en146 ?_
  try simp only [opv, n1, n2, n3, n4, Value.cells, List.map_toArray, List.map_cons, List.map_nil, List.append_toArray, List.cons_append, List.nil_append, Array.append_empty]
  refine CallR.mono (c_crcTable _) ?_
  rintro _ w1 ⟨rfl, hE1⟩
  replace hS := hS.ext hE1
  try simp only [opv, n1, n2, n3, n4, Value.cells]
  refine m_alloc ti166 hS (fun w2 g2 hS => ?_)
  try simp only [opv, n1, n2, n3, n4, Value.cells, Array.toArray_toList] at hS ⊢
  first | refine m_store_obj ti166 (hS := hS) (h := fun w3 hS => ?_) | refine m_store_vec ti166 (hS := hS) (h := fun w3 hS => ?_)
  try simp only [opv, n1, n2, n3, n4, Value.cells, Array.toArray_toList] at hS ⊢
  refine x_nil ?_
  refine hK2 _ _ ?_
  refine x_seq fun K3 hK3 => ?_
  refine x_seq fun K4 hK4 => ?_
  refine x_region ?_
  refine s_go (s_move) ?_
  try simp only [opv, n1, n2, n3, n4, Value.cells]
  refine s_go (s_len_sl Try.underlying42) ?_
  try simp only [opv, n1, n2, n3, n4, Value.cells]
  refine s_go (s_move) ?_
  try simp only [opv, n1, n2, n3, n4, Value.cells]
  refine x_nil ?_
  refine hK4 _ _ ?_
  refine x_block ?_
  refine x_loop [0, 7, 11, 12, 13, 14, 15, 16, 17, 18, 19, 20, 21, 22, 23, 24, 25] (fun m f w => ∃ k : Nat, k ≤ n ∧ m = n - k ∧ f 11 = .int .i64 (k : Int) ∧ f 0 = .int .u16 ((crcM r (l.take k) : Nat) : Int) ∧ St NoB w0 w [.obj g2 (.cells (ic .u16 ctab) 166 (0, 0)), .rd A 1 n (l.map (Value.int .u8))]) (n) ?init1 (fun m1 f1 wl1 hI => ?_)
  case init1 =>
    try simp only [opv, n1, n2, n3, n4, Value.cells]
    exact ⟨0, by omega, rfl, rfl, rfl, hS⟩
  obtain ⟨k, hk, hm, h11, h0, hS⟩ := hI
  simp only [clob, List.foldl, n3, n4, h11, h0]
  have hcl : crcM r (l.take k) < 65536 := crcM_lt _ hrr
  have hby := hw.bt k
  have hxl : (crcM r (l.take k) / 256) ^^^ bt l k < 256 := Nat.xor_lt_two_pow (n := 8) (by omega) (by omega)
  refine x_seq fun K5 hK5 => ?_
  refine x_region ?_
  refine s_go (s_lss) ?_
  try simp only [opv, n1, n2, n3, n4, Value.cells]
  refine x_nil ?_
  refine hK5 _ _ ?_
  refine x_seq fun K6 hK6 => ?_
  refine x_cond (ht := fun hc1 => ?_) (hf := fun hc1 => ?_)
  ·
    try simp only [decide_eq_true_eq, decide_eq_false_iff_not, Bool.not_eq_true', Bool.not_eq_false', Int.not_lt, Int.not_le, ne_eq, Decidable.not_not] at hc1
    refine x_skip ?_
    refine hK6 _ _ ?_
    refine x_seq fun K7 hK7 => ?_
    refine x_block ?_
    refine x_seq fun K8 hK8 => ?_
    refine x_region ?_
    first | refine s_go (m_indexAddr_rd Try.underlying42 ti5 (hS := hS)) ?_ | refine s_go (m_indexAddr_vec Try.underlying42 ti5 (hS := hS)) ?_
    try simp only [opv, n1, n2, n3, n4, Value.cells, Nat.mul_one, Nat.zero_add, Int.toNat_natCast]
    first | refine s_go (m_load_obj Try.underlying5 (hS := hS)) ?_ | refine s_go (m_load_rd Try.underlying5 (hS := hS)) ?_ | refine s_go (m_load_vec Try.underlying5 (hS := hS)) ?_
    try simp only [opv, n1, n2, n3, n4, Value.cells]
    rw [hby.1]
    refine s_go (s_assign) ?_
    try simp only [opv, n1, n2, n3, n4, Value.cells]
    refine x_nil ?_
    refine hK8 _ _ ?_
    refine x_region ?_
    refine s_go (s_move) ?_
    try simp only [opv, n1, n2, n3, n4, Value.cells]
    refine s_go (s_shl (hc := shl_u16 (r := crcM r (l.take k)) (p := 256) (s := crcM r (l.take k) * 256 % 65536) rfl)) ?_
    try simp only [opv, n1, n2, n3, n4, Value.cells]
    refine s_go (s_move) ?_
    try simp only [opv, n1, n2, n3, n4, Value.cells]
    refine s_go (s_shr (hc := shr_u .u16 (r := crcM r (l.take k)) (p := 256) (s := crcM r (l.take k) / 256) rfl)) ?_
    try simp only [opv, n1, n2, n3, n4, Value.cells]
    refine s_go (s_conv Try.underlying43 Try.underlying5 (hc := by first | exact wr_u8 (by omega) (by omega) | rfl)) ?_
    try simp only [opv, n1, n2, n3, n4, Value.cells]
    refine s_go (s_move) ?_
    try simp only [opv, n1, n2, n3, n4, Value.cells]
    refine s_go (s_bits (by simp) (hc := xor_u8 (a := crcM r (l.take k) / 256) (b := bt l k) (by omega) (by omega))) ?_
    try simp only [opv, n1, n2, n3, n4, Value.cells]
    refine s_go (m_indexAddr_arr Try.underlying166 ti43) ?_
    try simp only [opv, n1, n2, n3, n4, Value.cells, Nat.mul_one, Nat.zero_add, Int.toNat_natCast]
    first | refine s_go (m_load_obj Try.underlying43 (hS := hS) (hv := ctab_cell hxl)) ?_ | refine s_go (m_load_rd Try.underlying43 (hS := hS) (hv := ctab_cell hxl)) ?_ | refine s_go (m_load_vec Try.underlying43 (hS := hS) (hv := ctab_cell hxl)) ?_
    try simp only [opv, n1, n2, n3, n4, Value.cells]
    refine s_go (s_bits (by simp) (hc := (xor_u16 (by omega) (cstN_lt (by omega) 8)).trans (by rw [tab_step hcl hby.2]))) ?_
    try simp only [opv, n1, n2, n3, n4, Value.cells]
    refine s_go (s_assign) ?_
    try simp only [opv, n1, n2, n3, n4, Value.cells]
    refine x_nil ?_
    refine hK7 _ _ ?_
    refine x_region ?_
    refine s_go (s_add (hc := by first | exact wr_i64 (by omega) (by omega) | rfl)) ?_
    try simp only [opv, n1, n2, n3, n4, Value.cells]
    refine s_go (s_move) ?_
    try simp only [opv, n1, n2, n3, n4, Value.cells]
    refine x_nil ?_
    refine loop_back (m' := n - (k + 1)) (by simp only [clob, List.foldl, n1, n2, n3, n4]) ?_ ?_
    · try simp only [opv, n1, n2, n3, n4, Value.cells]
      exact ⟨k + 1, by omega, by omega, by rfl, by rw [crcM_snoc (by omega)], hS⟩
    · omega
  ·
    try simp only [decide_eq_true_eq, decide_eq_false_iff_not, Bool.not_eq_true', Bool.not_eq_false', Int.not_lt, Int.not_le, ne_eq, Decidable.not_not] at hc1
    obtain rfl : k = n := by omega
    rw [← hl, List.take_length]
    refine x_exit (look_here ?_)
    refine hK3 _ _ ?_
    refine x_seq fun K9 hK9 => ?_
    refine x_region ?_
    refine s_go (s_move) ?_
    try simp only [opv, n1, n2, n3, n4, Value.cells]
    refine s_go (s_assign) ?_
    try simp only [opv, n1, n2, n3, n4, Value.cells]
    refine x_nil ?_
    refine hK9 _ _ ?_
    refine x_ret ?_
    refine r_tmp rfl ?_
    exact ⟨rfl, hS.ext_of⟩

theorem c_crcSum (w0 : World) (A : Option Addr) (n c : Nat) (l : List Int) (hr : Rd w0 A 1 n (l.map (Value.int .u8))) (hl : l.length = n) (hw : Byt l) (hn : n ≤ 140737488355000) (hc : n ≤ c) :
    CallR Try.prog 44 #[.slice A n c] w0 fun v w' => v = .int .u16 ((crcM 65535 l : Nat) : Int) ∧ Ext w0 w' := by
  have hS := St.rd1 (S := NoB) hr
  refine c_enter (l := [.slice A n c, undef, undef, undef, undef]) Try.func44 rfl (by simp only [Try.ntmps44, List.size_toArray, List.length_cons, List.length_nil, Nat.reduceAdd, Nat.reduceSub, Array.replicate_succ, Array.replicate_zero, List.push_toArray, List.append_toArray, List.nil_append, List.cons_append]) ?_
  refine x_seq fun K1 hK1 => ?_
  refine x_region ?_
  refine s_go (s_assign) ?_
  try simp only [opv, n1, n2, n3, n4, Value.cells]
  refine x_nil ?_
  refine hK1 _ _ ?_
  refine x_seq fun K2 hK2 => ?_
  refine x_region ?_
  refine s_go (s_move) ?_
  try simp only [opv, n1, n2, n3, n4, Value.cells]
  refine s_call en46 ?_
  try simp only [opv, n1, n2, n3, n4, Value.cells, List.map_toArray, List.map_cons, List.map_nil, List.append_toArray, List.cons_append, List.nil_append, Array.append_empty]
  refine CallR.mono (c_crcMore _ 65535 (by omega) _ _ _ _ (hS.hasRd (by repeat (first | exact Has.head | apply Has.tail))) (by simp [*]) (by first | assumption | exact Byt.take (by assumption) _) (by omega) (by omega)) ?_
  rintro _ w1 ⟨rfl, hE1⟩
  replace hS := hS.ext hE1
  try simp only [opv, n1, n2, n3, n4, Value.cells]
  refine s_go (s_assign) ?_
  try simp only [opv, n1, n2, n3, n4, Value.cells]
  refine x_nil ?_
  refine hK2 _ _ ?_
  refine x_ret ?_
  refine r_tmp rfl ?_
  exact ⟨rfl, hS.ext_of⟩
end Go.Proofs.Ytjgbcaegofpggaa
