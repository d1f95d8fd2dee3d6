/- Contracts of functions, printed by a program of this seat (wip/tools/gen.py) out of its specs. -/
import Derived.Test.YtpjpaipkkcengaaCa
set_option linter.unusedSimpArgs false
set_option linter.unusedVariables false
set_option maxHeartbeats 800000
set_option maxRecDepth 100000
namespace Go.Proofs.Ytpjpaipkkcengaa
open Go.RowKit

/-- a row that is turned, number by number, up to place k -/
def mixv (op : Int → Int → Int) (a b : List Int) (k : Nat) : List Int := List.zipWith op (a.take k) (b.take k) ++ a.drop k
section
variable {op : Int → Int → Int} {a b : List Int} {k : Nat}
theorem mixv_len (h : b.length = a.length) : (mixv op a b k).length = a.length := by simp [mixv, h]; omega
theorem set_getD0 (l : List Int) (d : Nat) : l.set d (l.getD d 0) = l := by
  by_cases h : d < l.length
  · rw [List.getD_eq_getElem?_getD, List.getElem?_eq_getElem h]; simp
  · rw [List.set_eq_of_length_le (by omega)]
theorem mixv_zero : mixv op a b 0 = a := by simp [mixv]
theorem mixv_all (h : b.length = a.length) : mixv op a b a.length = List.zipWith op a b := by
  have e : b.take a.length = b := by rw [← h, List.take_length]
  simp [mixv, e]
theorem mixv_get (h : b.length = a.length) (hk : k < a.length) : (mixv op a b k).getD k 0 = a.getD k 0 := by
  have hl : (List.zipWith op (a.take k) (b.take k)).length = k := by simp [h]; omega
  simp only [mixv, List.getD_eq_getElem?_getD]
  rw [List.getElem?_append_right (by omega), hl, Nat.sub_self, List.getElem?_drop]; simp
theorem mixv_set (h : b.length = a.length) (hk : k < a.length) : (mixv op a b k).set k (op (a.getD k 0) (b.getD k 0)) = mixv op a b (k + 1) := by
  have hl : (List.zipWith op (a.take k) (b.take k)).length = k := by simp [h]; omega
  simp only [mixv]
  rw [List.set_append_right _ _ (by omega), hl, Nat.sub_self, List.drop_eq_getElem_cons hk, List.set_cons_zero]
  have hk' : k < b.length := by omega
  rw [List.take_succ_eq_append_getElem hk, List.take_succ_eq_append_getElem hk', List.zipWith_append (by simp [h])]
  simp [List.getD_eq_getElem?_getD, List.getElem?_eq_getElem hk, List.getElem?_eq_getElem hk']
end


theorem c_vecJoin1 (x y : Int) (w0 : World) :
    CallR Try.prog 187 #[.int .u32 x, .int .u32 y] w0 fun v w' => v = .int .u32 (max x y) ∧ w0 = w' := by
  have hS : St NoB w0 w0 [] := St.start w0
  refine c_enter (l := [.int .u32 x, .int .u32 y, undef, undef, undef, undef, undef, undef]) Try.func187 rfl (by simp only [Try.ntmps187, List.size_toArray, List.length_cons, List.length_nil, Nat.reduceAdd, Nat.reduceSub, Array.replicate_succ, Array.replicate_zero, List.push_toArray, List.append_toArray, List.nil_append, List.cons_append]) ?_
  refine x_seq fun K1 hK1 => ?_
  refine x_region ?_
  refine s_go (s_assign) ?_
  try simp only [opv, n1, n2, n3, n4, Value.cells]
  refine x_nil ?_
  refine hK1 _ _ ?_
  refine x_seq fun K2 hK2 => ?_
  refine x_region ?_
  refine s_go (s_move) ?_
  try simp only [opv, n1, n2, n3, n4, Value.cells]
  refine s_go (s_move) ?_
  try simp only [opv, n1, n2, n3, n4, Value.cells]
  refine s_go (s_max) ?_
  try simp only [opv, n1, n2, n3, n4, Value.cells]
  refine s_go (s_assign) ?_
  try simp only [opv, n1, n2, n3, n4, Value.cells]
  refine x_nil ?_
  refine hK2 _ _ ?_
  refine x_ret ?_
  refine r_tmp rfl ?_
  exact ⟨rfl, rfl⟩

theorem c_vecBothJoin (a b : List Int) (ha : a.length = 16) (hb : b.length = 16) (w0 : World) :
    CallR Try.prog 186 #[.agg (ic .u32 a), .agg (ic .u32 b), .func (.func 187) #[] #[]] w0 fun v w' => v = .agg (ic .u32 (List.zipWith max a b)) ∧ Ext w0 w' := by
  have hS : St NoB w0 w0 [] := St.start w0
  refine c_enter (l := [.agg (ic .u32 a), .agg (ic .u32 b), .func (.func 187) #[] #[], undef, undef, undef, undef, undef, undef, undef, undef, undef, undef, undef, undef, undef, undef, undef, undef, undef, undef, undef, undef, undef]) Try.func186 rfl (by simp only [Try.ntmps186, List.size_toArray, List.length_cons, List.length_nil, Nat.reduceAdd, Nat.reduceSub, Array.replicate_succ, Array.replicate_zero, List.push_toArray, List.append_toArray, List.nil_append, List.cons_append]) ?_
  refine x_seq fun K1 hK1 => ?_
  refine x_region ?_
  refine m_box hS (fun w1 g1 hS => ?_)
  try simp only [opv, n1, n2, n3, n4, Value.cells, Array.toArray_toList] at hS ⊢
  refine m_box hS (fun w2 g2 hS => ?_)
  try simp only [opv, n1, n2, n3, n4, Value.cells, Array.toArray_toList] at hS ⊢
  refine m_alloc ti27 hS (fun w3 g3 hS => ?_)
  try simp only [opv, n1, n2, n3, n4, Value.cells, Array.toArray_toList] at hS ⊢
  refine x_nil ?_
  refine hK1 _ _ ?_
  refine x_seq fun K2 hK2 => ?_
  refine x_seq fun K3 hK3 => ?_
  refine x_region ?_
  first | refine s_go (m_load_row Try.underlying27 (hi := ti27) (hS := hS)) ?_ | refine s_go (m_loada_obj Try.underlying27 (hi := ti27) (hS := hS)) ?_ | refine s_go (m_loada_bx Try.underlying27 (hi := ti27) (hS := hS)) ?_ | refine s_go (m_loada_rd Try.underlying27 (hi := ti27) (hS := hS)) ?_ | refine s_go (m_loada_vec Try.underlying27 (hi := ti27) (hS := hS)) ?_
  try simp only [opv, n1, n2, n3, n4, Value.cells, List.getElem_toArray, List.getElem_cons_zero, List.getElem_cons_succ]
  refine s_go (s_move) ?_
  try simp only [opv, n1, n2, n3, n4, Value.cells]
  refine x_nil ?_
  refine hK3 _ _ ?_
  refine x_block ?_
  refine x_loop [7, 8, 10, 11, 12, 13, 14, 15, 16, 17, 18, 19, 20, 21, 22] (fun m f w => ∃ k : Nat, k ≤ 16 ∧ m = 16 - k ∧ f 10 = .int .i64 (k : Int) ∧ St NoB w0 w [.obj g3 (.cells (ic .u32 (List.replicate 16 0)) 27 (0, 0)), .obj g2 (.cells (ic .u32 b) 27 (0, 0)), .obj g1 (.cells (ic .u32 (mixv max a b k)) 27 (0, 0))]) (16) ?init1 (fun m1 f1 wl1 hI => ?_)
  case init1 =>
    try simp only [opv, n1, n2, n3, n4, Value.cells]
    exact ⟨0, by omega, rfl, rfl, by rw [mixv_zero]; exact hS⟩
  obtain ⟨k, hk, hm, h10, hS⟩ := hI
  simp only [clob, List.foldl, n3, n4, h10]
  have hml : (mixv max a b k).length = 16 := by rw [mixv_len (by omega), ha]
  refine x_seq fun K4 hK4 => ?_
  refine x_region ?_
  refine s_go (s_lss) ?_
  try simp only [opv, n1, n2, n3, n4, Value.cells]
  refine x_nil ?_
  refine hK4 _ _ ?_
  refine x_seq fun K5 hK5 => ?_
  refine x_cond (ht := fun hc1 => ?_) (hf := fun hc1 => ?_)
  ·
    try simp only [decide_eq_true_eq, decide_eq_false_iff_not, Bool.not_eq_true', Bool.not_eq_false', Int.not_lt, Int.not_le, ne_eq, Decidable.not_not, bne_iff_ne, beq_iff_eq, not_true_eq_false, not_false_eq_true] at hc1
    refine x_skip ?_
    refine hK5 _ _ ?_
    refine x_seq fun K6 hK6 => ?_
    refine x_block ?_
    refine x_seq fun K7 hK7 => ?_
    refine x_region ?_
    refine s_go (s_move) ?_
    try simp only [opv, n1, n2, n3, n4, Value.cells]
    refine s_go (s_index_one Try.underlying27 ti25 Try.underlying25) ?_
    try simp only [opv, n1, n2, n3, n4, Value.cells, Nat.mul_one, Nat.zero_add, Int.toNat_natCast, Int.reduceToNat]
    refine s_go (s_assign) ?_
    try simp only [opv, n1, n2, n3, n4, Value.cells]
    refine s_go (s_assign) ?_
    try simp only [opv, n1, n2, n3, n4, Value.cells]
    refine x_nil ?_
    refine hK7 _ _ ?_
    refine x_region ?_
    refine s_go (s_move) ?_
    try simp only [opv, n1, n2, n3, n4, Value.cells]
    refine s_go (s_move) ?_
    try simp only [opv, n1, n2, n3, n4, Value.cells]
    refine s_go (s_move) ?_
    try simp only [opv, n1, n2, n3, n4, Value.cells]
    refine s_go (m_indexAddr_arr Try.underlying27 ti25) ?_
    try simp only [opv, n1, n2, n3, n4, Value.cells, Nat.mul_one, Nat.zero_add, Int.toNat_natCast, Int.reduceToNat]
    first | refine s_go (m_load_obj Try.underlying25 (hS := hS)) ?_ | refine s_go (m_load_bx Try.underlying25 (hS := hS)) ?_ | refine s_go (m_load_rd Try.underlying25 (hS := hS)) ?_ | refine s_go (m_load_vec Try.underlying25 (hS := hS)) ?_
    try simp only [opv, n1, n2, n3, n4, Value.cells, List.getElem_toArray, List.getElem_cons_zero, List.getElem_cons_succ]
    refine s_go (s_move) ?_
    try simp only [opv, n1, n2, n3, n4, Value.cells]
    refine s_callv (hv := rfl) en187 ?_
    try simp only [opv, n1, n2, n3, n4, Value.cells, List.map_toArray, List.map_cons, List.map_nil, List.append_toArray, List.cons_append, List.nil_append, Array.append_empty]
    refine CallR.mono (c_vecJoin1 _ _ _) ?_
    rintro _ _ ⟨rfl, rfl⟩
    try simp only [opv, n1, n2, n3, n4, Value.cells]
    refine s_go (m_indexAddr_arr Try.underlying27 ti25) ?_
    try simp only [opv, n1, n2, n3, n4, Value.cells, Nat.mul_one, Nat.zero_add, Int.toNat_natCast, Int.reduceToNat]
    first | refine m_store_obj ti25 (hS := hS) (h := fun w5 hS => ?_) | refine m_store_vec ti25 (hS := hS) (h := fun w5 hS => ?_)
    try simp only [opv, n1, n2, n3, n4, Value.cells, Array.toArray_toList] at hS ⊢
    refine x_nil ?_
    refine hK6 _ _ ?_
    refine x_region ?_
    refine s_go (s_add (hc := by first | exact wr_i64 (by omega) (by omega) | rfl)) ?_
    try simp only [opv, n1, n2, n3, n4, Value.cells]
    refine s_go (s_move) ?_
    try simp only [opv, n1, n2, n3, n4, Value.cells]
    refine x_nil ?_
    refine loop_back (m' := 16 - (k + 1)) (by simp only [clob, List.foldl, n1, n2, n3, n4]) ?_ ?_
    · try simp only [opv, n1, n2, n3, n4, Value.cells]
      exact ⟨k + 1, by omega, by omega, by rfl, by rw [← mixv_set (by omega) (by omega), ← mixv_get (op := max) (b := b) (k := k) (by omega) (by omega)]; exact hS⟩
    · omega
  ·
    try simp only [decide_eq_true_eq, decide_eq_false_iff_not, Bool.not_eq_true', Bool.not_eq_false', Int.not_lt, Int.not_le, ne_eq, Decidable.not_not, bne_iff_ne, beq_iff_eq, not_true_eq_false, not_false_eq_true] at hc1
    obtain rfl : k = 16 := by omega
    refine x_exit (look_here ?_)
    refine hK2 _ _ ?_
    refine x_seq fun K8 hK8 => ?_
    refine x_region ?_
    first | refine s_go (m_load_row Try.underlying27 (hi := ti27) (hS := hS)) ?_ | refine s_go (m_loada_obj Try.underlying27 (hi := ti27) (hS := hS)) ?_ | refine s_go (m_loada_bx Try.underlying27 (hi := ti27) (hS := hS)) ?_ | refine s_go (m_loada_rd Try.underlying27 (hi := ti27) (hS := hS)) ?_ | refine s_go (m_loada_vec Try.underlying27 (hi := ti27) (hS := hS)) ?_
    try simp only [opv, n1, n2, n3, n4, Value.cells, List.getElem_toArray, List.getElem_cons_zero, List.getElem_cons_succ]
    first | refine m_store_obj ti27 (hS := hS) (h := fun w6 hS => ?_) | refine m_store_vec ti27 (hS := hS) (h := fun w6 hS => ?_)
    try simp only [opv, n1, n2, n3, n4, Value.cells, Array.toArray_toList] at hS ⊢
    refine x_nil ?_
    refine hK8 _ _ ?_
    refine x_ret ?_
    refine r_cell_agg rfl Try.underlying27 ti27 (hS := hS) (hR := ?_)
    exact ⟨by rw [← mixv_all (by omega), ha], hS.ext_of⟩

theorem c_vecMeet1 (x y : Int) (w0 : World) :
    CallR Try.prog 240 #[.int .u32 x, .int .u32 y] w0 fun v w' => v = .int .u32 (min x y) ∧ w0 = w' := by
  have hS : St NoB w0 w0 [] := St.start w0
  refine c_enter (l := [.int .u32 x, .int .u32 y, undef, undef, undef, undef, undef, undef]) Try.func240 rfl (by simp only [Try.ntmps240, List.size_toArray, List.length_cons, List.length_nil, Nat.reduceAdd, Nat.reduceSub, Array.replicate_succ, Array.replicate_zero, List.push_toArray, List.append_toArray, List.nil_append, List.cons_append]) ?_
  refine x_seq fun K1 hK1 => ?_
  refine x_region ?_
  refine s_go (s_assign) ?_
  try simp only [opv, n1, n2, n3, n4, Value.cells]
  refine x_nil ?_
  refine hK1 _ _ ?_
  refine x_seq fun K2 hK2 => ?_
  refine x_region ?_
  refine s_go (s_move) ?_
  try simp only [opv, n1, n2, n3, n4, Value.cells]
  refine s_go (s_move) ?_
  try simp only [opv, n1, n2, n3, n4, Value.cells]
  refine s_go (s_min) ?_
  try simp only [opv, n1, n2, n3, n4, Value.cells]
  refine s_go (s_assign) ?_
  try simp only [opv, n1, n2, n3, n4, Value.cells]
  refine x_nil ?_
  refine hK2 _ _ ?_
  refine x_ret ?_
  refine r_tmp rfl ?_
  exact ⟨rfl, rfl⟩

theorem c_vecBothMeet (a b : List Int) (ha : a.length = 16) (hb : b.length = 16) (w0 : World) :
    CallR Try.prog 186 #[.agg (ic .u32 a), .agg (ic .u32 b), .func (.func 240) #[] #[]] w0 fun v w' => v = .agg (ic .u32 (List.zipWith min a b)) ∧ Ext w0 w' := by
  have hS : St NoB w0 w0 [] := St.start w0
  refine c_enter (l := [.agg (ic .u32 a), .agg (ic .u32 b), .func (.func 240) #[] #[], undef, undef, undef, undef, undef, undef, undef, undef, undef, undef, undef, undef, undef, undef, undef, undef, undef, undef, undef, undef, undef]) Try.func186 rfl (by simp only [Try.ntmps186, List.size_toArray, List.length_cons, List.length_nil, Nat.reduceAdd, Nat.reduceSub, Array.replicate_succ, Array.replicate_zero, List.push_toArray, List.append_toArray, List.nil_append, List.cons_append]) ?_
  refine x_seq fun K1 hK1 => ?_
  refine x_region ?_
  refine m_box hS (fun w1 g1 hS => ?_)
  try simp only [opv, n1, n2, n3, n4, Value.cells, Array.toArray_toList] at hS ⊢
  refine m_box hS (fun w2 g2 hS => ?_)
  try simp only [opv, n1, n2, n3, n4, Value.cells, Array.toArray_toList] at hS ⊢
  refine m_alloc ti27 hS (fun w3 g3 hS => ?_)
  try simp only [opv, n1, n2, n3, n4, Value.cells, Array.toArray_toList] at hS ⊢
  refine x_nil ?_
  refine hK1 _ _ ?_
  refine x_seq fun K2 hK2 => ?_
  refine x_seq fun K3 hK3 => ?_
  refine x_region ?_
  first | refine s_go (m_load_row Try.underlying27 (hi := ti27) (hS := hS)) ?_ | refine s_go (m_loada_obj Try.underlying27 (hi := ti27) (hS := hS)) ?_ | refine s_go (m_loada_bx Try.underlying27 (hi := ti27) (hS := hS)) ?_ | refine s_go (m_loada_rd Try.underlying27 (hi := ti27) (hS := hS)) ?_ | refine s_go (m_loada_vec Try.underlying27 (hi := ti27) (hS := hS)) ?_
  try simp only [opv, n1, n2, n3, n4, Value.cells, List.getElem_toArray, List.getElem_cons_zero, List.getElem_cons_succ]
  refine s_go (s_move) ?_
  try simp only [opv, n1, n2, n3, n4, Value.cells]
  refine x_nil ?_
  refine hK3 _ _ ?_
  refine x_block ?_
  refine x_loop [7, 8, 10, 11, 12, 13, 14, 15, 16, 17, 18, 19, 20, 21, 22] (fun m f w => ∃ k : Nat, k ≤ 16 ∧ m = 16 - k ∧ f 10 = .int .i64 (k : Int) ∧ St NoB w0 w [.obj g3 (.cells (ic .u32 (List.replicate 16 0)) 27 (0, 0)), .obj g2 (.cells (ic .u32 b) 27 (0, 0)), .obj g1 (.cells (ic .u32 (mixv min a b k)) 27 (0, 0))]) (16) ?init1 (fun m1 f1 wl1 hI => ?_)
  case init1 =>
    try simp only [opv, n1, n2, n3, n4, Value.cells]
    exact ⟨0, by omega, rfl, rfl, by rw [mixv_zero]; exact hS⟩
  obtain ⟨k, hk, hm, h10, hS⟩ := hI
  simp only [clob, List.foldl, n3, n4, h10]
  have hml : (mixv min a b k).length = 16 := by rw [mixv_len (by omega), ha]
  refine x_seq fun K4 hK4 => ?_
  refine x_region ?_
  refine s_go (s_lss) ?_
  try simp only [opv, n1, n2, n3, n4, Value.cells]
  refine x_nil ?_
  refine hK4 _ _ ?_
  refine x_seq fun K5 hK5 => ?_
  refine x_cond (ht := fun hc1 => ?_) (hf := fun hc1 => ?_)
  ·
    try simp only [decide_eq_true_eq, decide_eq_false_iff_not, Bool.not_eq_true', Bool.not_eq_false', Int.not_lt, Int.not_le, ne_eq, Decidable.not_not, bne_iff_ne, beq_iff_eq, not_true_eq_false, not_false_eq_true] at hc1
    refine x_skip ?_
    refine hK5 _ _ ?_
    refine x_seq fun K6 hK6 => ?_
    refine x_block ?_
    refine x_seq fun K7 hK7 => ?_
    refine x_region ?_
    refine s_go (s_move) ?_
    try simp only [opv, n1, n2, n3, n4, Value.cells]
    refine s_go (s_index_one Try.underlying27 ti25 Try.underlying25) ?_
    try simp only [opv, n1, n2, n3, n4, Value.cells, Nat.mul_one, Nat.zero_add, Int.toNat_natCast, Int.reduceToNat]
    refine s_go (s_assign) ?_
    try simp only [opv, n1, n2, n3, n4, Value.cells]
    refine s_go (s_assign) ?_
    try simp only [opv, n1, n2, n3, n4, Value.cells]
    refine x_nil ?_
    refine hK7 _ _ ?_
    refine x_region ?_
    refine s_go (s_move) ?_
    try simp only [opv, n1, n2, n3, n4, Value.cells]
    refine s_go (s_move) ?_
    try simp only [opv, n1, n2, n3, n4, Value.cells]
    refine s_go (s_move) ?_
    try simp only [opv, n1, n2, n3, n4, Value.cells]
    refine s_go (m_indexAddr_arr Try.underlying27 ti25) ?_
    try simp only [opv, n1, n2, n3, n4, Value.cells, Nat.mul_one, Nat.zero_add, Int.toNat_natCast, Int.reduceToNat]
    first | refine s_go (m_load_obj Try.underlying25 (hS := hS)) ?_ | refine s_go (m_load_bx Try.underlying25 (hS := hS)) ?_ | refine s_go (m_load_rd Try.underlying25 (hS := hS)) ?_ | refine s_go (m_load_vec Try.underlying25 (hS := hS)) ?_
    try simp only [opv, n1, n2, n3, n4, Value.cells, List.getElem_toArray, List.getElem_cons_zero, List.getElem_cons_succ]
    refine s_go (s_move) ?_
    try simp only [opv, n1, n2, n3, n4, Value.cells]
    refine s_callv (hv := rfl) en240 ?_
    try simp only [opv, n1, n2, n3, n4, Value.cells, List.map_toArray, List.map_cons, List.map_nil, List.append_toArray, List.cons_append, List.nil_append, Array.append_empty]
    refine CallR.mono (c_vecMeet1 _ _ _) ?_
    rintro _ _ ⟨rfl, rfl⟩
    try simp only [opv, n1, n2, n3, n4, Value.cells]
    refine s_go (m_indexAddr_arr Try.underlying27 ti25) ?_
    try simp only [opv, n1, n2, n3, n4, Value.cells, Nat.mul_one, Nat.zero_add, Int.toNat_natCast, Int.reduceToNat]
    first | refine m_store_obj ti25 (hS := hS) (h := fun w5 hS => ?_) | refine m_store_vec ti25 (hS := hS) (h := fun w5 hS => ?_)
    try simp only [opv, n1, n2, n3, n4, Value.cells, Array.toArray_toList] at hS ⊢
    refine x_nil ?_
    refine hK6 _ _ ?_
    refine x_region ?_
    refine s_go (s_add (hc := by first | exact wr_i64 (by omega) (by omega) | rfl)) ?_
    try simp only [opv, n1, n2, n3, n4, Value.cells]
    refine s_go (s_move) ?_
    try simp only [opv, n1, n2, n3, n4, Value.cells]
    refine x_nil ?_
    refine loop_back (m' := 16 - (k + 1)) (by simp only [clob, List.foldl, n1, n2, n3, n4]) ?_ ?_
    · try simp only [opv, n1, n2, n3, n4, Value.cells]
      exact ⟨k + 1, by omega, by omega, by rfl, by rw [← mixv_set (by omega) (by omega), ← mixv_get (op := min) (b := b) (k := k) (by omega) (by omega)]; exact hS⟩
    · omega
  ·
    try simp only [decide_eq_true_eq, decide_eq_false_iff_not, Bool.not_eq_true', Bool.not_eq_false', Int.not_lt, Int.not_le, ne_eq, Decidable.not_not, bne_iff_ne, beq_iff_eq, not_true_eq_false, not_false_eq_true] at hc1
    obtain rfl : k = 16 := by omega
    refine x_exit (look_here ?_)
    refine hK2 _ _ ?_
    refine x_seq fun K8 hK8 => ?_
    refine x_region ?_
    first | refine s_go (m_load_row Try.underlying27 (hi := ti27) (hS := hS)) ?_ | refine s_go (m_loada_obj Try.underlying27 (hi := ti27) (hS := hS)) ?_ | refine s_go (m_loada_bx Try.underlying27 (hi := ti27) (hS := hS)) ?_ | refine s_go (m_loada_rd Try.underlying27 (hi := ti27) (hS := hS)) ?_ | refine s_go (m_loada_vec Try.underlying27 (hi := ti27) (hS := hS)) ?_
    try simp only [opv, n1, n2, n3, n4, Value.cells, List.getElem_toArray, List.getElem_cons_zero, List.getElem_cons_succ]
    first | refine m_store_obj ti27 (hS := hS) (h := fun w6 hS => ?_) | refine m_store_vec ti27 (hS := hS) (h := fun w6 hS => ?_)
    try simp only [opv, n1, n2, n3, n4, Value.cells, Array.toArray_toList] at hS ⊢
    refine x_nil ?_
    refine hK8 _ _ ?_
    refine x_ret ?_
    refine r_cell_agg rfl Try.underlying27 ti27 (hS := hS) (hR := ?_)
    exact ⟨by rw [← mixv_all (by omega), ha], hS.ext_of⟩


def vjoin (a b : List Int) : List Int := List.zipWith max a b
def vmeet (a b : List Int) : List Int := List.zipWith min a b
def vleq (a b : List Int) : Bool := decide (vmeet a b = a)
def vcmp (a b : List Int) : Int := if a = b then 0 else if vmeet a b = a then 1 else if vmeet a b = b then 2 else 3
@[simp] theorem vjoin_len (a b : List Int) : (vjoin a b).length = min a.length b.length := by simp [vjoin]
@[simp] theorem vmeet_len (a b : List Int) : (vmeet a b).length = min a.length b.length := by simp [vmeet]
theorem vmeet_comm (a b : List Int) : vmeet a b = vmeet b a := by
  unfold vmeet
  rw [List.zipWith_comm]
  congr 1
  funext x y
  exact Int.min_comm y x
theorem vjoin_iff : ∀ (a b : List Int), b.length = a.length → (vjoin a b = b ↔ vmeet a b = a)
  | [], [], _ => by simp [vjoin, vmeet]
  | x :: a, y :: b, h => by
    have := vjoin_iff a b (by simpa using h)
    simp only [vjoin, vmeet, List.zipWith_cons_cons, List.cons.injEq] at this ⊢
    rw [this]
    constructor <;> rintro ⟨h1, h2⟩ <;> exact ⟨by omega, h2⟩


theorem c_vecJoin (a b : List Int) (ha : a.length = 16) (hb : b.length = 16) (w0 : World) :
    CallR Try.prog 112 #[.agg (ic .u32 a), .agg (ic .u32 b)] w0 fun v w' => v = .agg (ic .u32 (vjoin a b)) ∧ Ext w0 w' := by
  have hS : St NoB w0 w0 [] := St.start w0
  refine c_enter (l := [.agg (ic .u32 a), .agg (ic .u32 b), undef, undef, undef, undef, undef, undef]) Try.func112 rfl (by simp only [Try.ntmps112, List.size_toArray, List.length_cons, List.length_nil, Nat.reduceAdd, Nat.reduceSub, Array.replicate_succ, Array.replicate_zero, List.push_toArray, List.append_toArray, List.nil_append, List.cons_append]) ?_
  refine x_seq fun K1 hK1 => ?_
  refine x_region ?_
  refine m_box hS (fun w1 g1 hS => ?_)
  try simp only [opv, n1, n2, n3, n4, Value.cells, Array.toArray_toList] at hS ⊢
  refine m_box hS (fun w2 g2 hS => ?_)
  try simp only [opv, n1, n2, n3, n4, Value.cells, Array.toArray_toList] at hS ⊢
  refine m_alloc ti27 hS (fun w3 g3 hS => ?_)
  try simp only [opv, n1, n2, n3, n4, Value.cells, Array.toArray_toList] at hS ⊢
  refine x_nil ?_
  refine hK1 _ _ ?_
  refine x_seq fun K2 hK2 => ?_
  refine x_region ?_
  first | refine s_go (m_load_row Try.underlying27 (hi := ti27) (hS := hS)) ?_ | refine s_go (m_loada_obj Try.underlying27 (hi := ti27) (hS := hS)) ?_ | refine s_go (m_loada_bx Try.underlying27 (hi := ti27) (hS := hS)) ?_ | refine s_go (m_loada_rd Try.underlying27 (hi := ti27) (hS := hS)) ?_ | refine s_go (m_loada_vec Try.underlying27 (hi := ti27) (hS := hS)) ?_
  try simp only [opv, n1, n2, n3, n4, Value.cells, List.getElem_toArray, List.getElem_cons_zero, List.getElem_cons_succ]
  first | refine s_go (m_load_row Try.underlying27 (hi := ti27) (hS := hS)) ?_ | refine s_go (m_loada_obj Try.underlying27 (hi := ti27) (hS := hS)) ?_ | refine s_go (m_loada_bx Try.underlying27 (hi := ti27) (hS := hS)) ?_ | refine s_go (m_loada_rd Try.underlying27 (hi := ti27) (hS := hS)) ?_ | refine s_go (m_loada_vec Try.underlying27 (hi := ti27) (hS := hS)) ?_
  try simp only [opv, n1, n2, n3, n4, Value.cells, List.getElem_toArray, List.getElem_cons_zero, List.getElem_cons_succ]
  refine s_call en186 ?_
  try simp only [opv, n1, n2, n3, n4, Value.cells, List.map_toArray, List.map_cons, List.map_nil, List.append_toArray, List.cons_append, List.nil_append, Array.append_empty]
  refine CallR.mono (c_vecBothJoin a b ha hb _) ?_
  rintro _ w4 ⟨rfl, hE4⟩
  replace hS := hS.ext hE4
  try simp only [opv, n1, n2, n3, n4, Value.cells]
  first | refine m_store_obj ti27 (hS := hS) (h := fun w5 hS => ?_) | refine m_store_vec ti27 (hS := hS) (h := fun w5 hS => ?_)
  try simp only [opv, n1, n2, n3, n4, Value.cells, Array.toArray_toList] at hS ⊢
  refine x_nil ?_
  refine hK2 _ _ ?_
  refine x_ret ?_
  refine r_cell_agg rfl Try.underlying27 ti27 (hS := hS) (hR := ?_)
  exact ⟨rfl, hS.ext_of⟩

theorem c_ref12Join (a b : List Int) (ha : a.length = 16) (hb : b.length = 16) (w0 : World) :
    CallR Try.prog 173 #[.agg (ic .u32 a), .agg (ic .u32 b)] w0 fun v w' => v = .agg (ic .u32 (vjoin a b)) ∧ Ext w0 w' := by
  have hS : St NoB w0 w0 [] := St.start w0
  refine c_enter (l := [.agg (ic .u32 a), .agg (ic .u32 b), undef, undef, undef, undef, undef, undef, undef, undef, undef, undef, undef, undef, undef, undef, undef, undef, undef, undef, undef, undef, undef]) Try.func173 rfl (by simp only [Try.ntmps173, List.size_toArray, List.length_cons, List.length_nil, Nat.reduceAdd, Nat.reduceSub, Array.replicate_succ, Array.replicate_zero, List.push_toArray, List.append_toArray, List.nil_append, List.cons_append]) ?_
  refine x_seq fun K1 hK1 => ?_
  refine x_region ?_
  refine m_box hS (fun w1 g1 hS => ?_)
  try simp only [opv, n1, n2, n3, n4, Value.cells, Array.toArray_toList] at hS ⊢
  refine m_box hS (fun w2 g2 hS => ?_)
  try simp only [opv, n1, n2, n3, n4, Value.cells, Array.toArray_toList] at hS ⊢
  refine m_alloc ti26 hS (fun w3 g3 hS => ?_)
  try simp only [opv, n1, n2, n3, n4, Value.cells, Array.toArray_toList] at hS ⊢
  refine x_nil ?_
  refine hK1 _ _ ?_
  refine x_seq fun K2 hK2 => ?_
  refine x_seq fun K3 hK3 => ?_
  refine x_region ?_
  refine s_go (s_assign) ?_
  try simp only [opv, n1, n2, n3, n4, Value.cells]
  refine x_nil ?_
  refine hK3 _ _ ?_
  refine x_block ?_
  refine x_loop [5, 6, 7, 8, 9, 10, 11, 12, 13, 14, 15, 16, 17, 18, 19, 20, 21] (fun m f w => ∃ k : Nat, k ≤ 16 ∧ m = 16 - k ∧ f 5 = .int .i64 (k : Int) ∧ St NoB w0 w [.obj g3 (.cells (ic .u32 (List.replicate 16 0)) 26 (0, 0)), .obj g2 (.cells (ic .u32 b) 26 (0, 0)), .obj g1 (.cells (ic .u32 (mixv max a b k)) 26 (0, 0))]) (16) ?init1 (fun m1 f1 wl1 hI => ?_)
  case init1 =>
    try simp only [opv, n1, n2, n3, n4, Value.cells]
    exact ⟨0, by omega, rfl, rfl, by rw [mixv_zero]; exact hS⟩
  obtain ⟨k, hk, hm, h5, hS⟩ := hI
  simp only [clob, List.foldl, n3, n4, h5]
  have hml : (mixv max a b k).length = 16 := by rw [mixv_len (by omega), ha]
  refine x_seq fun K4 hK4 => ?_
  refine x_seq fun K5 hK5 => ?_
  refine x_region ?_
  refine s_go (s_move) ?_
  try simp only [opv, n1, n2, n3, n4, Value.cells]
  refine s_go (s_lss) ?_
  try simp only [opv, n1, n2, n3, n4, Value.cells]
  refine x_nil ?_
  refine hK5 _ _ ?_
  refine x_cond (ht := fun hc1 => ?_) (hf := fun hc1 => ?_)
  ·
    try simp only [decide_eq_true_eq, decide_eq_false_iff_not, Bool.not_eq_true', Bool.not_eq_false', Int.not_lt, Int.not_le, ne_eq, Decidable.not_not, bne_iff_ne, beq_iff_eq, not_true_eq_false, not_false_eq_true] at hc1
    refine x_skip ?_
    refine hK4 _ _ ?_
    refine x_seq fun K6 hK6 => ?_
    refine x_block ?_
    refine x_seq fun K7 hK7 => ?_
    refine x_quiet (by kernel_rfl) (by kernel_rfl) hS ?_
    refine q_go (fun w hS => s_move) ?_
    try simp only [opv, n1, n2, n3, n4, Value.cells]
    refine q_go (fun w hS => m_indexAddr_arr Try.underlying26 ti25) ?_
    try simp only [opv, n1, n2, n3, n4, Value.cells, Nat.mul_one, Nat.zero_add, Int.toNat_natCast, Int.reduceToNat]
    first | refine q_go (fun w hS => m_load_obj Try.underlying25 (hS := hS)) ?_ | refine q_go (fun w hS => m_load_bx Try.underlying25 (hS := hS)) ?_ | refine q_go (fun w hS => m_load_rd Try.underlying25 (hS := hS)) ?_ | refine q_go (fun w hS => m_load_vec Try.underlying25 (hS := hS)) ?_
    try simp only [opv, n1, n2, n3, n4, Value.cells, List.getElem_toArray, List.getElem_cons_zero, List.getElem_cons_succ]
    refine q_go (fun w hS => s_move) ?_
    try simp only [opv, n1, n2, n3, n4, Value.cells]
    refine q_go (fun w hS => m_indexAddr_arr Try.underlying26 ti25) ?_
    try simp only [opv, n1, n2, n3, n4, Value.cells, Nat.mul_one, Nat.zero_add, Int.toNat_natCast, Int.reduceToNat]
    first | refine q_go (fun w hS => m_load_obj Try.underlying25 (hS := hS)) ?_ | refine q_go (fun w hS => m_load_bx Try.underlying25 (hS := hS)) ?_ | refine q_go (fun w hS => m_load_rd Try.underlying25 (hS := hS)) ?_ | refine q_go (fun w hS => m_load_vec Try.underlying25 (hS := hS)) ?_
    try simp only [opv, n1, n2, n3, n4, Value.cells, List.getElem_toArray, List.getElem_cons_zero, List.getElem_cons_succ]
    refine q_go (fun w hS => s_gtr) ?_
    try simp only [opv, n1, n2, n3, n4, Value.cells]
    clear hS
    refine q_nil fun w4 hS => ?_
    refine hK7 _ _ ?_
    refine x_cond (ht := fun hc2 => ?_) (hf := fun hc2 => ?_)
    ·
      try simp only [decide_eq_true_eq, decide_eq_false_iff_not, Bool.not_eq_true', Bool.not_eq_false', Int.not_lt, Int.not_le, ne_eq, Decidable.not_not, bne_iff_ne, beq_iff_eq, not_true_eq_false, not_false_eq_true] at hc2
      refine x_region ?_
      refine s_go (s_move) ?_
      try simp only [opv, n1, n2, n3, n4, Value.cells]
      refine s_go (s_move) ?_
      try simp only [opv, n1, n2, n3, n4, Value.cells]
      refine s_go (m_indexAddr_arr Try.underlying26 ti25) ?_
      try simp only [opv, n1, n2, n3, n4, Value.cells, Nat.mul_one, Nat.zero_add, Int.toNat_natCast, Int.reduceToNat]
      first | refine s_go (m_load_obj Try.underlying25 (hS := hS)) ?_ | refine s_go (m_load_bx Try.underlying25 (hS := hS)) ?_ | refine s_go (m_load_rd Try.underlying25 (hS := hS)) ?_ | refine s_go (m_load_vec Try.underlying25 (hS := hS)) ?_
      try simp only [opv, n1, n2, n3, n4, Value.cells, List.getElem_toArray, List.getElem_cons_zero, List.getElem_cons_succ]
      refine s_go (m_indexAddr_arr Try.underlying26 ti25) ?_
      try simp only [opv, n1, n2, n3, n4, Value.cells, Nat.mul_one, Nat.zero_add, Int.toNat_natCast, Int.reduceToNat]
      first | refine m_store_obj ti25 (hS := hS) (h := fun w5 hS => ?_) | refine m_store_vec ti25 (hS := hS) (h := fun w5 hS => ?_)
      try simp only [opv, n1, n2, n3, n4, Value.cells, Array.toArray_toList] at hS ⊢
      refine x_nil ?_
      refine hK6 _ _ ?_
      refine x_region ?_
      refine s_go (s_move) ?_
      try simp only [opv, n1, n2, n3, n4, Value.cells]
      refine s_go (s_add (hc := by first | exact wr_i64 (by omega) (by omega) | rfl)) ?_
      try simp only [opv, n1, n2, n3, n4, Value.cells]
      refine s_go (s_assign) ?_
      try simp only [opv, n1, n2, n3, n4, Value.cells]
      refine x_nil ?_
      refine loop_back (m' := 16 - (k + 1)) (by simp only [clob, List.foldl, n1, n2, n3, n4]) ?_ ?_
      · try simp only [opv, n1, n2, n3, n4, Value.cells]
        exact ⟨k + 1, by omega, by omega, by rfl, by rw [mixv_get (by omega) (by omega)] at hc2; first | (rw [← mixv_set (by omega) (by omega), show max (a.getD k 0) (b.getD k 0) = b.getD k 0 by omega]; exact hS) | (rw [← mixv_set (by omega) (by omega), show max (a.getD k 0) (b.getD k 0) = a.getD k 0 by omega, ← mixv_get (op := max) (b := b) (k := k) (by omega) (by omega), set_getD0]; exact hS)⟩
      · omega
    ·
      try simp only [decide_eq_true_eq, decide_eq_false_iff_not, Bool.not_eq_true', Bool.not_eq_false', Int.not_lt, Int.not_le, ne_eq, Decidable.not_not, bne_iff_ne, beq_iff_eq, not_true_eq_false, not_false_eq_true] at hc2
      refine x_skip ?_
      refine hK6 _ _ ?_
      refine x_region ?_
      refine s_go (s_move) ?_
      try simp only [opv, n1, n2, n3, n4, Value.cells]
      refine s_go (s_add (hc := by first | exact wr_i64 (by omega) (by omega) | rfl)) ?_
      try simp only [opv, n1, n2, n3, n4, Value.cells]
      refine s_go (s_assign) ?_
      try simp only [opv, n1, n2, n3, n4, Value.cells]
      refine x_nil ?_
      refine loop_back (m' := 16 - (k + 1)) (by simp only [clob, List.foldl, n1, n2, n3, n4]) ?_ ?_
      · try simp only [opv, n1, n2, n3, n4, Value.cells]
        exact ⟨k + 1, by omega, by omega, by rfl, by rw [mixv_get (by omega) (by omega)] at hc2; first | (rw [← mixv_set (by omega) (by omega), show max (a.getD k 0) (b.getD k 0) = b.getD k 0 by omega]; exact hS) | (rw [← mixv_set (by omega) (by omega), show max (a.getD k 0) (b.getD k 0) = a.getD k 0 by omega, ← mixv_get (op := max) (b := b) (k := k) (by omega) (by omega), set_getD0]; exact hS)⟩
      · omega
  ·
    try simp only [decide_eq_true_eq, decide_eq_false_iff_not, Bool.not_eq_true', Bool.not_eq_false', Int.not_lt, Int.not_le, ne_eq, Decidable.not_not, bne_iff_ne, beq_iff_eq, not_true_eq_false, not_false_eq_true] at hc1
    obtain rfl : k = 16 := by omega
    refine x_exit (look_here ?_)
    refine hK2 _ _ ?_
    refine x_seq fun K8 hK8 => ?_
    refine x_region ?_
    first | refine s_go (m_load_row Try.underlying26 (hi := ti26) (hS := hS)) ?_ | refine s_go (m_loada_obj Try.underlying26 (hi := ti26) (hS := hS)) ?_ | refine s_go (m_loada_bx Try.underlying26 (hi := ti26) (hS := hS)) ?_ | refine s_go (m_loada_rd Try.underlying26 (hi := ti26) (hS := hS)) ?_ | refine s_go (m_loada_vec Try.underlying26 (hi := ti26) (hS := hS)) ?_
    try simp only [opv, n1, n2, n3, n4, Value.cells, List.getElem_toArray, List.getElem_cons_zero, List.getElem_cons_succ]
    first | refine m_store_obj ti26 (hS := hS) (h := fun w6 hS => ?_) | refine m_store_vec ti26 (hS := hS) (h := fun w6 hS => ?_)
    try simp only [opv, n1, n2, n3, n4, Value.cells, Array.toArray_toList] at hS ⊢
    refine x_nil ?_
    refine hK8 _ _ ?_
    refine x_ret ?_
    refine r_cell_agg rfl Try.underlying26 ti26 (hS := hS) (hR := ?_)
    exact ⟨by rw [vjoin, ← mixv_all (by omega), ha], hS.ext_of⟩

theorem c_vecMeet (a b : List Int) (ha : a.length = 16) (hb : b.length = 16) (w0 : World) :
    CallR Try.prog 185 #[.agg (ic .u32 a), .agg (ic .u32 b)] w0 fun v w' => v = .agg (ic .u32 (vmeet a b)) ∧ Ext w0 w' := by
  have hS : St NoB w0 w0 [] := St.start w0
  refine c_enter (l := [.agg (ic .u32 a), .agg (ic .u32 b), undef, undef, undef, undef, undef, undef]) Try.func185 rfl (by simp only [Try.ntmps185, List.size_toArray, List.length_cons, List.length_nil, Nat.reduceAdd, Nat.reduceSub, Array.replicate_succ, Array.replicate_zero, List.push_toArray, List.append_toArray, List.nil_append, List.cons_append]) ?_
  refine x_seq fun K1 hK1 => ?_
  refine x_region ?_
  refine m_box hS (fun w1 g1 hS => ?_)
  try simp only [opv, n1, n2, n3, n4, Value.cells, Array.toArray_toList] at hS ⊢
  refine m_box hS (fun w2 g2 hS => ?_)
  try simp only [opv, n1, n2, n3, n4, Value.cells, Array.toArray_toList] at hS ⊢
  refine m_alloc ti27 hS (fun w3 g3 hS => ?_)
  try simp only [opv, n1, n2, n3, n4, Value.cells, Array.toArray_toList] at hS ⊢
  refine x_nil ?_
  refine hK1 _ _ ?_
  refine x_seq fun K2 hK2 => ?_
  refine x_region ?_
  first | refine s_go (m_load_row Try.underlying27 (hi := ti27) (hS := hS)) ?_ | refine s_go (m_loada_obj Try.underlying27 (hi := ti27) (hS := hS)) ?_ | refine s_go (m_loada_bx Try.underlying27 (hi := ti27) (hS := hS)) ?_ | refine s_go (m_loada_rd Try.underlying27 (hi := ti27) (hS := hS)) ?_ | refine s_go (m_loada_vec Try.underlying27 (hi := ti27) (hS := hS)) ?_
  try simp only [opv, n1, n2, n3, n4, Value.cells, List.getElem_toArray, List.getElem_cons_zero, List.getElem_cons_succ]
  first | refine s_go (m_load_row Try.underlying27 (hi := ti27) (hS := hS)) ?_ | refine s_go (m_loada_obj Try.underlying27 (hi := ti27) (hS := hS)) ?_ | refine s_go (m_loada_bx Try.underlying27 (hi := ti27) (hS := hS)) ?_ | refine s_go (m_loada_rd Try.underlying27 (hi := ti27) (hS := hS)) ?_ | refine s_go (m_loada_vec Try.underlying27 (hi := ti27) (hS := hS)) ?_
  try simp only [opv, n1, n2, n3, n4, Value.cells, List.getElem_toArray, List.getElem_cons_zero, List.getElem_cons_succ]
  refine s_call en186 ?_
  try simp only [opv, n1, n2, n3, n4, Value.cells, List.map_toArray, List.map_cons, List.map_nil, List.append_toArray, List.cons_append, List.nil_append, Array.append_empty]
  refine CallR.mono (c_vecBothMeet a b ha hb _) ?_
  rintro _ w4 ⟨rfl, hE4⟩
  replace hS := hS.ext hE4
  try simp only [opv, n1, n2, n3, n4, Value.cells]
  first | refine m_store_obj ti27 (hS := hS) (h := fun w5 hS => ?_) | refine m_store_vec ti27 (hS := hS) (h := fun w5 hS => ?_)
  try simp only [opv, n1, n2, n3, n4, Value.cells, Array.toArray_toList] at hS ⊢
  refine x_nil ?_
  refine hK2 _ _ ?_
  refine x_ret ?_
  refine r_cell_agg rfl Try.underlying27 ti27 (hS := hS) (hR := ?_)
  exact ⟨rfl, hS.ext_of⟩

theorem c_ref12Leq (a b : List Int) (ha : a.length = 16) (hb : b.length = 16) (w0 : World) :
    CallR Try.prog 188 #[.agg (ic .u32 a), .agg (ic .u32 b)] w0 fun v w' => v = .bool (vleq a b) ∧ Ext w0 w' := by
  have hS : St NoB w0 w0 [] := St.start w0
  refine c_enter (l := [.agg (ic .u32 a), .agg (ic .u32 b), undef, undef, undef, undef, undef, undef, undef, undef]) Try.func188 rfl (by simp only [Try.ntmps188, List.size_toArray, List.length_cons, List.length_nil, Nat.reduceAdd, Nat.reduceSub, Array.replicate_succ, Array.replicate_zero, List.push_toArray, List.append_toArray, List.nil_append, List.cons_append]) ?_
  refine x_seq fun K1 hK1 => ?_
  refine x_region ?_
  refine m_box hS (fun w1 g1 hS => ?_)
  try simp only [opv, n1, n2, n3, n4, Value.cells, Array.toArray_toList] at hS ⊢
  refine m_box hS (fun w2 g2 hS => ?_)
  try simp only [opv, n1, n2, n3, n4, Value.cells, Array.toArray_toList] at hS ⊢
  refine s_go (s_assign) ?_
  try simp only [opv, n1, n2, n3, n4, Value.cells]
  refine x_nil ?_
  refine hK1 _ _ ?_
  refine x_seq fun K2 hK2 => ?_
  refine x_quiet (by kernel_rfl) (by kernel_rfl) hS ?_
  first | refine q_go (fun w hS => m_load_row Try.underlying26 (hi := ti26) (hS := hS)) ?_ | refine q_go (fun w hS => m_loada_obj Try.underlying26 (hi := ti26) (hS := hS)) ?_ | refine q_go (fun w hS => m_loada_bx Try.underlying26 (hi := ti26) (hS := hS)) ?_ | refine q_go (fun w hS => m_loada_rd Try.underlying26 (hi := ti26) (hS := hS)) ?_ | refine q_go (fun w hS => m_loada_vec Try.underlying26 (hi := ti26) (hS := hS)) ?_
  try simp only [opv, n1, n2, n3, n4, Value.cells, List.getElem_toArray, List.getElem_cons_zero, List.getElem_cons_succ]
  first | refine q_go (fun w hS => m_load_row Try.underlying26 (hi := ti26) (hS := hS)) ?_ | refine q_go (fun w hS => m_loada_obj Try.underlying26 (hi := ti26) (hS := hS)) ?_ | refine q_go (fun w hS => m_loada_bx Try.underlying26 (hi := ti26) (hS := hS)) ?_ | refine q_go (fun w hS => m_loada_rd Try.underlying26 (hi := ti26) (hS := hS)) ?_ | refine q_go (fun w hS => m_loada_vec Try.underlying26 (hi := ti26) (hS := hS)) ?_
  try simp only [opv, n1, n2, n3, n4, Value.cells, List.getElem_toArray, List.getElem_cons_zero, List.getElem_cons_succ]
  apply q_call en173
  case H =>
    intro w hS
    try simp only [opv, n1, n2, n3, n4, List.map_toArray, List.map_cons, List.map_nil, List.append_toArray, List.cons_append, List.nil_append, Array.append_empty]
    refine CallR.mono (c_ref12Join _ _ (by first | assumption | (simp [vmeet_len, vjoin_len, *]; done)) (by first | assumption | (simp [vmeet_len, vjoin_len, *]; done)) _) ?_
    rintro _ w1 ⟨rfl, hE⟩; exact ⟨rfl, hS.ext hE⟩
  try simp only [opv, n1, n2, n3, n4, Value.cells]
  first | refine q_go (fun w hS => m_load_row Try.underlying26 (hi := ti26) (hS := hS)) ?_ | refine q_go (fun w hS => m_loada_obj Try.underlying26 (hi := ti26) (hS := hS)) ?_ | refine q_go (fun w hS => m_loada_bx Try.underlying26 (hi := ti26) (hS := hS)) ?_ | refine q_go (fun w hS => m_loada_rd Try.underlying26 (hi := ti26) (hS := hS)) ?_ | refine q_go (fun w hS => m_loada_vec Try.underlying26 (hi := ti26) (hS := hS)) ?_
  try simp only [opv, n1, n2, n3, n4, Value.cells, List.getElem_toArray, List.getElem_cons_zero, List.getElem_cons_succ]
  refine q_go (fun w hS => s_eql_agg eqv26 (hg := eg26) (hX := zi_ic (by first | assumption | (simp [vmeet_len, vjoin_len, *]; done))) (hY := zi_ic (by first | assumption | (simp [vmeet_len, vjoin_len, *]; done))) (h1 := by first | assumption | (simp [vmeet_len, vjoin_len, *]; done)) (h2 := by first | assumption | (simp [vmeet_len, vjoin_len, *]; done))) ?_
  try simp only [opv, n1, n2, n3, n4, Value.cells]
  refine q_go (fun w hS => s_assign) ?_
  try simp only [opv, n1, n2, n3, n4, Value.cells]
  clear hS
  refine q_nil fun w3 hS => ?_
  refine hK2 _ _ ?_
  refine x_ret ?_
  refine r_tmp rfl ?_
  exact ⟨by simp only [n1, n2, vleq, vjoin_iff a b (by omega)], hS.ext_of⟩

theorem c_vecCompare (a b : List Int) (ha : a.length = 16) (hb : b.length = 16) (w0 : World) :
    CallR Try.prog 111 #[.agg (ic .u32 a), .agg (ic .u32 b)] w0 fun v w' => v = .int .i64 (vcmp a b) ∧ Ext w0 w' := by
  have hS : St NoB w0 w0 [] := St.start w0
  refine c_enter (l := [.agg (ic .u32 a), .agg (ic .u32 b), undef, undef, undef, undef, undef, undef, undef, undef, undef, undef, undef, undef, undef, undef, undef, undef, undef, undef, undef]) Try.func111 rfl (by simp only [Try.ntmps111, List.size_toArray, List.length_cons, List.length_nil, Nat.reduceAdd, Nat.reduceSub, Array.replicate_succ, Array.replicate_zero, List.push_toArray, List.append_toArray, List.nil_append, List.cons_append]) ?_
  refine x_seq fun K1 hK1 => ?_
  refine x_region ?_
  refine m_box hS (fun w1 g1 hS => ?_)
  try simp only [opv, n1, n2, n3, n4, Value.cells, Array.toArray_toList] at hS ⊢
  refine m_box hS (fun w2 g2 hS => ?_)
  try simp only [opv, n1, n2, n3, n4, Value.cells, Array.toArray_toList] at hS ⊢
  refine s_go (s_assign) ?_
  try simp only [opv, n1, n2, n3, n4, Value.cells]
  refine x_nil ?_
  refine hK1 _ _ ?_
  refine x_seq fun K2 hK2 => ?_
  refine x_seq fun K3 hK3 => ?_
  refine x_region ?_
  first | refine s_go (m_load_row Try.underlying27 (hi := ti27) (hS := hS)) ?_ | refine s_go (m_loada_obj Try.underlying27 (hi := ti27) (hS := hS)) ?_ | refine s_go (m_loada_bx Try.underlying27 (hi := ti27) (hS := hS)) ?_ | refine s_go (m_loada_rd Try.underlying27 (hi := ti27) (hS := hS)) ?_ | refine s_go (m_loada_vec Try.underlying27 (hi := ti27) (hS := hS)) ?_
  try simp only [opv, n1, n2, n3, n4, Value.cells, List.getElem_toArray, List.getElem_cons_zero, List.getElem_cons_succ]
  first | refine s_go (m_load_row Try.underlying27 (hi := ti27) (hS := hS)) ?_ | refine s_go (m_loada_obj Try.underlying27 (hi := ti27) (hS := hS)) ?_ | refine s_go (m_loada_bx Try.underlying27 (hi := ti27) (hS := hS)) ?_ | refine s_go (m_loada_rd Try.underlying27 (hi := ti27) (hS := hS)) ?_ | refine s_go (m_loada_vec Try.underlying27 (hi := ti27) (hS := hS)) ?_
  try simp only [opv, n1, n2, n3, n4, Value.cells, List.getElem_toArray, List.getElem_cons_zero, List.getElem_cons_succ]
  refine s_call en185 ?_
  try simp only [opv, n1, n2, n3, n4, Value.cells, List.map_toArray, List.map_cons, List.map_nil, List.append_toArray, List.cons_append, List.nil_append, Array.append_empty]
  refine CallR.mono (c_vecMeet _ _ (by first | assumption | (simp [vmeet_len, vjoin_len, *]; done)) (by first | assumption | (simp [vmeet_len, vjoin_len, *]; done)) _) ?_
  rintro _ w3 ⟨rfl, hE3⟩
  replace hS := hS.ext hE3
  try simp only [opv, n1, n2, n3, n4, Value.cells]
  refine m_alloc ti27 hS (fun w4 g4 hS => ?_)
  try simp only [opv, n1, n2, n3, n4, Value.cells, Array.toArray_toList] at hS ⊢
  first | refine m_store_obj ti27 (hS := hS) (h := fun w5 hS => ?_) | refine m_store_vec ti27 (hS := hS) (h := fun w5 hS => ?_)
  try simp only [opv, n1, n2, n3, n4, Value.cells, Array.toArray_toList] at hS ⊢
  refine x_nil ?_
  refine hK3 _ _ ?_
  refine x_block ?_
  refine x_seq fun K4 hK4 => ?_
  refine x_region ?_
  first | refine s_go (m_load_row Try.underlying27 (hi := ti27) (hS := hS)) ?_ | refine s_go (m_loada_obj Try.underlying27 (hi := ti27) (hS := hS)) ?_ | refine s_go (m_loada_bx Try.underlying27 (hi := ti27) (hS := hS)) ?_ | refine s_go (m_loada_rd Try.underlying27 (hi := ti27) (hS := hS)) ?_ | refine s_go (m_loada_vec Try.underlying27 (hi := ti27) (hS := hS)) ?_
  try simp only [opv, n1, n2, n3, n4, Value.cells, List.getElem_toArray, List.getElem_cons_zero, List.getElem_cons_succ]
  first | refine s_go (m_load_row Try.underlying27 (hi := ti27) (hS := hS)) ?_ | refine s_go (m_loada_obj Try.underlying27 (hi := ti27) (hS := hS)) ?_ | refine s_go (m_loada_bx Try.underlying27 (hi := ti27) (hS := hS)) ?_ | refine s_go (m_loada_rd Try.underlying27 (hi := ti27) (hS := hS)) ?_ | refine s_go (m_loada_vec Try.underlying27 (hi := ti27) (hS := hS)) ?_
  try simp only [opv, n1, n2, n3, n4, Value.cells, List.getElem_toArray, List.getElem_cons_zero, List.getElem_cons_succ]
  refine s_go (s_eql_agg eqv27 (hg := eg27) (hX := zi_ic (by first | assumption | (simp [vmeet_len, vjoin_len, *]; done))) (hY := zi_ic (by first | assumption | (simp [vmeet_len, vjoin_len, *]; done))) (h1 := by first | assumption | (simp [vmeet_len, vjoin_len, *]; done)) (h2 := by first | assumption | (simp [vmeet_len, vjoin_len, *]; done))) ?_
  try simp only [opv, n1, n2, n3, n4, Value.cells]
  refine s_go (s_assign) ?_
  try simp only [opv, n1, n2, n3, n4, Value.cells]
  refine x_nil ?_
  refine hK4 _ _ ?_
  refine x_cond (ht := fun hc1 => ?_) (hf := fun hc1 => ?_)
  ·
    try simp only [decide_eq_true_eq, decide_eq_false_iff_not, Bool.not_eq_true', Bool.not_eq_false', Int.not_lt, Int.not_le, ne_eq, Decidable.not_not, bne_iff_ne, beq_iff_eq, not_true_eq_false, not_false_eq_true] at hc1
    refine x_seq fun K5 hK5 => ?_
    refine x_region ?_
    refine s_go (s_assign) ?_
    try simp only [opv, n1, n2, n3, n4, Value.cells]
    refine x_nil ?_
    refine hK5 _ _ ?_
    refine x_ret ?_
    refine r_tmp rfl ?_
    exact ⟨by first | (simp [vcmp, *]; done) | (simp [vcmp, *]; exact fun h => hc1 h.symm), hS.ext_of⟩
  ·
    try simp only [decide_eq_true_eq, decide_eq_false_iff_not, Bool.not_eq_true', Bool.not_eq_false', Int.not_lt, Int.not_le, ne_eq, Decidable.not_not, bne_iff_ne, beq_iff_eq, not_true_eq_false, not_false_eq_true] at hc1
    refine x_seq fun K6 hK6 => ?_
    refine x_region ?_
    first | refine s_go (m_load_row Try.underlying27 (hi := ti27) (hS := hS)) ?_ | refine s_go (m_loada_obj Try.underlying27 (hi := ti27) (hS := hS)) ?_ | refine s_go (m_loada_bx Try.underlying27 (hi := ti27) (hS := hS)) ?_ | refine s_go (m_loada_rd Try.underlying27 (hi := ti27) (hS := hS)) ?_ | refine s_go (m_loada_vec Try.underlying27 (hi := ti27) (hS := hS)) ?_
    try simp only [opv, n1, n2, n3, n4, Value.cells, List.getElem_toArray, List.getElem_cons_zero, List.getElem_cons_succ]
    first | refine s_go (m_load_row Try.underlying27 (hi := ti27) (hS := hS)) ?_ | refine s_go (m_loada_obj Try.underlying27 (hi := ti27) (hS := hS)) ?_ | refine s_go (m_loada_bx Try.underlying27 (hi := ti27) (hS := hS)) ?_ | refine s_go (m_loada_rd Try.underlying27 (hi := ti27) (hS := hS)) ?_ | refine s_go (m_loada_vec Try.underlying27 (hi := ti27) (hS := hS)) ?_
    try simp only [opv, n1, n2, n3, n4, Value.cells, List.getElem_toArray, List.getElem_cons_zero, List.getElem_cons_succ]
    refine s_go (s_eql_agg eqv27 (hg := eg27) (hX := zi_ic (by first | assumption | (simp [vmeet_len, vjoin_len, *]; done))) (hY := zi_ic (by first | assumption | (simp [vmeet_len, vjoin_len, *]; done))) (h1 := by first | assumption | (simp [vmeet_len, vjoin_len, *]; done)) (h2 := by first | assumption | (simp [vmeet_len, vjoin_len, *]; done))) ?_
    try simp only [opv, n1, n2, n3, n4, Value.cells]
    refine s_go (s_assign) ?_
    try simp only [opv, n1, n2, n3, n4, Value.cells]
    refine x_nil ?_
    refine hK6 _ _ ?_
    refine x_cond (ht := fun hc2 => ?_) (hf := fun hc2 => ?_)
    ·
      try simp only [decide_eq_true_eq, decide_eq_false_iff_not, Bool.not_eq_true', Bool.not_eq_false', Int.not_lt, Int.not_le, ne_eq, Decidable.not_not, bne_iff_ne, beq_iff_eq, not_true_eq_false, not_false_eq_true] at hc2
      refine x_seq fun K7 hK7 => ?_
      refine x_region ?_
      refine s_go (s_assign) ?_
      try simp only [opv, n1, n2, n3, n4, Value.cells]
      refine x_nil ?_
      refine hK7 _ _ ?_
      refine x_ret ?_
      refine r_tmp rfl ?_
      exact ⟨by first | (simp [vcmp, *]; done) | (simp [vcmp, *]; exact fun h => hc1 h.symm), hS.ext_of⟩
    ·
      try simp only [decide_eq_true_eq, decide_eq_false_iff_not, Bool.not_eq_true', Bool.not_eq_false', Int.not_lt, Int.not_le, ne_eq, Decidable.not_not, bne_iff_ne, beq_iff_eq, not_true_eq_false, not_false_eq_true] at hc2
      refine x_seq fun K8 hK8 => ?_
      refine x_region ?_
      first | refine s_go (m_load_row Try.underlying27 (hi := ti27) (hS := hS)) ?_ | refine s_go (m_loada_obj Try.underlying27 (hi := ti27) (hS := hS)) ?_ | refine s_go (m_loada_bx Try.underlying27 (hi := ti27) (hS := hS)) ?_ | refine s_go (m_loada_rd Try.underlying27 (hi := ti27) (hS := hS)) ?_ | refine s_go (m_loada_vec Try.underlying27 (hi := ti27) (hS := hS)) ?_
      try simp only [opv, n1, n2, n3, n4, Value.cells, List.getElem_toArray, List.getElem_cons_zero, List.getElem_cons_succ]
      first | refine s_go (m_load_row Try.underlying27 (hi := ti27) (hS := hS)) ?_ | refine s_go (m_loada_obj Try.underlying27 (hi := ti27) (hS := hS)) ?_ | refine s_go (m_loada_bx Try.underlying27 (hi := ti27) (hS := hS)) ?_ | refine s_go (m_loada_rd Try.underlying27 (hi := ti27) (hS := hS)) ?_ | refine s_go (m_loada_vec Try.underlying27 (hi := ti27) (hS := hS)) ?_
      try simp only [opv, n1, n2, n3, n4, Value.cells, List.getElem_toArray, List.getElem_cons_zero, List.getElem_cons_succ]
      refine s_go (s_eql_agg eqv27 (hg := eg27) (hX := zi_ic (by first | assumption | (simp [vmeet_len, vjoin_len, *]; done))) (hY := zi_ic (by first | assumption | (simp [vmeet_len, vjoin_len, *]; done))) (h1 := by first | assumption | (simp [vmeet_len, vjoin_len, *]; done)) (h2 := by first | assumption | (simp [vmeet_len, vjoin_len, *]; done))) ?_
      try simp only [opv, n1, n2, n3, n4, Value.cells]
      refine s_go (s_assign) ?_
      try simp only [opv, n1, n2, n3, n4, Value.cells]
      refine x_nil ?_
      refine hK8 _ _ ?_
      refine x_cond (ht := fun hc3 => ?_) (hf := fun hc3 => ?_)
      ·
        try simp only [decide_eq_true_eq, decide_eq_false_iff_not, Bool.not_eq_true', Bool.not_eq_false', Int.not_lt, Int.not_le, ne_eq, Decidable.not_not, bne_iff_ne, beq_iff_eq, not_true_eq_false, not_false_eq_true] at hc3
        refine x_seq fun K9 hK9 => ?_
        refine x_region ?_
        refine s_go (s_assign) ?_
        try simp only [opv, n1, n2, n3, n4, Value.cells]
        refine x_nil ?_
        refine hK9 _ _ ?_
        refine x_ret ?_
        refine r_tmp rfl ?_
        exact ⟨by first | (simp [vcmp, *]; done) | (simp [vcmp, *]; exact fun h => hc1 h.symm), hS.ext_of⟩
      ·
        try simp only [decide_eq_true_eq, decide_eq_false_iff_not, Bool.not_eq_true', Bool.not_eq_false', Int.not_lt, Int.not_le, ne_eq, Decidable.not_not, bne_iff_ne, beq_iff_eq, not_true_eq_false, not_false_eq_true] at hc3
        refine x_skip ?_
        refine hK2 _ _ ?_
        refine x_seq fun K10 hK10 => ?_
        refine x_region ?_
        refine s_go (s_assign) ?_
        try simp only [opv, n1, n2, n3, n4, Value.cells]
        refine x_nil ?_
        refine hK10 _ _ ?_
        refine x_ret ?_
        refine r_tmp rfl ?_
        exact ⟨by first | (simp [vcmp, *]; done) | (simp [vcmp, *]; exact fun h => hc1 h.symm), hS.ext_of⟩

theorem c_ref12Compare (a b : List Int) (ha : a.length = 16) (hb : b.length = 16) (w0 : World) :
    CallR Try.prog 114 #[.agg (ic .u32 a), .agg (ic .u32 b)] w0 fun v w' => v = .int .i64 (vcmp a b) ∧ Ext w0 w' := by
  have hS : St NoB w0 w0 [] := St.start w0
  refine c_enter (l := [.agg (ic .u32 a), .agg (ic .u32 b), undef, undef, undef, undef, undef, undef, undef, undef, undef, undef, undef, undef, undef, undef, undef]) Try.func114 rfl (by simp only [Try.ntmps114, List.size_toArray, List.length_cons, List.length_nil, Nat.reduceAdd, Nat.reduceSub, Array.replicate_succ, Array.replicate_zero, List.push_toArray, List.append_toArray, List.nil_append, List.cons_append]) ?_
  refine x_seq fun K1 hK1 => ?_
  refine x_region ?_
  refine m_box hS (fun w1 g1 hS => ?_)
  try simp only [opv, n1, n2, n3, n4, Value.cells, Array.toArray_toList] at hS ⊢
  refine m_box hS (fun w2 g2 hS => ?_)
  try simp only [opv, n1, n2, n3, n4, Value.cells, Array.toArray_toList] at hS ⊢
  refine s_go (s_assign) ?_
  try simp only [opv, n1, n2, n3, n4, Value.cells]
  refine x_nil ?_
  refine hK1 _ _ ?_
  refine x_seq fun K2 hK2 => ?_
  refine x_block ?_
  refine x_seq fun K3 hK3 => ?_
  refine x_region ?_
  first | refine s_go (m_load_row Try.underlying26 (hi := ti26) (hS := hS)) ?_ | refine s_go (m_loada_obj Try.underlying26 (hi := ti26) (hS := hS)) ?_ | refine s_go (m_loada_bx Try.underlying26 (hi := ti26) (hS := hS)) ?_ | refine s_go (m_loada_rd Try.underlying26 (hi := ti26) (hS := hS)) ?_ | refine s_go (m_loada_vec Try.underlying26 (hi := ti26) (hS := hS)) ?_
  try simp only [opv, n1, n2, n3, n4, Value.cells, List.getElem_toArray, List.getElem_cons_zero, List.getElem_cons_succ]
  first | refine s_go (m_load_row Try.underlying26 (hi := ti26) (hS := hS)) ?_ | refine s_go (m_loada_obj Try.underlying26 (hi := ti26) (hS := hS)) ?_ | refine s_go (m_loada_bx Try.underlying26 (hi := ti26) (hS := hS)) ?_ | refine s_go (m_loada_rd Try.underlying26 (hi := ti26) (hS := hS)) ?_ | refine s_go (m_loada_vec Try.underlying26 (hi := ti26) (hS := hS)) ?_
  try simp only [opv, n1, n2, n3, n4, Value.cells, List.getElem_toArray, List.getElem_cons_zero, List.getElem_cons_succ]
  refine s_go (s_eql_agg eqv26 (hg := eg26) (hX := zi_ic (by first | assumption | (simp [vmeet_len, vjoin_len, *]; done))) (hY := zi_ic (by first | assumption | (simp [vmeet_len, vjoin_len, *]; done))) (h1 := by first | assumption | (simp [vmeet_len, vjoin_len, *]; done)) (h2 := by first | assumption | (simp [vmeet_len, vjoin_len, *]; done))) ?_
  try simp only [opv, n1, n2, n3, n4, Value.cells]
  refine s_go (s_assign) ?_
  try simp only [opv, n1, n2, n3, n4, Value.cells]
  refine x_nil ?_
  refine hK3 _ _ ?_
  refine x_cond (ht := fun hc1 => ?_) (hf := fun hc1 => ?_)
  ·
    try simp only [decide_eq_true_eq, decide_eq_false_iff_not, Bool.not_eq_true', Bool.not_eq_false', Int.not_lt, Int.not_le, ne_eq, Decidable.not_not, bne_iff_ne, beq_iff_eq, not_true_eq_false, not_false_eq_true] at hc1
    refine x_seq fun K4 hK4 => ?_
    refine x_region ?_
    refine s_go (s_assign) ?_
    try simp only [opv, n1, n2, n3, n4, Value.cells]
    refine x_nil ?_
    refine hK4 _ _ ?_
    refine x_ret ?_
    refine r_tmp rfl ?_
    exact ⟨by simp_all [vcmp, vleq, vmeet_comm b a], hS.ext_of⟩
  ·
    try simp only [decide_eq_true_eq, decide_eq_false_iff_not, Bool.not_eq_true', Bool.not_eq_false', Int.not_lt, Int.not_le, ne_eq, Decidable.not_not, bne_iff_ne, beq_iff_eq, not_true_eq_false, not_false_eq_true] at hc1
    refine x_seq fun K5 hK5 => ?_
    refine x_region ?_
    first | refine s_go (m_load_row Try.underlying26 (hi := ti26) (hS := hS)) ?_ | refine s_go (m_loada_obj Try.underlying26 (hi := ti26) (hS := hS)) ?_ | refine s_go (m_loada_bx Try.underlying26 (hi := ti26) (hS := hS)) ?_ | refine s_go (m_loada_rd Try.underlying26 (hi := ti26) (hS := hS)) ?_ | refine s_go (m_loada_vec Try.underlying26 (hi := ti26) (hS := hS)) ?_
    try simp only [opv, n1, n2, n3, n4, Value.cells, List.getElem_toArray, List.getElem_cons_zero, List.getElem_cons_succ]
    first | refine s_go (m_load_row Try.underlying26 (hi := ti26) (hS := hS)) ?_ | refine s_go (m_loada_obj Try.underlying26 (hi := ti26) (hS := hS)) ?_ | refine s_go (m_loada_bx Try.underlying26 (hi := ti26) (hS := hS)) ?_ | refine s_go (m_loada_rd Try.underlying26 (hi := ti26) (hS := hS)) ?_ | refine s_go (m_loada_vec Try.underlying26 (hi := ti26) (hS := hS)) ?_
    try simp only [opv, n1, n2, n3, n4, Value.cells, List.getElem_toArray, List.getElem_cons_zero, List.getElem_cons_succ]
    refine s_call en188 ?_
    try simp only [opv, n1, n2, n3, n4, Value.cells, List.map_toArray, List.map_cons, List.map_nil, List.append_toArray, List.cons_append, List.nil_append, Array.append_empty]
    refine CallR.mono (c_ref12Leq _ _ (by first | assumption | (simp [vmeet_len, vjoin_len, *]; done)) (by first | assumption | (simp [vmeet_len, vjoin_len, *]; done)) _) ?_
    rintro _ w3 ⟨rfl, hE3⟩
    replace hS := hS.ext hE3
    try simp only [opv, n1, n2, n3, n4, Value.cells]
    refine s_go (s_assign) ?_
    try simp only [opv, n1, n2, n3, n4, Value.cells]
    refine x_nil ?_
    refine hK5 _ _ ?_
    refine x_cond (ht := fun hc2 => ?_) (hf := fun hc2 => ?_)
    ·
      try simp only [decide_eq_true_eq, decide_eq_false_iff_not, Bool.not_eq_true', Bool.not_eq_false', Int.not_lt, Int.not_le, ne_eq, Decidable.not_not, bne_iff_ne, beq_iff_eq, not_true_eq_false, not_false_eq_true] at hc2
      refine x_seq fun K6 hK6 => ?_
      refine x_region ?_
      refine s_go (s_assign) ?_
      try simp only [opv, n1, n2, n3, n4, Value.cells]
      refine x_nil ?_
      refine hK6 _ _ ?_
      refine x_ret ?_
      refine r_tmp rfl ?_
      exact ⟨by simp_all [vcmp, vleq, vmeet_comm b a], hS.ext_of⟩
    ·
      try simp only [decide_eq_true_eq, decide_eq_false_iff_not, Bool.not_eq_true', Bool.not_eq_false', Int.not_lt, Int.not_le, ne_eq, Decidable.not_not, bne_iff_ne, beq_iff_eq, not_true_eq_false, not_false_eq_true] at hc2
      refine x_seq fun K7 hK7 => ?_
      refine x_region ?_
      first | refine s_go (m_load_row Try.underlying26 (hi := ti26) (hS := hS)) ?_ | refine s_go (m_loada_obj Try.underlying26 (hi := ti26) (hS := hS)) ?_ | refine s_go (m_loada_bx Try.underlying26 (hi := ti26) (hS := hS)) ?_ | refine s_go (m_loada_rd Try.underlying26 (hi := ti26) (hS := hS)) ?_ | refine s_go (m_loada_vec Try.underlying26 (hi := ti26) (hS := hS)) ?_
      try simp only [opv, n1, n2, n3, n4, Value.cells, List.getElem_toArray, List.getElem_cons_zero, List.getElem_cons_succ]
      first | refine s_go (m_load_row Try.underlying26 (hi := ti26) (hS := hS)) ?_ | refine s_go (m_loada_obj Try.underlying26 (hi := ti26) (hS := hS)) ?_ | refine s_go (m_loada_bx Try.underlying26 (hi := ti26) (hS := hS)) ?_ | refine s_go (m_loada_rd Try.underlying26 (hi := ti26) (hS := hS)) ?_ | refine s_go (m_loada_vec Try.underlying26 (hi := ti26) (hS := hS)) ?_
      try simp only [opv, n1, n2, n3, n4, Value.cells, List.getElem_toArray, List.getElem_cons_zero, List.getElem_cons_succ]
      refine s_call en188 ?_
      try simp only [opv, n1, n2, n3, n4, Value.cells, List.map_toArray, List.map_cons, List.map_nil, List.append_toArray, List.cons_append, List.nil_append, Array.append_empty]
      refine CallR.mono (c_ref12Leq _ _ (by first | assumption | (simp [vmeet_len, vjoin_len, *]; done)) (by first | assumption | (simp [vmeet_len, vjoin_len, *]; done)) _) ?_
      rintro _ w4 ⟨rfl, hE4⟩
      replace hS := hS.ext hE4
      try simp only [opv, n1, n2, n3, n4, Value.cells]
      refine s_go (s_assign) ?_
      try simp only [opv, n1, n2, n3, n4, Value.cells]
      refine x_nil ?_
      refine hK7 _ _ ?_
      refine x_cond (ht := fun hc3 => ?_) (hf := fun hc3 => ?_)
      ·
        try simp only [decide_eq_true_eq, decide_eq_false_iff_not, Bool.not_eq_true', Bool.not_eq_false', Int.not_lt, Int.not_le, ne_eq, Decidable.not_not, bne_iff_ne, beq_iff_eq, not_true_eq_false, not_false_eq_true] at hc3
        refine x_seq fun K8 hK8 => ?_
        refine x_region ?_
        refine s_go (s_assign) ?_
        try simp only [opv, n1, n2, n3, n4, Value.cells]
        refine x_nil ?_
        refine hK8 _ _ ?_
        refine x_ret ?_
        refine r_tmp rfl ?_
        exact ⟨by simp_all [vcmp, vleq, vmeet_comm b a], hS.ext_of⟩
      ·
        try simp only [decide_eq_true_eq, decide_eq_false_iff_not, Bool.not_eq_true', Bool.not_eq_false', Int.not_lt, Int.not_le, ne_eq, Decidable.not_not, bne_iff_ne, beq_iff_eq, not_true_eq_false, not_false_eq_true] at hc3
        refine x_skip ?_
        refine hK2 _ _ ?_
        refine x_seq fun K9 hK9 => ?_
        refine x_region ?_
        refine s_go (s_assign) ?_
        try simp only [opv, n1, n2, n3, n4, Value.cells]
        refine x_nil ?_
        refine hK9 _ _ ?_
        refine x_ret ?_
        refine r_tmp rfl ?_
        exact ⟨by simp_all [vcmp, vleq, vmeet_comm b a], hS.ext_of⟩


def va1 : List Int := [1, 0, 0, 0, 0, 0, 0, 0, 0, 0, 0, 0, 0, 0, 0, 0]
def va2 : List Int := [0, 1, 0, 0, 0, 0, 0, 0, 0, 0, 0, 0, 0, 0, 0, 0]
def Dec (p : Prop) [h : Decidable p] (b : Bool) : Prop := decide p = b


theorem c_law12alive  (w0 : World) :
    CallR Try.prog 20 #[] w0 fun v w' => v = .bool true ∧ Ext w0 w' := by
  have hS : St NoB w0 w0 [] := St.start w0
  refine c_enter (l := [undef, undef, undef, undef, undef, undef, undef, undef, undef, undef, undef, undef, undef, undef, undef, undef, undef, undef, undef, undef, undef, undef, undef]) Try.func20 rfl (by simp only [Try.ntmps20, List.size_toArray, List.length_cons, List.length_nil, Nat.reduceAdd, Nat.reduceSub, Array.replicate_succ, Array.replicate_zero, List.push_toArray, List.append_toArray, List.nil_append, List.cons_append]) ?_
  refine x_seq fun K1 hK1 => ?_
  refine x_region ?_
  refine s_go (s_assign) ?_
  try simp only [opv, n1, n2, n3, n4, Value.cells]
  refine x_nil ?_
  refine hK1 _ _ ?_
  refine x_seq fun K2 hK2 => ?_
  refine x_region ?_
  refine s_go (s_build_arr (cells := #[_, .int .u32 0, .int .u32 0, .int .u32 0, .int .u32 0, .int .u32 0, .int .u32 0, .int .u32 0, .int .u32 0, .int .u32 0, .int .u32 0, .int .u32 0, .int .u32 0, .int .u32 0, .int .u32 0, .int .u32 0]) Try.underlying27 ti27 ti25 (hc := by simp only [List.map_toArray, List.map_cons, List.map_nil, opv, n1, n2, n3, n4, Value.cells, List.toList_toArray]; (repeat (refine fill_cons rfl rfl (Nat.le_of_ble_eq_true rfl) ?_)); rfl)) ?_
  try simp only [opv, n1, n2, n3, n4, Value.cells]
  refine s_go (s_build_arr (cells := #[_, _, .int .u32 0, .int .u32 0, .int .u32 0, .int .u32 0, .int .u32 0, .int .u32 0, .int .u32 0, .int .u32 0, .int .u32 0, .int .u32 0, .int .u32 0, .int .u32 0, .int .u32 0, .int .u32 0]) Try.underlying27 ti27 ti25 (hc := by simp only [List.map_toArray, List.map_cons, List.map_nil, opv, n1, n2, n3, n4, Value.cells, List.toList_toArray]; (repeat (refine fill_cons rfl rfl (Nat.le_of_ble_eq_true rfl) ?_)); rfl)) ?_
  try simp only [opv, n1, n2, n3, n4, Value.cells]
  refine m_alloc ti27 hS (fun w1 g1 hS => ?_)
  try simp only [opv, n1, n2, n3, n4, Value.cells, Array.toArray_toList] at hS ⊢
  refine m_alloc ti27 hS (fun w2 g2 hS => ?_)
  try simp only [opv, n1, n2, n3, n4, Value.cells, Array.toArray_toList] at hS ⊢
  first | refine m_store_obj ti27 (hS := hS) (h := fun w3 hS => ?_) | refine m_store_vec ti27 (hS := hS) (h := fun w3 hS => ?_)
  try simp only [opv, n1, n2, n3, n4, Value.cells, Array.toArray_toList] at hS ⊢
  first | refine m_store_obj ti27 (hS := hS) (h := fun w4 hS => ?_) | refine m_store_vec ti27 (hS := hS) (h := fun w4 hS => ?_)
  try simp only [opv, n1, n2, n3, n4, Value.cells, Array.toArray_toList] at hS ⊢
  replace hS : St NoB w0 w4 [.obj g2 (.cells (ic .u32 va2) 27 (0, 0)), .obj g1 (.cells (ic .u32 va1) 27 (0, 0))] := hS
  refine x_nil ?_
  refine hK2 _ _ ?_
  refine x_seq fun K3 hK3 => ?_
  refine x_quiet (by kernel_rfl) (by kernel_rfl) hS ?_
  first | refine q_go (fun w hS => m_load_row Try.underlying27 (hi := ti27) (hS := hS)) ?_ | refine q_go (fun w hS => m_loada_obj Try.underlying27 (hi := ti27) (hS := hS)) ?_ | refine q_go (fun w hS => m_loada_bx Try.underlying27 (hi := ti27) (hS := hS)) ?_ | refine q_go (fun w hS => m_loada_rd Try.underlying27 (hi := ti27) (hS := hS)) ?_ | refine q_go (fun w hS => m_loada_vec Try.underlying27 (hi := ti27) (hS := hS)) ?_
  try simp only [opv, n1, n2, n3, n4, Value.cells, List.getElem_toArray, List.getElem_cons_zero, List.getElem_cons_succ]
  first | refine q_go (fun w hS => m_load_row Try.underlying27 (hi := ti27) (hS := hS)) ?_ | refine q_go (fun w hS => m_loada_obj Try.underlying27 (hi := ti27) (hS := hS)) ?_ | refine q_go (fun w hS => m_loada_bx Try.underlying27 (hi := ti27) (hS := hS)) ?_ | refine q_go (fun w hS => m_loada_rd Try.underlying27 (hi := ti27) (hS := hS)) ?_ | refine q_go (fun w hS => m_loada_vec Try.underlying27 (hi := ti27) (hS := hS)) ?_
  try simp only [opv, n1, n2, n3, n4, Value.cells, List.getElem_toArray, List.getElem_cons_zero, List.getElem_cons_succ]
  apply q_call en111
  case H =>
    intro w hS
    try simp only [opv, n1, n2, n3, n4, List.map_toArray, List.map_cons, List.map_nil, List.append_toArray, List.cons_append, List.nil_append, Array.append_empty]
    refine CallR.mono (c_vecCompare va1 va2 rfl rfl _) ?_
    rintro _ w1 ⟨rfl, hE⟩; exact ⟨rfl, hS.ext hE⟩
  try simp only [opv, n1, n2, n3, n4, Value.cells]
  refine q_go (fun w hS => s_eql) ?_
  try simp only [opv, n1, n2, n3, n4, Value.cells]
  rw [show decide (vcmp va1 va2 = 3) = true from by decide]
  refine q_go (fun w hS => s_move) ?_
  try simp only [opv, n1, n2, n3, n4, Value.cells]
  refine q_on (yi (t := 9) rfl rfl) ?_
  first | refine q_go (fun w hS => m_load_row Try.underlying27 (hi := ti27) (hS := hS)) ?_ | refine q_go (fun w hS => m_loada_obj Try.underlying27 (hi := ti27) (hS := hS)) ?_ | refine q_go (fun w hS => m_loada_bx Try.underlying27 (hi := ti27) (hS := hS)) ?_ | refine q_go (fun w hS => m_loada_rd Try.underlying27 (hi := ti27) (hS := hS)) ?_ | refine q_go (fun w hS => m_loada_vec Try.underlying27 (hi := ti27) (hS := hS)) ?_
  try simp only [opv, n1, n2, n3, n4, Value.cells, List.getElem_toArray, List.getElem_cons_zero, List.getElem_cons_succ]
  refine q_on (yi (t := 9) rfl rfl) ?_
  first | refine q_go (fun w hS => m_load_row Try.underlying27 (hi := ti27) (hS := hS)) ?_ | refine q_go (fun w hS => m_loada_obj Try.underlying27 (hi := ti27) (hS := hS)) ?_ | refine q_go (fun w hS => m_loada_bx Try.underlying27 (hi := ti27) (hS := hS)) ?_ | refine q_go (fun w hS => m_loada_rd Try.underlying27 (hi := ti27) (hS := hS)) ?_ | refine q_go (fun w hS => m_loada_vec Try.underlying27 (hi := ti27) (hS := hS)) ?_
  try simp only [opv, n1, n2, n3, n4, Value.cells, List.getElem_toArray, List.getElem_cons_zero, List.getElem_cons_succ]
  refine q_on (yi (t := 9) rfl rfl) ?_
  first | refine q_go (fun w hS => m_load_row Try.underlying27 (hi := ti27) (hS := hS)) ?_ | refine q_go (fun w hS => m_loada_obj Try.underlying27 (hi := ti27) (hS := hS)) ?_ | refine q_go (fun w hS => m_loada_bx Try.underlying27 (hi := ti27) (hS := hS)) ?_ | refine q_go (fun w hS => m_loada_rd Try.underlying27 (hi := ti27) (hS := hS)) ?_ | refine q_go (fun w hS => m_loada_vec Try.underlying27 (hi := ti27) (hS := hS)) ?_
  try simp only [opv, n1, n2, n3, n4, Value.cells, List.getElem_toArray, List.getElem_cons_zero, List.getElem_cons_succ]
  refine q_on (yi (t := 9) rfl rfl) ?_
  apply q_call en112
  case H =>
    intro w hS
    try simp only [opv, n1, n2, n3, n4, List.map_toArray, List.map_cons, List.map_nil, List.append_toArray, List.cons_append, List.nil_append, Array.append_empty]
    refine CallR.mono (c_vecJoin va1 va2 rfl rfl _) ?_
    rintro _ w1 ⟨rfl, hE⟩; exact ⟨rfl, hS.ext hE⟩
  try simp only [opv, n1, n2, n3, n4, Value.cells]
  refine q_on (yi (t := 9) rfl rfl) ?_
  apply q_call en111
  case H =>
    intro w hS
    try simp only [opv, n1, n2, n3, n4, List.map_toArray, List.map_cons, List.map_nil, List.append_toArray, List.cons_append, List.nil_append, Array.append_empty]
    refine CallR.mono (c_vecCompare va1 (vjoin va1 va2) rfl rfl _) ?_
    rintro _ w1 ⟨rfl, hE⟩; exact ⟨rfl, hS.ext hE⟩
  try simp only [opv, n1, n2, n3, n4, Value.cells]
  refine q_on (yi (t := 9) rfl rfl) ?_
  refine q_go (fun w hS => s_eql) ?_
  try simp only [opv, n1, n2, n3, n4, Value.cells]
  rw [show decide (vcmp va1 (vjoin va1 va2) = 1) = true from by decide]
  first | refine q_go (fun w hS => s_pick_t) ?_ | refine q_go (fun w hS => s_pick_f) ?_
  try simp only [opv, n1, n2, n3, n4, Value.cells]
  refine q_go (fun w hS => s_move) ?_
  try simp only [opv, n1, n2, n3, n4, Value.cells]
  refine q_on (yi (t := 17) rfl rfl) ?_
  first | refine q_go (fun w hS => m_load_row Try.underlying27 (hi := ti27) (hS := hS)) ?_ | refine q_go (fun w hS => m_loada_obj Try.underlying27 (hi := ti27) (hS := hS)) ?_ | refine q_go (fun w hS => m_loada_bx Try.underlying27 (hi := ti27) (hS := hS)) ?_ | refine q_go (fun w hS => m_loada_rd Try.underlying27 (hi := ti27) (hS := hS)) ?_ | refine q_go (fun w hS => m_loada_vec Try.underlying27 (hi := ti27) (hS := hS)) ?_
  try simp only [opv, n1, n2, n3, n4, Value.cells, List.getElem_toArray, List.getElem_cons_zero, List.getElem_cons_succ]
  refine q_on (yi (t := 17) rfl rfl) ?_
  first | refine q_go (fun w hS => m_load_row Try.underlying27 (hi := ti27) (hS := hS)) ?_ | refine q_go (fun w hS => m_loada_obj Try.underlying27 (hi := ti27) (hS := hS)) ?_ | refine q_go (fun w hS => m_loada_bx Try.underlying27 (hi := ti27) (hS := hS)) ?_ | refine q_go (fun w hS => m_loada_rd Try.underlying27 (hi := ti27) (hS := hS)) ?_ | refine q_go (fun w hS => m_loada_vec Try.underlying27 (hi := ti27) (hS := hS)) ?_
  try simp only [opv, n1, n2, n3, n4, Value.cells, List.getElem_toArray, List.getElem_cons_zero, List.getElem_cons_succ]
  refine q_on (yi (t := 17) rfl rfl) ?_
  apply q_call en111
  case H =>
    intro w hS
    try simp only [opv, n1, n2, n3, n4, List.map_toArray, List.map_cons, List.map_nil, List.append_toArray, List.cons_append, List.nil_append, Array.append_empty]
    refine CallR.mono (c_vecCompare va1 va1 rfl rfl _) ?_
    rintro _ w1 ⟨rfl, hE⟩; exact ⟨rfl, hS.ext hE⟩
  try simp only [opv, n1, n2, n3, n4, Value.cells]
  refine q_on (yi (t := 17) rfl rfl) ?_
  refine q_go (fun w hS => s_eql) ?_
  try simp only [opv, n1, n2, n3, n4, Value.cells]
  rw [show decide (vcmp va1 va1 = 0) = true from by decide]
  first | refine q_go (fun w hS => s_pick_t) ?_ | refine q_go (fun w hS => s_pick_f) ?_
  try simp only [opv, n1, n2, n3, n4, Value.cells]
  refine q_go (fun w hS => s_assign) ?_
  try simp only [opv, n1, n2, n3, n4, Value.cells]
  clear hS
  refine q_nil fun w5 hS => ?_
  refine hK3 _ _ ?_
  refine x_ret ?_
  refine r_tmp rfl ?_
  exact ⟨rfl, hS.ext_of⟩
end Go.Proofs.Ytpjpaipkkcengaa
