/- Contracts of functions, printed by a program of this seat (wip/tools/gen.py) out of its specs. -/
import Derived.Test.YtpjpaipkkcengaaDj
set_option linter.unusedSimpArgs false
set_option linter.unusedVariables false
set_option maxHeartbeats 800000
set_option maxRecDepth 100000
namespace Go.Proofs.Ytpjpaipkkcengaa
open Go.RowKit

theorem c_wput0 (B : Option Addr) (m d : Nat)  (w0 : World) :
    CallR Try.prog 189 #[.pointer none, .slice B m d] w0 fun v w' => v = .tuple #[] ∧ Ext w0 w' := by
  have hS : St NoB w0 w0 [] := St.start w0
  refine c_enter (l := [.pointer none, .slice B m d, undef, undef, undef, undef, undef, undef, undef, undef, undef, undef, undef, undef, undef]) Try.func189 rfl (by simp only [Try.ntmps189, List.size_toArray, List.length_cons, List.length_nil, Nat.reduceAdd, Nat.reduceSub, Array.replicate_succ, Array.replicate_zero, List.push_toArray, List.append_toArray, List.nil_append, List.cons_append]) ?_
  refine x_seq fun K1 hK1 => ?_
  refine x_region ?_
  refine s_go (s_move) ?_
  try simp only [opv, n1, n2, n3, n4, Value.cells]
  refine s_go (s_neq_pointer Try.underlying38) ?_
  try simp only [opv, n1, n2, n3, n4, Value.cells]
  refine x_nil ?_
  refine hK1 _ _ ?_
  refine x_cond_f (h := ?_)
  refine x_skip ?_
  refine r_none rfl ?_
  exact ⟨rfl, hS.ext_of⟩

theorem c_wnum0 (x : Nat) (hx64 : x < 18446744073709551616)  (w0 : World) :
    CallR Try.prog 115 #[.pointer none, .int .u64 (x : Int)] w0 fun v w' => v = .tuple #[] ∧ Ext w0 w' := by
  have hS : St NoB w0 w0 [] := St.start w0
  refine c_enter (l := [.pointer none, .int .u64 (x : Int), undef, undef, undef, undef, undef, undef]) Try.func115 rfl (by simp only [Try.ntmps115, List.size_toArray, List.length_cons, List.length_nil, Nat.reduceAdd, Nat.reduceSub, Array.replicate_succ, Array.replicate_zero, List.push_toArray, List.append_toArray, List.nil_append, List.cons_append]) ?_
  refine x_region ?_
  refine s_go (s_move) ?_
  try simp only [opv, n1, n2, n3, n4, Value.cells]
  refine s_go (s_move) ?_
  try simp only [opv, n1, n2, n3, n4, Value.cells]
  refine s_call en190 ?_
  try simp only [opv, n1, n2, n3, n4, Value.cells, List.map_toArray, List.map_cons, List.map_nil, List.append_toArray, List.cons_append, List.nil_append, Array.append_empty]
  refine CallR.mono (c_packVar x hx64 _) ?_
  rintro _ w1 ⟨A1, c1, rfl, hC1⟩
  replace hS := hS.call hC1
  simp only [List.cons_append, List.nil_append] at hS
  try simp only [opv, n1, n2, n3, n4, Value.cells]
  refine s_call en189 ?_
  try simp only [opv, n1, n2, n3, n4, Value.cells, List.map_toArray, List.map_cons, List.map_nil, List.append_toArray, List.cons_append, List.nil_append, Array.append_empty]
  refine CallR.mono (c_wput0 _ _ _ _) ?_
  rintro _ w2 ⟨rfl, hE2⟩
  replace hS := hS.ext hE2
  try simp only [opv, n1, n2, n3, n4, Value.cells]
  refine x_nil ?_
  refine r_none rfl ?_
  exact ⟨rfl, hS.ext_of⟩

theorem c_wbyte0 (b : Int)  (w0 : World) :
    CallR Try.prog 120 #[.pointer none, .int .u8 b] w0 fun v w' => v = .tuple #[] ∧ Ext w0 w' := by
  have hS : St NoB w0 w0 [] := St.start w0
  refine c_enter (l := [.pointer none, .int .u8 b, undef, undef, undef, undef, undef, undef]) Try.func120 rfl (by simp only [Try.ntmps120, List.size_toArray, List.length_cons, List.length_nil, Nat.reduceAdd, Nat.reduceSub, Array.replicate_succ, Array.replicate_zero, List.push_toArray, List.append_toArray, List.nil_append, List.cons_append]) ?_
  refine x_region ?_
  refine s_go (s_move) ?_
  try simp only [opv, n1, n2, n3, n4, Value.cells]
  refine s_go (s_move) ?_
  try simp only [opv, n1, n2, n3, n4, Value.cells]
  refine m_buildRow (cells := #[_]) Try.underlying43 ti5 (hc := by simp only [List.map_toArray, List.map_cons, List.map_nil, opv, n1, n2, n3, n4, Value.cells, List.toList_toArray]; (repeat (refine fill_cons rfl rfl (Nat.le_of_ble_eq_true rfl) ?_)); rfl) (hS := hS) (h := fun w1 g1 hS => ?_)
  try simp only [opv, n1, n2, n3, n4, Value.cells, Array.toArray_toList] at hS ⊢
  replace hS := hS.obj_rd (sz := 1) (n := 1) rfl .head
  refine s_call en189 ?_
  try simp only [opv, n1, n2, n3, n4, Value.cells, List.map_toArray, List.map_cons, List.map_nil, List.append_toArray, List.cons_append, List.nil_append, Array.append_empty]
  refine CallR.mono (c_wput0 _ _ _ _) ?_
  rintro _ w2 ⟨rfl, hE2⟩
  replace hS := hS.ext hE2
  try simp only [opv, n1, n2, n3, n4, Value.cells]
  refine x_nil ?_
  refine r_none rfl ?_
  exact ⟨rfl, hS.ext_of⟩

theorem c_wname0 (l : List Int) (hl : l.length = 8) (hw : Byt l)  (w0 : World) :
    CallR Try.prog 116 #[.pointer none, .agg (ic .u8 l)] w0 fun v w' => v = .tuple #[] ∧ Ext w0 w' := by
  have hS : St NoB w0 w0 [] := St.start w0
  refine c_enter (l := [.pointer none, .agg (ic .u8 l), undef, undef, undef, undef, undef, undef, undef, undef, undef, undef, undef, undef, undef, undef, undef]) Try.func116 rfl (by simp only [Try.ntmps116, List.size_toArray, List.length_cons, List.length_nil, Nat.reduceAdd, Nat.reduceSub, Array.replicate_succ, Array.replicate_zero, List.push_toArray, List.append_toArray, List.nil_append, List.cons_append]) ?_
  refine x_seq fun K1 hK1 => ?_
  refine x_region ?_
  have hs := nsz_le l
  have htl := nmTxt_len l
  have htb := nmTxt_byt hw
  refine m_box hS (fun w1 g1 hS => ?_)
  try simp only [opv, n1, n2, n3, n4, Value.cells, Array.toArray_toList] at hS ⊢
  refine x_nil ?_
  refine hK1 _ _ ?_
  refine x_seq fun K2 hK2 => ?_
  refine x_region ?_
  first | refine s_go (m_load_row Try.underlying42 (hi := ti42) (hS := hS)) ?_ | refine s_go (m_loada_obj Try.underlying42 (hi := ti42) (hS := hS)) ?_ | refine s_go (m_loada_bx Try.underlying42 (hi := ti42) (hS := hS)) ?_ | refine s_go (m_loada_rd Try.underlying42 (hi := ti42) (hS := hS)) ?_ | refine s_go (m_loada_vec Try.underlying42 (hi := ti42) (hS := hS)) ?_
  try simp only [opv, n1, n2, n3, n4, Value.cells, List.getElem_toArray, List.getElem_cons_zero, List.getElem_cons_succ]
  refine s_call en191 ?_
  try simp only [opv, n1, n2, n3, n4, Value.cells, List.map_toArray, List.map_cons, List.map_nil, List.append_toArray, List.cons_append, List.nil_append, Array.append_empty]
  refine CallR.mono (c_nameText _ (by first | assumption | omega) (by assumption) _) ?_
  rintro _ w2 ⟨rfl, hE2⟩
  replace hS := hS.ext hE2
  try simp only [opv, n1, n2, n3, n4, Value.cells]
  refine s_go (s_assign) ?_
  try simp only [opv, n1, n2, n3, n4, Value.cells]
  refine x_nil ?_
  refine hK2 _ _ ?_
  refine x_seq fun K3 hK3 => ?_
  refine x_region ?_
  refine s_go (s_move) ?_
  try simp only [opv, n1, n2, n3, n4, Value.cells]
  refine s_go (s_move) ?_
  try simp only [opv, n1, n2, n3, n4, Value.cells]
  refine s_go (s_len_str Try.underlying9) ?_
  try simp only [opv, n1, n2, n3, n4, Value.cells]
  rw [strOf_size, htl]
  refine s_go (s_conv Try.underlying3 Try.underlying5 (hc := by first | exact wr_u8 (by omega) (by omega) | exact cv_u8 rfl | rfl)) ?_
  try simp only [opv, n1, n2, n3, n4, Value.cells]
  refine m_buildRow (cells := #[_]) Try.underlying43 ti5 (hc := by simp only [List.map_toArray, List.map_cons, List.map_nil, opv, n1, n2, n3, n4, Value.cells, List.toList_toArray]; (repeat (refine fill_cons rfl rfl (Nat.le_of_ble_eq_true rfl) ?_)); rfl) (hS := hS) (h := fun w3 g3 hS => ?_)
  try simp only [opv, n1, n2, n3, n4, Value.cells, Array.toArray_toList] at hS ⊢
  replace hS := hS.obj_rd (sz := 1) (n := 1) rfl .head
  refine s_call en189 ?_
  try simp only [opv, n1, n2, n3, n4, Value.cells, List.map_toArray, List.map_cons, List.map_nil, List.append_toArray, List.cons_append, List.nil_append, Array.append_empty]
  refine CallR.mono (c_wput0 _ _ _ _) ?_
  rintro _ w4 ⟨rfl, hE4⟩
  replace hS := hS.ext hE4
  try simp only [opv, n1, n2, n3, n4, Value.cells]
  refine x_nil ?_
  refine hK3 _ _ ?_
  refine x_region ?_
  refine s_go (s_move) ?_
  try simp only [opv, n1, n2, n3, n4, Value.cells]
  refine s_go (s_move) ?_
  try simp only [opv, n1, n2, n3, n4, Value.cells]
  refine m_str_bytes Try.underlying9 Try.underlying43 Try.underlying5 (hS := hS) (h := fun w5 A5 C5 hS => ?_)
  try simp only [opv, n1, n2, n3, n4, Value.cells, Array.toArray_toList] at hS ⊢
  rw [strOf_size] at hS ⊢
  refine s_call en189 ?_
  try simp only [opv, n1, n2, n3, n4, Value.cells, List.map_toArray, List.map_cons, List.map_nil, List.append_toArray, List.cons_append, List.nil_append, Array.append_empty]
  refine CallR.mono (c_wput0 _ _ _ _) ?_
  rintro _ w6 ⟨rfl, hE6⟩
  replace hS := hS.ext hE6
  try simp only [opv, n1, n2, n3, n4, Value.cells]
  refine x_nil ?_
  refine r_none rfl ?_
  exact ⟨rfl, hS.ext_of⟩

theorem c_wbytes0 (B : Option Addr) (m d : Nat) (hm : m ≤ 1000000)  (w0 : World) :
    CallR Try.prog 121 #[.pointer none, .slice B m d] w0 fun v w' => v = .tuple #[] ∧ Ext w0 w' := by
  have hS : St NoB w0 w0 [] := St.start w0
  refine c_enter (l := [.pointer none, .slice B m d, undef, undef, undef, undef, undef, undef, undef, undef, undef, undef]) Try.func121 rfl (by simp only [Try.ntmps121, List.size_toArray, List.length_cons, List.length_nil, Nat.reduceAdd, Nat.reduceSub, Array.replicate_succ, Array.replicate_zero, List.push_toArray, List.append_toArray, List.nil_append, List.cons_append]) ?_
  refine x_seq fun K1 hK1 => ?_
  refine x_region ?_
  refine s_go (s_move) ?_
  try simp only [opv, n1, n2, n3, n4, Value.cells]
  refine s_go (s_move) ?_
  try simp only [opv, n1, n2, n3, n4, Value.cells]
  refine s_go (s_len_sl Try.underlying43) ?_
  try simp only [opv, n1, n2, n3, n4, Value.cells]
  refine s_go (s_conv Try.underlying3 Try.underlying40 (hc := by first | exact wr_u64 (by omega) (by omega) | rfl)) ?_
  try simp only [opv, n1, n2, n3, n4, Value.cells]
  refine s_call en115 ?_
  try simp only [opv, n1, n2, n3, n4, Value.cells, List.map_toArray, List.map_cons, List.map_nil, List.append_toArray, List.cons_append, List.nil_append, Array.append_empty]
  refine CallR.mono (c_wnum0 m (by omega) _) ?_
  rintro _ w1 ⟨rfl, hE1⟩
  replace hS := hS.ext hE1
  try simp only [opv, n1, n2, n3, n4, Value.cells]
  refine x_nil ?_
  refine hK1 _ _ ?_
  refine x_region ?_
  refine s_go (s_move) ?_
  try simp only [opv, n1, n2, n3, n4, Value.cells]
  refine s_go (s_move) ?_
  try simp only [opv, n1, n2, n3, n4, Value.cells]
  refine s_call en189 ?_
  try simp only [opv, n1, n2, n3, n4, Value.cells, List.map_toArray, List.map_cons, List.map_nil, List.append_toArray, List.cons_append, List.nil_append, Array.append_empty]
  refine CallR.mono (c_wput0 _ _ _ _) ?_
  rintro _ w2 ⟨rfl, hE2⟩
  replace hS := hS.ext hE2
  try simp only [opv, n1, n2, n3, n4, Value.cells]
  refine x_nil ?_
  refine r_none rfl ?_
  exact ⟨rfl, hS.ext_of⟩

theorem c_wout0  (w0 : World) :
    CallR Try.prog 32 #[.pointer none] w0 fun v w' => v = .slice none 0 0 ∧ Ext w0 w' := by
  have hS : St NoB w0 w0 [] := St.start w0
  refine c_enter (l := [.pointer none, undef, undef, undef, undef, undef, undef, undef, undef, undef, undef]) Try.func32 rfl (by simp only [Try.ntmps32, List.size_toArray, List.length_cons, List.length_nil, Nat.reduceAdd, Nat.reduceSub, Array.replicate_succ, Array.replicate_zero, List.push_toArray, List.append_toArray, List.nil_append, List.cons_append]) ?_
  refine x_seq fun K1 hK1 => ?_
  refine x_region ?_
  refine s_go (s_assign) ?_
  try simp only [opv, n1, n2, n3, n4, Value.cells]
  refine x_nil ?_
  refine hK1 _ _ ?_
  refine x_seq fun K2 hK2 => ?_
  refine x_seq fun K3 hK3 => ?_
  refine x_region ?_
  refine s_go (s_move) ?_
  try simp only [opv, n1, n2, n3, n4, Value.cells]
  refine s_go (s_eql_pointer Try.underlying38) ?_
  try simp only [opv, n1, n2, n3, n4, Value.cells]
  refine x_nil ?_
  refine hK3 _ _ ?_
  refine x_cond_t (h := ?_)
  refine x_seq fun K4 hK4 => ?_
  refine x_region ?_
  refine s_go (s_assign) ?_
  try simp only [opv, n1, n2, n3, n4, Value.cells]
  refine x_nil ?_
  refine hK4 _ _ ?_
  refine x_ret ?_
  refine r_tmp rfl ?_
  exact ⟨rfl, hS.ext_of⟩

theorem c_law07write0 (w0 : World) (p : Pc) (hp : PcOk w0 p) (hp6 : p.b.length ≤ 60)  :
    CallR Try.prog 30 #[.pointer none, .agg (pP p)] w0 fun v w' => v = .tuple #[] ∧ Ext w0 w' := by
  have hS : St NoB w0 w0 [] := St.start w0
  refine c_enter (l := [.pointer none, .agg (pP p), undef, undef, undef, undef, undef, undef, undef, undef, undef, undef, undef, undef, undef, undef, undef, undef, undef, undef, undef, undef, undef, undef, undef, undef, undef, undef]) Try.func30 rfl (by simp only [Try.ntmps30, List.size_toArray, List.length_cons, List.length_nil, Nat.reduceAdd, Nat.reduceSub, Array.replicate_succ, Array.replicate_zero, List.push_toArray, List.append_toArray, List.nil_append, List.cons_append]) ?_
  refine x_seq fun K1 hK1 => ?_
  refine x_region ?_
  refine m_box hS (fun w1 g1 hS => ?_)
  try simp only [opv, n1, n2, n3, n4, Value.cells, Array.toArray_toList] at hS ⊢
  refine x_nil ?_
  refine hK1 _ _ ?_
  refine x_seq fun K2 hK2 => ?_
  refine x_region ?_
  first | refine s_go (m_fieldAddr Try.underlying45 (hi := ti3)) ?_ | refine s_go (m_fieldAddr_rd Try.underlying45 (hi := ti3) (hS := hS)) ?_ | refine s_go (m_fieldAddr_vec Try.underlying45 (hi := ti3) (hS := hS)) ?_
  try simp only [opv, n1, n2, n3, n4, Value.cells, Nat.zero_add, Nat.add_zero, List.getElem_toArray, List.getElem_cons_zero, List.getElem_cons_succ]
  first | refine s_go (m_load_obj Try.underlying3 (hS := hS)) ?_ | refine s_go (m_load_bx Try.underlying3 (hS := hS)) ?_ | refine s_go (m_load_rd Try.underlying3 (hS := hS)) ?_ | refine s_go (m_load_vec Try.underlying3 (hS := hS)) ?_
  try simp only [opv, n1, n2, n3, n4, Value.cells, List.getElem_toArray, List.getElem_cons_zero, List.getElem_cons_succ]
  refine x_nil ?_
  refine hK2 _ _ ?_
  refine x_block ?_
  refine x_seq fun K3 hK3 => ?_
  refine x_region ?_
  refine s_go (s_eql) ?_
  try simp only [opv, n1, n2, n3, n4, Value.cells]
  refine s_go (s_assign) ?_
  try simp only [opv, n1, n2, n3, n4, Value.cells]
  refine x_nil ?_
  refine hK3 _ _ ?_
  refine x_cond (ht := fun hc1 => ?_) (hf := fun hc1 => ?_)
  ·
    try simp only [decide_eq_true_eq, decide_eq_false_iff_not, Bool.not_eq_true', Bool.not_eq_false', Int.not_lt, Int.not_le, ne_eq, Decidable.not_not, bne_iff_ne, beq_iff_eq, not_true_eq_false, not_false_eq_true] at hc1
    refine x_region ?_
    refine s_go (s_move) ?_
    try simp only [opv, n1, n2, n3, n4, Value.cells]
    first | refine s_go (m_fieldAddr Try.underlying45 (hi := ti40)) ?_ | refine s_go (m_fieldAddr_rd Try.underlying45 (hi := ti40) (hS := hS)) ?_ | refine s_go (m_fieldAddr_vec Try.underlying45 (hi := ti40) (hS := hS)) ?_
    try simp only [opv, n1, n2, n3, n4, Value.cells, Nat.zero_add, Nat.add_zero, List.getElem_toArray, List.getElem_cons_zero, List.getElem_cons_succ]
    first | refine s_go (m_load_obj Try.underlying40 (hS := hS)) ?_ | refine s_go (m_load_bx Try.underlying40 (hS := hS)) ?_ | refine s_go (m_load_rd Try.underlying40 (hS := hS)) ?_ | refine s_go (m_load_vec Try.underlying40 (hS := hS)) ?_
    try simp only [opv, n1, n2, n3, n4, Value.cells, List.getElem_toArray, List.getElem_cons_zero, List.getElem_cons_succ]
    refine s_call en115 ?_
    try simp only [opv, n1, n2, n3, n4, Value.cells, List.map_toArray, List.map_cons, List.map_nil, List.append_toArray, List.cons_append, List.nil_append, Array.append_empty]
    refine CallR.mono (c_wnum0 p.x hp.x _) ?_
    rintro _ w2 ⟨rfl, hE2⟩
    replace hS := hS.ext hE2
    try simp only [opv, n1, n2, n3, n4, Value.cells]
    refine x_nil ?_
    refine r_none rfl ?_
    exact ⟨rfl, hS.ext_of⟩
  ·
    try simp only [decide_eq_true_eq, decide_eq_false_iff_not, Bool.not_eq_true', Bool.not_eq_false', Int.not_lt, Int.not_le, ne_eq, Decidable.not_not, bne_iff_ne, beq_iff_eq, not_true_eq_false, not_false_eq_true] at hc1
    refine x_seq fun K4 hK4 => ?_
    refine x_region ?_
    refine s_go (s_eql) ?_
    try simp only [opv, n1, n2, n3, n4, Value.cells]
    refine s_go (s_assign) ?_
    try simp only [opv, n1, n2, n3, n4, Value.cells]
    refine x_nil ?_
    refine hK4 _ _ ?_
    refine x_cond (ht := fun hc2 => ?_) (hf := fun hc2 => ?_)
    ·
      try simp only [decide_eq_true_eq, decide_eq_false_iff_not, Bool.not_eq_true', Bool.not_eq_false', Int.not_lt, Int.not_le, ne_eq, Decidable.not_not, bne_iff_ne, beq_iff_eq, not_true_eq_false, not_false_eq_true] at hc2
      refine x_region ?_
      refine s_go (s_move) ?_
      try simp only [opv, n1, n2, n3, n4, Value.cells]
      first | refine s_go (m_fieldAddr Try.underlying45 (hi := ti5)) ?_ | refine s_go (m_fieldAddr_rd Try.underlying45 (hi := ti5) (hS := hS)) ?_ | refine s_go (m_fieldAddr_vec Try.underlying45 (hi := ti5) (hS := hS)) ?_
      try simp only [opv, n1, n2, n3, n4, Value.cells, Nat.zero_add, Nat.add_zero, List.getElem_toArray, List.getElem_cons_zero, List.getElem_cons_succ]
      first | refine s_go (m_load_obj Try.underlying5 (hS := hS)) ?_ | refine s_go (m_load_bx Try.underlying5 (hS := hS)) ?_ | refine s_go (m_load_rd Try.underlying5 (hS := hS)) ?_ | refine s_go (m_load_vec Try.underlying5 (hS := hS)) ?_
      try simp only [opv, n1, n2, n3, n4, Value.cells, List.getElem_toArray, List.getElem_cons_zero, List.getElem_cons_succ]
      refine s_call en120 ?_
      try simp only [opv, n1, n2, n3, n4, Value.cells, List.map_toArray, List.map_cons, List.map_nil, List.append_toArray, List.cons_append, List.nil_append, Array.append_empty]
      refine CallR.mono (c_wbyte0 p.c _) ?_
      rintro _ w3 ⟨rfl, hE3⟩
      replace hS := hS.ext hE3
      try simp only [opv, n1, n2, n3, n4, Value.cells]
      refine x_nil ?_
      refine r_none rfl ?_
      exact ⟨rfl, hS.ext_of⟩
    ·
      try simp only [decide_eq_true_eq, decide_eq_false_iff_not, Bool.not_eq_true', Bool.not_eq_false', Int.not_lt, Int.not_le, ne_eq, Decidable.not_not, bne_iff_ne, beq_iff_eq, not_true_eq_false, not_false_eq_true] at hc2
      refine x_seq fun K5 hK5 => ?_
      refine x_region ?_
      refine s_go (s_eql) ?_
      try simp only [opv, n1, n2, n3, n4, Value.cells]
      refine s_go (s_assign) ?_
      try simp only [opv, n1, n2, n3, n4, Value.cells]
      refine x_nil ?_
      refine hK5 _ _ ?_
      refine x_cond (ht := fun hc3 => ?_) (hf := fun hc3 => ?_)
      ·
        try simp only [decide_eq_true_eq, decide_eq_false_iff_not, Bool.not_eq_true', Bool.not_eq_false', Int.not_lt, Int.not_le, ne_eq, Decidable.not_not, bne_iff_ne, beq_iff_eq, not_true_eq_false, not_false_eq_true] at hc3
        refine x_region ?_
        refine s_go (s_move) ?_
        try simp only [opv, n1, n2, n3, n4, Value.cells]
        first | refine s_go (m_fieldAddr Try.underlying45 (hi := ti42)) ?_ | refine s_go (m_fieldAddr_rd Try.underlying45 (hi := ti42) (hS := hS)) ?_ | refine s_go (m_fieldAddr_vec Try.underlying45 (hi := ti42) (hS := hS)) ?_
        try simp only [opv, n1, n2, n3, n4, Value.cells, Nat.zero_add, Nat.add_zero, List.getElem_toArray, List.getElem_cons_zero, List.getElem_cons_succ]
        first | refine s_go (m_load_row Try.underlying42 (hi := ti42) (hS := hS)) ?_ | refine s_go (m_loada_obj Try.underlying42 (hi := ti42) (hS := hS)) ?_ | refine s_go (m_loada_bx Try.underlying42 (hi := ti42) (hS := hS)) ?_ | refine s_go (m_loada_rd Try.underlying42 (hi := ti42) (hS := hS)) ?_ | refine s_go (m_loada_vec Try.underlying42 (hi := ti42) (hS := hS)) ?_
        try simp only [opv, n1, n2, n3, n4, Value.cells, List.getElem_toArray, List.getElem_cons_zero, List.getElem_cons_succ]
        rw [pc_nm _ _ _ hp.nl]
        refine s_call en116 ?_
        try simp only [opv, n1, n2, n3, n4, Value.cells, List.map_toArray, List.map_cons, List.map_nil, List.append_toArray, List.cons_append, List.nil_append, Array.append_empty]
        refine CallR.mono (c_wname0 p.nm hp.nl hp.nb _) ?_
        rintro _ w4 ⟨rfl, hE4⟩
        replace hS := hS.ext hE4
        try simp only [opv, n1, n2, n3, n4, Value.cells]
        refine x_nil ?_
        refine r_none rfl ?_
        exact ⟨rfl, hS.ext_of⟩
      ·
        try simp only [decide_eq_true_eq, decide_eq_false_iff_not, Bool.not_eq_true', Bool.not_eq_false', Int.not_lt, Int.not_le, ne_eq, Decidable.not_not, bne_iff_ne, beq_iff_eq, not_true_eq_false, not_false_eq_true] at hc3
        refine x_region ?_
        refine s_go (s_move) ?_
        try simp only [opv, n1, n2, n3, n4, Value.cells]
        first | refine s_go (m_fieldAddr Try.underlying45 (hi := ti43)) ?_ | refine s_go (m_fieldAddr_rd Try.underlying45 (hi := ti43) (hS := hS)) ?_ | refine s_go (m_fieldAddr_vec Try.underlying45 (hi := ti43) (hS := hS)) ?_
        try simp only [opv, n1, n2, n3, n4, Value.cells, Nat.zero_add, Nat.add_zero, List.getElem_toArray, List.getElem_cons_zero, List.getElem_cons_succ]
        first | refine s_go (m_load_obj Try.underlying43 (hS := hS)) ?_ | refine s_go (m_load_bx Try.underlying43 (hS := hS)) ?_ | refine s_go (m_load_rd Try.underlying43 (hS := hS)) ?_ | refine s_go (m_load_vec Try.underlying43 (hS := hS)) ?_
        try simp only [opv, n1, n2, n3, n4, Value.cells, List.getElem_toArray, List.getElem_cons_zero, List.getElem_cons_succ]
        refine s_call en121 ?_
        try simp only [opv, n1, n2, n3, n4, Value.cells, List.map_toArray, List.map_cons, List.map_nil, List.append_toArray, List.cons_append, List.nil_append, Array.append_empty]
        refine CallR.mono (c_wbytes0 p.A _ _ (by omega) _) ?_
        rintro _ w5 ⟨rfl, hE5⟩
        replace hS := hS.ext hE5
        try simp only [opv, n1, n2, n3, n4, Value.cells]
        refine x_nil ?_
        refine r_none rfl ?_
        exact ⟨rfl, hS.ext_of⟩

theorem c_cwell0  (w0 : World) :
    CallR Try.prog 204 #[.pointer none] w0 fun v w' => v = .bool false ∧ Ext w0 w' := by
  have hS : St NoB w0 w0 [] := St.start w0
  refine c_enter (l := [.pointer none, undef, undef, undef, undef, undef, undef, undef, undef, undef, undef, undef, undef]) Try.func204 rfl (by simp only [Try.ntmps204, List.size_toArray, List.length_cons, List.length_nil, Nat.reduceAdd, Nat.reduceSub, Array.replicate_succ, Array.replicate_zero, List.push_toArray, List.append_toArray, List.nil_append, List.cons_append]) ?_
  refine x_seq fun K1 hK1 => ?_
  refine x_region ?_
  refine s_go (s_assign) ?_
  try simp only [opv, n1, n2, n3, n4, Value.cells]
  refine x_nil ?_
  refine hK1 _ _ ?_
  refine x_seq fun K2 hK2 => ?_
  refine x_region ?_
  refine s_go (s_move) ?_
  try simp only [opv, n1, n2, n3, n4, Value.cells]
  refine s_go (s_neq_pointer Try.underlying48) ?_
  try simp only [opv, n1, n2, n3, n4, Value.cells]
  rw [show (!(none : Option Addr).isNone) = false from rfl]
  refine s_go (s_move) ?_
  try simp only [opv, n1, n2, n3, n4, Value.cells]
  refine g_off (yi (t := 5) rfl rfl) ?_
  try simp only [opv, n1, n2, n3, n4, Value.cells]
  refine g_off (yi (t := 5) rfl rfl) ?_
  try simp only [opv, n1, n2, n3, n4, Value.cells]
  refine g_off (yi (t := 5) rfl rfl) ?_
  try simp only [opv, n1, n2, n3, n4, Value.cells]
  refine g_off (yi (t := 5) rfl rfl) ?_
  try simp only [opv, n1, n2, n3, n4, Value.cells]
  refine g_off (yi (t := 5) rfl rfl) ?_
  try simp only [opv, n1, n2, n3, n4, Value.cells]
  refine g_off (yi (t := 5) rfl rfl) ?_
  try simp only [opv, n1, n2, n3, n4, Value.cells]
  first | refine s_go (s_pick_t) ?_ | refine s_go (s_pick_f) ?_
  try simp only [opv, n1, n2, n3, n4, Value.cells]
  refine s_go (s_assign) ?_
  try simp only [opv, n1, n2, n3, n4, Value.cells]
  refine x_nil ?_
  refine hK2 _ _ ?_
  refine x_ret ?_
  refine r_tmp rfl ?_
  exact ⟨rfl, hS.ext_of⟩

theorem c_cErr0  (w0 : World) :
    CallR Try.prog 35 #[.pointer none] w0 fun v w' => v = .int .i64 1 ∧ Ext w0 w' := by
  have hS : St NoB w0 w0 [] := St.start w0
  refine c_enter (l := [.pointer none, undef, undef, undef, undef, undef, undef, undef, undef, undef]) Try.func35 rfl (by simp only [Try.ntmps35, List.size_toArray, List.length_cons, List.length_nil, Nat.reduceAdd, Nat.reduceSub, Array.replicate_succ, Array.replicate_zero, List.push_toArray, List.append_toArray, List.nil_append, List.cons_append]) ?_
  refine x_seq fun K1 hK1 => ?_
  refine x_region ?_
  refine s_go (s_assign) ?_
  try simp only [opv, n1, n2, n3, n4, Value.cells]
  refine x_nil ?_
  refine hK1 _ _ ?_
  refine x_seq fun K2 hK2 => ?_
  refine x_seq fun K3 hK3 => ?_
  refine x_region ?_
  refine s_go (s_move) ?_
  try simp only [opv, n1, n2, n3, n4, Value.cells]
  refine s_go (s_eql_pointer Try.underlying48) ?_
  try simp only [opv, n1, n2, n3, n4, Value.cells]
  refine x_nil ?_
  refine hK3 _ _ ?_
  refine x_cond_t (h := ?_)
  refine x_seq fun K4 hK4 => ?_
  refine x_region ?_
  refine s_go (s_assign) ?_
  try simp only [opv, n1, n2, n3, n4, Value.cells]
  refine x_nil ?_
  refine hK4 _ _ ?_
  refine x_ret ?_
  refine r_tmp rfl ?_
  exact ⟨rfl, hS.ext_of⟩

theorem c_cLeft0  (w0 : World) :
    CallR Try.prog 39 #[.pointer none] w0 fun v w' => v = .int .i64 0 ∧ Ext w0 w' := by
  have hS : St NoB w0 w0 [] := St.start w0
  refine c_enter (l := [.pointer none, undef, undef, undef, undef, undef, undef, undef, undef, undef]) Try.func39 rfl (by simp only [Try.ntmps39, List.size_toArray, List.length_cons, List.length_nil, Nat.reduceAdd, Nat.reduceSub, Array.replicate_succ, Array.replicate_zero, List.push_toArray, List.append_toArray, List.nil_append, List.cons_append]) ?_
  refine x_seq fun K1 hK1 => ?_
  refine x_region ?_
  refine s_go (s_assign) ?_
  try simp only [opv, n1, n2, n3, n4, Value.cells]
  refine x_nil ?_
  refine hK1 _ _ ?_
  refine x_seq fun K2 hK2 => ?_
  refine x_seq fun K3 hK3 => ?_
  refine x_region ?_
  refine s_go (s_move) ?_
  try simp only [opv, n1, n2, n3, n4, Value.cells]
  refine s_go (s_eql_pointer Try.underlying48) ?_
  try simp only [opv, n1, n2, n3, n4, Value.cells]
  refine x_nil ?_
  refine hK3 _ _ ?_
  refine x_cond_t (h := ?_)
  refine x_seq fun K4 hK4 => ?_
  refine x_region ?_
  refine s_go (s_assign) ?_
  try simp only [opv, n1, n2, n3, n4, Value.cells]
  refine x_nil ?_
  refine hK4 _ _ ?_
  refine x_ret ?_
  refine r_tmp rfl ?_
  exact ⟨rfl, hS.ext_of⟩

theorem c_cDone0  (w0 : World) :
    CallR Try.prog 37 #[.pointer none] w0 fun v w' => v = .int .i64 1 ∧ Ext w0 w' := by
  have hS : St NoB w0 w0 [] := St.start w0
  refine c_enter (l := [.pointer none, undef, undef, undef, undef, undef, undef, undef]) Try.func37 rfl (by simp only [Try.ntmps37, List.size_toArray, List.length_cons, List.length_nil, Nat.reduceAdd, Nat.reduceSub, Array.replicate_succ, Array.replicate_zero, List.push_toArray, List.append_toArray, List.nil_append, List.cons_append]) ?_
  refine x_seq fun K1 hK1 => ?_
  refine x_region ?_
  refine s_go (s_assign) ?_
  try simp only [opv, n1, n2, n3, n4, Value.cells]
  refine x_nil ?_
  refine hK1 _ _ ?_
  refine x_seq fun K2 hK2 => ?_
  refine x_seq fun K3 hK3 => ?_
  refine x_region ?_
  refine s_go (s_move) ?_
  try simp only [opv, n1, n2, n3, n4, Value.cells]
  refine s_call en39 ?_
  try simp only [opv, n1, n2, n3, n4, Value.cells, List.map_toArray, List.map_cons, List.map_nil, List.append_toArray, List.cons_append, List.nil_append, Array.append_empty]
  refine CallR.mono (c_cLeft0 _) ?_
  rintro _ w1 ⟨rfl, hE1⟩
  replace hS := hS.ext hE1
  try simp only [opv, n1, n2, n3, n4, Value.cells]
  refine s_go (s_gtr) ?_
  try simp only [opv, n1, n2, n3, n4, Value.cells]
  refine x_nil ?_
  refine hK3 _ _ ?_
  refine x_cond_f (h := ?_)
  refine x_skip ?_
  refine hK2 _ _ ?_
  refine x_seq fun K4 hK4 => ?_
  refine x_region ?_
  refine s_go (s_move) ?_
  try simp only [opv, n1, n2, n3, n4, Value.cells]
  refine s_call en35 ?_
  try simp only [opv, n1, n2, n3, n4, Value.cells, List.map_toArray, List.map_cons, List.map_nil, List.append_toArray, List.cons_append, List.nil_append, Array.append_empty]
  refine CallR.mono (c_cErr0 _) ?_
  rintro _ w2 ⟨rfl, hE2⟩
  replace hS := hS.ext hE2
  try simp only [opv, n1, n2, n3, n4, Value.cells]
  refine s_go (s_assign) ?_
  try simp only [opv, n1, n2, n3, n4, Value.cells]
  refine x_nil ?_
  refine hK4 _ _ ?_
  refine x_ret ?_
  refine r_tmp rfl ?_
  exact ⟨rfl, hS.ext_of⟩

theorem c_cFail0 (e' : Int)  (w0 : World) :
    CallR Try.prog 38 #[.pointer none, .int .i64 e'] w0 fun v w' => v = .tuple #[] ∧ Ext w0 w' := by
  have hS : St NoB w0 w0 [] := St.start w0
  refine c_enter (l := [.pointer none, .int .i64 e', undef, undef, undef, undef, undef, undef, undef]) Try.func38 rfl (by simp only [Try.ntmps38, List.size_toArray, List.length_cons, List.length_nil, Nat.reduceAdd, Nat.reduceSub, Array.replicate_succ, Array.replicate_zero, List.push_toArray, List.append_toArray, List.nil_append, List.cons_append]) ?_
  refine x_seq fun K1 hK1 => ?_
  refine x_region ?_
  refine s_go (s_move) ?_
  try simp only [opv, n1, n2, n3, n4, Value.cells]
  refine s_go (s_neq_pointer Try.underlying48) ?_
  try simp only [opv, n1, n2, n3, n4, Value.cells]
  refine x_nil ?_
  refine hK1 _ _ ?_
  refine x_cond_f (h := ?_)
  refine x_skip ?_
  refine r_none rfl ?_
  exact ⟨rfl, hS.ext_of⟩

theorem c_onceN0 (fv : Value)  (w0 : World) :
    CallR Try.prog 194 #[.pointer none, fv] w0 fun v w' => v = .int .u64 0 ∧ Ext w0 w' := by
  have hS : St NoB w0 w0 [] := St.start w0
  refine c_enter (l := [.pointer none, fv, undef, undef, undef, undef, undef, undef, undef, undef, undef, undef, undef, undef, undef, undef, undef, undef]) Try.func194 rfl (by simp only [Try.ntmps194, List.size_toArray, List.length_cons, List.length_nil, Nat.reduceAdd, Nat.reduceSub, Array.replicate_succ, Array.replicate_zero, List.push_toArray, List.append_toArray, List.nil_append, List.cons_append]) ?_
  refine x_seq fun K1 hK1 => ?_
  refine x_region ?_
  refine s_go (s_assign) ?_
  try simp only [opv, n1, n2, n3, n4, Value.cells]
  refine x_nil ?_
  refine hK1 _ _ ?_
  refine x_seq fun K2 hK2 => ?_
  refine x_region ?_
  refine s_go (s_assign) ?_
  try simp only [opv, n1, n2, n3, n4, Value.cells]
  refine x_nil ?_
  refine hK2 _ _ ?_
  refine x_seq fun K3 hK3 => ?_
  refine x_seq fun K4 hK4 => ?_
  refine x_region ?_
  refine s_go (s_move) ?_
  try simp only [opv, n1, n2, n3, n4, Value.cells]
  refine s_call en204 ?_
  try simp only [opv, n1, n2, n3, n4, Value.cells, List.map_toArray, List.map_cons, List.map_nil, List.append_toArray, List.cons_append, List.nil_append, Array.append_empty]
  refine CallR.mono (c_cwell0 _) ?_
  rintro _ w1 ⟨rfl, hE1⟩
  replace hS := hS.ext hE1
  try simp only [opv, n1, n2, n3, n4, Value.cells]
  refine s_go (s_not) ?_
  try simp only [opv, n1, n2, n3, n4, Value.cells]
  refine x_nil ?_
  refine hK4 _ _ ?_
  refine x_cond_t (h := ?_)
  refine x_seq fun K5 hK5 => ?_
  refine x_region ?_
  refine s_go (s_move) ?_
  try simp only [opv, n1, n2, n3, n4, Value.cells]
  refine s_go (s_assign) ?_
  try simp only [opv, n1, n2, n3, n4, Value.cells]
  refine x_nil ?_
  refine hK5 _ _ ?_
  refine x_ret ?_
  refine r_tmp rfl ?_
  exact ⟨rfl, hS.ext_of⟩

theorem c_onceB0 (fv : Value)  (w0 : World) :
    CallR Try.prog 198 #[.pointer none, fv] w0 fun v w' => v = .int .u8 0 ∧ Ext w0 w' := by
  have hS : St NoB w0 w0 [] := St.start w0
  refine c_enter (l := [.pointer none, fv, undef, undef, undef, undef, undef, undef, undef, undef, undef, undef, undef, undef, undef, undef, undef, undef]) Try.func198 rfl (by simp only [Try.ntmps198, List.size_toArray, List.length_cons, List.length_nil, Nat.reduceAdd, Nat.reduceSub, Array.replicate_succ, Array.replicate_zero, List.push_toArray, List.append_toArray, List.nil_append, List.cons_append]) ?_
  refine x_seq fun K1 hK1 => ?_
  refine x_region ?_
  refine s_go (s_assign) ?_
  try simp only [opv, n1, n2, n3, n4, Value.cells]
  refine x_nil ?_
  refine hK1 _ _ ?_
  refine x_seq fun K2 hK2 => ?_
  refine x_region ?_
  refine s_go (s_assign) ?_
  try simp only [opv, n1, n2, n3, n4, Value.cells]
  refine x_nil ?_
  refine hK2 _ _ ?_
  refine x_seq fun K3 hK3 => ?_
  refine x_seq fun K4 hK4 => ?_
  refine x_region ?_
  refine s_go (s_move) ?_
  try simp only [opv, n1, n2, n3, n4, Value.cells]
  refine s_call en204 ?_
  try simp only [opv, n1, n2, n3, n4, Value.cells, List.map_toArray, List.map_cons, List.map_nil, List.append_toArray, List.cons_append, List.nil_append, Array.append_empty]
  refine CallR.mono (c_cwell0 _) ?_
  rintro _ w1 ⟨rfl, hE1⟩
  replace hS := hS.ext hE1
  try simp only [opv, n1, n2, n3, n4, Value.cells]
  refine s_go (s_not) ?_
  try simp only [opv, n1, n2, n3, n4, Value.cells]
  refine x_nil ?_
  refine hK4 _ _ ?_
  refine x_cond_t (h := ?_)
  refine x_seq fun K5 hK5 => ?_
  refine x_region ?_
  refine s_go (s_move) ?_
  try simp only [opv, n1, n2, n3, n4, Value.cells]
  refine s_go (s_assign) ?_
  try simp only [opv, n1, n2, n3, n4, Value.cells]
  refine x_nil ?_
  refine hK5 _ _ ?_
  refine x_ret ?_
  refine r_tmp rfl ?_
  exact ⟨rfl, hS.ext_of⟩

theorem c_onceNm0 (fv : Value)  (w0 : World) :
    CallR Try.prog 200 #[.pointer none, fv] w0 fun v w' => v = .agg (ic .u8 nm0) ∧ Ext w0 w' := by
  have hS : St NoB w0 w0 [] := St.start w0
  refine c_enter (l := [.pointer none, fv, undef, undef, undef, undef, undef, undef, undef, undef, undef, undef, undef, undef, undef, undef, undef, undef]) Try.func200 rfl (by simp only [Try.ntmps200, List.size_toArray, List.length_cons, List.length_nil, Nat.reduceAdd, Nat.reduceSub, Array.replicate_succ, Array.replicate_zero, List.push_toArray, List.append_toArray, List.nil_append, List.cons_append]) ?_
  refine x_seq fun K1 hK1 => ?_
  refine x_region ?_
  refine m_alloc ti42 hS (fun w1 g1 hS => ?_)
  try simp only [opv, n1, n2, n3, n4, Value.cells, Array.toArray_toList] at hS ⊢
  refine x_nil ?_
  refine hK1 _ _ ?_
  refine x_seq fun K2 hK2 => ?_
  refine x_region ?_
  refine m_alloc ti42 hS (fun w2 g2 hS => ?_)
  try simp only [opv, n1, n2, n3, n4, Value.cells, Array.toArray_toList] at hS ⊢
  refine x_nil ?_
  refine hK2 _ _ ?_
  refine x_seq fun K3 hK3 => ?_
  refine x_seq fun K4 hK4 => ?_
  refine x_region ?_
  refine s_go (s_move) ?_
  try simp only [opv, n1, n2, n3, n4, Value.cells]
  refine s_call en204 ?_
  try simp only [opv, n1, n2, n3, n4, Value.cells, List.map_toArray, List.map_cons, List.map_nil, List.append_toArray, List.cons_append, List.nil_append, Array.append_empty]
  refine CallR.mono (c_cwell0 _) ?_
  rintro _ w3 ⟨rfl, hE3⟩
  replace hS := hS.ext hE3
  try simp only [opv, n1, n2, n3, n4, Value.cells]
  refine s_go (s_not) ?_
  try simp only [opv, n1, n2, n3, n4, Value.cells]
  refine x_nil ?_
  refine hK4 _ _ ?_
  refine x_cond_t (h := ?_)
  refine x_seq fun K5 hK5 => ?_
  refine x_region ?_
  first | refine s_go (m_load_row Try.underlying42 (hi := ti42) (hS := hS)) ?_ | refine s_go (m_loada_obj Try.underlying42 (hi := ti42) (hS := hS)) ?_ | refine s_go (m_loada_bx Try.underlying42 (hi := ti42) (hS := hS)) ?_ | refine s_go (m_loada_rd Try.underlying42 (hi := ti42) (hS := hS)) ?_ | refine s_go (m_loada_vec Try.underlying42 (hi := ti42) (hS := hS)) ?_
  try simp only [opv, n1, n2, n3, n4, Value.cells, List.getElem_toArray, List.getElem_cons_zero, List.getElem_cons_succ]
  first | refine m_store_obj ti42 (hS := hS) (h := fun w4 hS => ?_) | refine m_store_vec ti42 (hS := hS) (h := fun w4 hS => ?_)
  try simp only [opv, n1, n2, n3, n4, Value.cells, Array.toArray_toList] at hS ⊢
  refine x_nil ?_
  refine hK5 _ _ ?_
  refine x_ret ?_
  refine r_cell_agg rfl Try.underlying42 ti42 (hS := hS) (hR := ?_)
  exact ⟨rfl, hS.ext_of⟩

theorem c_onceBs0 (fv : Value)  (w0 : World) :
    CallR Try.prog 202 #[.pointer none, fv] w0 fun v w' => v = .slice none 0 0 ∧ Ext w0 w' := by
  have hS : St NoB w0 w0 [] := St.start w0
  refine c_enter (l := [.pointer none, fv, undef, undef, undef, undef, undef, undef, undef, undef, undef, undef, undef, undef, undef, undef, undef, undef]) Try.func202 rfl (by simp only [Try.ntmps202, List.size_toArray, List.length_cons, List.length_nil, Nat.reduceAdd, Nat.reduceSub, Array.replicate_succ, Array.replicate_zero, List.push_toArray, List.append_toArray, List.nil_append, List.cons_append]) ?_
  refine x_seq fun K1 hK1 => ?_
  refine x_region ?_
  refine s_go (s_assign) ?_
  try simp only [opv, n1, n2, n3, n4, Value.cells]
  refine x_nil ?_
  refine hK1 _ _ ?_
  refine x_seq fun K2 hK2 => ?_
  refine x_region ?_
  refine s_go (s_assign) ?_
  try simp only [opv, n1, n2, n3, n4, Value.cells]
  refine x_nil ?_
  refine hK2 _ _ ?_
  refine x_seq fun K3 hK3 => ?_
  refine x_seq fun K4 hK4 => ?_
  refine x_region ?_
  refine s_go (s_move) ?_
  try simp only [opv, n1, n2, n3, n4, Value.cells]
  refine s_call en204 ?_
  try simp only [opv, n1, n2, n3, n4, Value.cells, List.map_toArray, List.map_cons, List.map_nil, List.append_toArray, List.cons_append, List.nil_append, Array.append_empty]
  refine CallR.mono (c_cwell0 _) ?_
  rintro _ w1 ⟨rfl, hE1⟩
  replace hS := hS.ext hE1
  try simp only [opv, n1, n2, n3, n4, Value.cells]
  refine s_go (s_not) ?_
  try simp only [opv, n1, n2, n3, n4, Value.cells]
  refine x_nil ?_
  refine hK4 _ _ ?_
  refine x_cond_t (h := ?_)
  refine x_seq fun K5 hK5 => ?_
  refine x_region ?_
  refine s_go (s_move) ?_
  try simp only [opv, n1, n2, n3, n4, Value.cells]
  refine s_go (s_assign) ?_
  try simp only [opv, n1, n2, n3, n4, Value.cells]
  refine x_nil ?_
  refine hK5 _ _ ?_
  refine x_ret ?_
  refine r_tmp rfl ?_
  exact ⟨rfl, hS.ext_of⟩

theorem c_cNum0 (m : Nat)  (w0 : World) :
    CallR Try.prog 122 #[.pointer none, .int .u64 (m : Int)] w0 fun v w' => v = .int .u64 0 ∧ Ext w0 w' := by
  have hS : St NoB w0 w0 [] := St.start w0
  refine c_enter (l := [.pointer none, .int .u64 (m : Int), undef, undef, undef, undef, undef, undef]) Try.func122 rfl (by simp only [Try.ntmps122, List.size_toArray, List.length_cons, List.length_nil, Nat.reduceAdd, Nat.reduceSub, Array.replicate_succ, Array.replicate_zero, List.push_toArray, List.append_toArray, List.nil_append, List.cons_append]) ?_
  refine x_seq fun K1 hK1 => ?_
  refine x_region ?_
  refine m_box hS (fun w1 g1 hS => ?_)
  try simp only [opv, n1, n2, n3, n4, Value.cells, Array.toArray_toList] at hS ⊢
  refine s_go (s_assign) ?_
  try simp only [opv, n1, n2, n3, n4, Value.cells]
  refine x_nil ?_
  refine hK1 _ _ ?_
  refine x_seq fun K2 hK2 => ?_
  refine x_region ?_
  refine s_go (s_move) ?_
  try simp only [opv, n1, n2, n3, n4, Value.cells]
  refine s_go (s_makeFunc) ?_
  try simp only [opv, n1, n2, n3, n4, Value.cells, List.map_toArray, List.map_cons, List.map_nil]
  refine s_call en194 ?_
  try simp only [opv, n1, n2, n3, n4, Value.cells, List.map_toArray, List.map_cons, List.map_nil, List.append_toArray, List.cons_append, List.nil_append, Array.append_empty]
  refine CallR.mono (c_onceN0 _ _) ?_
  rintro _ w2 ⟨rfl, hE2⟩
  replace hS := hS.ext hE2
  try simp only [opv, n1, n2, n3, n4, Value.cells]
  refine s_go (s_assign) ?_
  try simp only [opv, n1, n2, n3, n4, Value.cells]
  refine x_nil ?_
  refine hK2 _ _ ?_
  refine x_ret ?_
  refine r_tmp rfl ?_
  exact ⟨rfl, hS.ext_of⟩

theorem c_cByte0  (w0 : World) :
    CallR Try.prog 123 #[.pointer none] w0 fun v w' => v = .int .u8 0 ∧ Ext w0 w' := by
  have hS : St NoB w0 w0 [] := St.start w0
  refine c_enter (l := [.pointer none, undef, undef, undef, undef]) Try.func123 rfl (by simp only [Try.ntmps123, List.size_toArray, List.length_cons, List.length_nil, Nat.reduceAdd, Nat.reduceSub, Array.replicate_succ, Array.replicate_zero, List.push_toArray, List.append_toArray, List.nil_append, List.cons_append]) ?_
  refine x_seq fun K1 hK1 => ?_
  refine x_region ?_
  refine s_go (s_assign) ?_
  try simp only [opv, n1, n2, n3, n4, Value.cells]
  refine x_nil ?_
  refine hK1 _ _ ?_
  refine x_seq fun K2 hK2 => ?_
  refine x_region ?_
  refine s_go (s_move) ?_
  try simp only [opv, n1, n2, n3, n4, Value.cells]
  refine s_call en198 ?_
  try simp only [opv, n1, n2, n3, n4, Value.cells, List.map_toArray, List.map_cons, List.map_nil, List.append_toArray, List.cons_append, List.nil_append, Array.append_empty]
  refine CallR.mono (c_onceB0 _ _) ?_
  rintro _ w1 ⟨rfl, hE1⟩
  replace hS := hS.ext hE1
  try simp only [opv, n1, n2, n3, n4, Value.cells]
  refine s_go (s_assign) ?_
  try simp only [opv, n1, n2, n3, n4, Value.cells]
  refine x_nil ?_
  refine hK2 _ _ ?_
  refine x_ret ?_
  refine r_tmp rfl ?_
  exact ⟨rfl, hS.ext_of⟩

theorem c_cName0  (w0 : World) :
    CallR Try.prog 124 #[.pointer none] w0 fun v w' => v = .agg (ic .u8 nm0) ∧ Ext w0 w' := by
  have hS : St NoB w0 w0 [] := St.start w0
  refine c_enter (l := [.pointer none, undef, undef, undef, undef]) Try.func124 rfl (by simp only [Try.ntmps124, List.size_toArray, List.length_cons, List.length_nil, Nat.reduceAdd, Nat.reduceSub, Array.replicate_succ, Array.replicate_zero, List.push_toArray, List.append_toArray, List.nil_append, List.cons_append]) ?_
  refine x_seq fun K1 hK1 => ?_
  refine x_region ?_
  have h0l : nm0.length = 8 := rfl
  refine m_alloc ti42 hS (fun w1 g1 hS => ?_)
  try simp only [opv, n1, n2, n3, n4, Value.cells, Array.toArray_toList] at hS ⊢
  refine x_nil ?_
  refine hK1 _ _ ?_
  refine x_seq fun K2 hK2 => ?_
  refine x_region ?_
  refine s_go (s_move) ?_
  try simp only [opv, n1, n2, n3, n4, Value.cells]
  refine s_call en200 ?_
  try simp only [opv, n1, n2, n3, n4, Value.cells, List.map_toArray, List.map_cons, List.map_nil, List.append_toArray, List.cons_append, List.nil_append, Array.append_empty]
  refine CallR.mono (c_onceNm0 _ _) ?_
  rintro _ w2 ⟨rfl, hE2⟩
  replace hS := hS.ext hE2
  try simp only [opv, n1, n2, n3, n4, Value.cells]
  first | refine m_store_obj ti42 (hS := hS) (h := fun w3 hS => ?_) | refine m_store_vec ti42 (hS := hS) (h := fun w3 hS => ?_)
  try simp only [opv, n1, n2, n3, n4, Value.cells, Array.toArray_toList] at hS ⊢
  refine x_nil ?_
  refine hK2 _ _ ?_
  refine x_ret ?_
  refine r_cell_agg rfl Try.underlying42 ti42 (hS := hS) (hR := ?_)
  exact ⟨rfl, hS.ext_of⟩

theorem c_cBytes0 (m : Int)  (w0 : World) :
    CallR Try.prog 125 #[.pointer none, .int .i64 m] w0 fun v w' => v = .slice none 0 0 ∧ Ext w0 w' := by
  have hS : St NoB w0 w0 [] := St.start w0
  refine c_enter (l := [.pointer none, .int .i64 m, undef, undef, undef, undef, undef, undef]) Try.func125 rfl (by simp only [Try.ntmps125, List.size_toArray, List.length_cons, List.length_nil, Nat.reduceAdd, Nat.reduceSub, Array.replicate_succ, Array.replicate_zero, List.push_toArray, List.append_toArray, List.nil_append, List.cons_append]) ?_
  refine x_seq fun K1 hK1 => ?_
  refine x_region ?_
  refine m_box hS (fun w1 g1 hS => ?_)
  try simp only [opv, n1, n2, n3, n4, Value.cells, Array.toArray_toList] at hS ⊢
  refine s_go (s_assign) ?_
  try simp only [opv, n1, n2, n3, n4, Value.cells]
  refine x_nil ?_
  refine hK1 _ _ ?_
  refine x_seq fun K2 hK2 => ?_
  refine x_region ?_
  refine s_go (s_move) ?_
  try simp only [opv, n1, n2, n3, n4, Value.cells]
  refine s_go (s_makeFunc) ?_
  try simp only [opv, n1, n2, n3, n4, Value.cells, List.map_toArray, List.map_cons, List.map_nil]
  refine s_call en202 ?_
  try simp only [opv, n1, n2, n3, n4, Value.cells, List.map_toArray, List.map_cons, List.map_nil, List.append_toArray, List.cons_append, List.nil_append, Array.append_empty]
  refine CallR.mono (c_onceBs0 _ _) ?_
  rintro _ w2 ⟨rfl, hE2⟩
  replace hS := hS.ext hE2
  try simp only [opv, n1, n2, n3, n4, Value.cells]
  refine s_go (s_assign) ?_
  try simp only [opv, n1, n2, n3, n4, Value.cells]
  refine x_nil ?_
  refine hK2 _ _ ?_
  refine x_ret ?_
  refine r_tmp rfl ?_
  exact ⟨rfl, hS.ext_of⟩

theorem c_law07read0 (p : Pc)  (w0 : World) :
    CallR Try.prog 33 #[.pointer none, .agg (pP p)] w0 fun v w' => v = .agg (pA p.d 0 0 nm0 none 0 0 0) ∧ Ext w0 w' := by
  have hS : St NoB w0 w0 [] := St.start w0
  refine c_enter (l := [.pointer none, .agg (pP p), undef, undef, undef, undef, undef, undef, undef, undef, undef, undef, undef, undef, undef, undef, undef, undef, undef, undef, undef, undef, undef, undef, undef, undef, undef, undef, undef, undef, undef, undef, undef, undef]) Try.func33 rfl (by simp only [Try.ntmps33, List.size_toArray, List.length_cons, List.length_nil, Nat.reduceAdd, Nat.reduceSub, Array.replicate_succ, Array.replicate_zero, List.push_toArray, List.append_toArray, List.nil_append, List.cons_append]) ?_
  refine x_seq fun K1 hK1 => ?_
  refine x_region ?_
  have h0l : nm0.length = 8 := rfl
  refine m_box hS (fun w1 g1 hS => ?_)
  try simp only [opv, n1, n2, n3, n4, Value.cells, Array.toArray_toList] at hS ⊢
  refine m_alloc ti45 hS (fun w2 g2 hS => ?_)
  try simp only [opv, n1, n2, n3, n4, Value.cells, Array.toArray_toList] at hS ⊢
  refine x_nil ?_
  refine hK1 _ _ ?_
  refine x_seq fun K2 hK2 => ?_
  refine x_region ?_
  first | refine s_go (m_fieldAddr Try.underlying45 (hi := ti3)) ?_ | refine s_go (m_fieldAddr_rd Try.underlying45 (hi := ti3) (hS := hS)) ?_ | refine s_go (m_fieldAddr_vec Try.underlying45 (hi := ti3) (hS := hS)) ?_
  try simp only [opv, n1, n2, n3, n4, Value.cells, Nat.zero_add, Nat.add_zero, List.getElem_toArray, List.getElem_cons_zero, List.getElem_cons_succ]
  first | refine s_go (m_load_obj Try.underlying3 (hS := hS)) ?_ | refine s_go (m_load_bx Try.underlying3 (hS := hS)) ?_ | refine s_go (m_load_rd Try.underlying3 (hS := hS)) ?_ | refine s_go (m_load_vec Try.underlying3 (hS := hS)) ?_
  try simp only [opv, n1, n2, n3, n4, Value.cells, List.getElem_toArray, List.getElem_cons_zero, List.getElem_cons_succ]
  refine s_go (s_build_struct (cells := #[_, .int .u64 0, .int .u8 0, .int .u8 0, .int .u8 0, .int .u8 0, .int .u8 0, .int .u8 0, .int .u8 0, .int .u8 0, .int .u8 0, .slice none 0 0, .int .i64 0]) Try.underlying45 ti45 bp45 (hc := by simp only [List.map_toArray, List.map_cons, List.map_nil, opv, n1, n2, n3, n4, Value.cells, List.toList_toArray]; (repeat (refine fill_cons rfl rfl (Nat.le_of_ble_eq_true rfl) ?_)); rfl)) ?_
  try simp only [opv, n1, n2, n3, n4, Value.cells]
  refine m_alloc ti45 hS (fun w3 g3 hS => ?_)
  try simp only [opv, n1, n2, n3, n4, Value.cells, Array.toArray_toList] at hS ⊢
  first | refine m_store_obj ti45 (hS := hS) (h := fun w4 hS => ?_) | refine m_store_vec ti45 (hS := hS) (h := fun w4 hS => ?_)
  try simp only [opv, n1, n2, n3, n4, Value.cells, Array.toArray_toList] at hS ⊢
  replace hS : St NoB w0 w4 (.obj _ (.cells (pA p.d 0 0 nm0 none 0 0 0) 45 (0, 0)) :: _) := hS
  refine x_nil ?_
  refine hK2 _ _ ?_
  refine x_seq fun K3 hK3 => ?_
  refine x_seq fun K4 hK4 => ?_
  refine x_region ?_
  first | refine s_go (m_fieldAddr Try.underlying45 (hi := ti3)) ?_ | refine s_go (m_fieldAddr_rd Try.underlying45 (hi := ti3) (hS := hS)) ?_ | refine s_go (m_fieldAddr_vec Try.underlying45 (hi := ti3) (hS := hS)) ?_
  try simp only [opv, n1, n2, n3, n4, Value.cells, Nat.zero_add, Nat.add_zero, List.getElem_toArray, List.getElem_cons_zero, List.getElem_cons_succ]
  first | refine s_go (m_load_obj Try.underlying3 (hS := hS)) ?_ | refine s_go (m_load_bx Try.underlying3 (hS := hS)) ?_ | refine s_go (m_load_rd Try.underlying3 (hS := hS)) ?_ | refine s_go (m_load_vec Try.underlying3 (hS := hS)) ?_
  try simp only [opv, n1, n2, n3, n4, Value.cells, List.getElem_toArray, List.getElem_cons_zero, List.getElem_cons_succ]
  refine x_nil ?_
  refine hK4 _ _ ?_
  refine x_block ?_
  refine x_seq fun K5 hK5 => ?_
  refine x_region ?_
  refine s_go (s_eql) ?_
  try simp only [opv, n1, n2, n3, n4, Value.cells]
  refine s_go (s_assign) ?_
  try simp only [opv, n1, n2, n3, n4, Value.cells]
  refine x_nil ?_
  refine hK5 _ _ ?_
  refine x_cond (ht := fun hc1 => ?_) (hf := fun hc1 => ?_)
  ·
    try simp only [decide_eq_true_eq, decide_eq_false_iff_not, Bool.not_eq_true', Bool.not_eq_false', Int.not_lt, Int.not_le, ne_eq, Decidable.not_not, bne_iff_ne, beq_iff_eq, not_true_eq_false, not_false_eq_true] at hc1
    refine x_region ?_
    refine s_go (s_move) ?_
    try simp only [opv, n1, n2, n3, n4, Value.cells]
    first | refine s_go (m_fieldAddr Try.underlying45 (hi := ti40)) ?_ | refine s_go (m_fieldAddr_rd Try.underlying45 (hi := ti40) (hS := hS)) ?_ | refine s_go (m_fieldAddr_vec Try.underlying45 (hi := ti40) (hS := hS)) ?_
    try simp only [opv, n1, n2, n3, n4, Value.cells, Nat.zero_add, Nat.add_zero, List.getElem_toArray, List.getElem_cons_zero, List.getElem_cons_succ]
    first | refine s_go (m_load_obj Try.underlying40 (hS := hS)) ?_ | refine s_go (m_load_bx Try.underlying40 (hS := hS)) ?_ | refine s_go (m_load_rd Try.underlying40 (hS := hS)) ?_ | refine s_go (m_load_vec Try.underlying40 (hS := hS)) ?_
    try simp only [opv, n1, n2, n3, n4, Value.cells, List.getElem_toArray, List.getElem_cons_zero, List.getElem_cons_succ]
    refine s_call en122 ?_
    try simp only [opv, n1, n2, n3, n4, Value.cells, List.map_toArray, List.map_cons, List.map_nil, List.append_toArray, List.cons_append, List.nil_append, Array.append_empty]
    refine CallR.mono (c_cNum0 _ _) ?_
    rintro _ w5 ⟨rfl, hE5⟩
    replace hS := hS.ext hE5
    try simp only [opv, n1, n2, n3, n4, Value.cells]
    first | refine s_go (m_fieldAddr Try.underlying45 (hi := ti40)) ?_ | refine s_go (m_fieldAddr_rd Try.underlying45 (hi := ti40) (hS := hS)) ?_ | refine s_go (m_fieldAddr_vec Try.underlying45 (hi := ti40) (hS := hS)) ?_
    try simp only [opv, n1, n2, n3, n4, Value.cells, Nat.zero_add, Nat.add_zero, List.getElem_toArray, List.getElem_cons_zero, List.getElem_cons_succ]
    first | refine m_store_obj ti40 (hS := hS) (h := fun w6 hS => ?_) | refine m_store_vec ti40 (hS := hS) (h := fun w6 hS => ?_)
    try simp only [opv, n1, n2, n3, n4, Value.cells, Array.toArray_toList] at hS ⊢
    refine x_nil ?_
    refine hK3 _ _ ?_
    refine x_seq fun K6 hK6 => ?_
    refine x_region ?_
    first | refine s_go (m_load_row Try.underlying45 (hi := ti45) (hS := hS)) ?_ | refine s_go (m_loada_obj Try.underlying45 (hi := ti45) (hS := hS)) ?_ | refine s_go (m_loada_bx Try.underlying45 (hi := ti45) (hS := hS)) ?_ | refine s_go (m_loada_rd Try.underlying45 (hi := ti45) (hS := hS)) ?_ | refine s_go (m_loada_vec Try.underlying45 (hi := ti45) (hS := hS)) ?_
    try simp only [opv, n1, n2, n3, n4, Value.cells, List.getElem_toArray, List.getElem_cons_zero, List.getElem_cons_succ]
    first | refine m_store_obj ti45 (hS := hS) (h := fun w7 hS => ?_) | refine m_store_vec ti45 (hS := hS) (h := fun w7 hS => ?_)
    try simp only [opv, n1, n2, n3, n4, Value.cells, Array.toArray_toList] at hS ⊢
    refine x_nil ?_
    refine hK6 _ _ ?_
    refine x_ret ?_
    refine r_cell_agg rfl Try.underlying45 ti45 (hS := hS) (hR := ?_)
    exact ⟨rfl, hS.ext_of⟩
  ·
    try simp only [decide_eq_true_eq, decide_eq_false_iff_not, Bool.not_eq_true', Bool.not_eq_false', Int.not_lt, Int.not_le, ne_eq, Decidable.not_not, bne_iff_ne, beq_iff_eq, not_true_eq_false, not_false_eq_true] at hc1
    refine x_seq fun K7 hK7 => ?_
    refine x_region ?_
    refine s_go (s_eql) ?_
    try simp only [opv, n1, n2, n3, n4, Value.cells]
    refine s_go (s_assign) ?_
    try simp only [opv, n1, n2, n3, n4, Value.cells]
    refine x_nil ?_
    refine hK7 _ _ ?_
    refine x_cond (ht := fun hc2 => ?_) (hf := fun hc2 => ?_)
    ·
      try simp only [decide_eq_true_eq, decide_eq_false_iff_not, Bool.not_eq_true', Bool.not_eq_false', Int.not_lt, Int.not_le, ne_eq, Decidable.not_not, bne_iff_ne, beq_iff_eq, not_true_eq_false, not_false_eq_true] at hc2
      refine x_region ?_
      refine s_go (s_move) ?_
      try simp only [opv, n1, n2, n3, n4, Value.cells]
      refine s_call en123 ?_
      try simp only [opv, n1, n2, n3, n4, Value.cells, List.map_toArray, List.map_cons, List.map_nil, List.append_toArray, List.cons_append, List.nil_append, Array.append_empty]
      refine CallR.mono (c_cByte0 _) ?_
      rintro _ w8 ⟨rfl, hE8⟩
      replace hS := hS.ext hE8
      try simp only [opv, n1, n2, n3, n4, Value.cells]
      first | refine s_go (m_fieldAddr Try.underlying45 (hi := ti5)) ?_ | refine s_go (m_fieldAddr_rd Try.underlying45 (hi := ti5) (hS := hS)) ?_ | refine s_go (m_fieldAddr_vec Try.underlying45 (hi := ti5) (hS := hS)) ?_
      try simp only [opv, n1, n2, n3, n4, Value.cells, Nat.zero_add, Nat.add_zero, List.getElem_toArray, List.getElem_cons_zero, List.getElem_cons_succ]
      first | refine m_store_obj ti5 (hS := hS) (h := fun w9 hS => ?_) | refine m_store_vec ti5 (hS := hS) (h := fun w9 hS => ?_)
      try simp only [opv, n1, n2, n3, n4, Value.cells, Array.toArray_toList] at hS ⊢
      refine x_nil ?_
      refine hK3 _ _ ?_
      refine x_seq fun K8 hK8 => ?_
      refine x_region ?_
      first | refine s_go (m_load_row Try.underlying45 (hi := ti45) (hS := hS)) ?_ | refine s_go (m_loada_obj Try.underlying45 (hi := ti45) (hS := hS)) ?_ | refine s_go (m_loada_bx Try.underlying45 (hi := ti45) (hS := hS)) ?_ | refine s_go (m_loada_rd Try.underlying45 (hi := ti45) (hS := hS)) ?_ | refine s_go (m_loada_vec Try.underlying45 (hi := ti45) (hS := hS)) ?_
      try simp only [opv, n1, n2, n3, n4, Value.cells, List.getElem_toArray, List.getElem_cons_zero, List.getElem_cons_succ]
      first | refine m_store_obj ti45 (hS := hS) (h := fun w10 hS => ?_) | refine m_store_vec ti45 (hS := hS) (h := fun w10 hS => ?_)
      try simp only [opv, n1, n2, n3, n4, Value.cells, Array.toArray_toList] at hS ⊢
      refine x_nil ?_
      refine hK8 _ _ ?_
      refine x_ret ?_
      refine r_cell_agg rfl Try.underlying45 ti45 (hS := hS) (hR := ?_)
      exact ⟨rfl, hS.ext_of⟩
    ·
      try simp only [decide_eq_true_eq, decide_eq_false_iff_not, Bool.not_eq_true', Bool.not_eq_false', Int.not_lt, Int.not_le, ne_eq, Decidable.not_not, bne_iff_ne, beq_iff_eq, not_true_eq_false, not_false_eq_true] at hc2
      refine x_seq fun K9 hK9 => ?_
      refine x_region ?_
      refine s_go (s_eql) ?_
      try simp only [opv, n1, n2, n3, n4, Value.cells]
      refine s_go (s_assign) ?_
      try simp only [opv, n1, n2, n3, n4, Value.cells]
      refine x_nil ?_
      refine hK9 _ _ ?_
      refine x_cond (ht := fun hc3 => ?_) (hf := fun hc3 => ?_)
      ·
        try simp only [decide_eq_true_eq, decide_eq_false_iff_not, Bool.not_eq_true', Bool.not_eq_false', Int.not_lt, Int.not_le, ne_eq, Decidable.not_not, bne_iff_ne, beq_iff_eq, not_true_eq_false, not_false_eq_true] at hc3
        refine x_region ?_
        refine s_go (s_move) ?_
        try simp only [opv, n1, n2, n3, n4, Value.cells]
        refine s_call en124 ?_
        try simp only [opv, n1, n2, n3, n4, Value.cells, List.map_toArray, List.map_cons, List.map_nil, List.append_toArray, List.cons_append, List.nil_append, Array.append_empty]
        refine CallR.mono (c_cName0 _) ?_
        rintro _ w11 ⟨rfl, hE11⟩
        replace hS := hS.ext hE11
        try simp only [opv, n1, n2, n3, n4, Value.cells]
        first | refine s_go (m_fieldAddr Try.underlying45 (hi := ti42)) ?_ | refine s_go (m_fieldAddr_rd Try.underlying45 (hi := ti42) (hS := hS)) ?_ | refine s_go (m_fieldAddr_vec Try.underlying45 (hi := ti42) (hS := hS)) ?_
        try simp only [opv, n1, n2, n3, n4, Value.cells, Nat.zero_add, Nat.add_zero, List.getElem_toArray, List.getElem_cons_zero, List.getElem_cons_succ]
        first | refine m_store_obj ti42 (hS := hS) (hc := pA_nm rfl) (h := fun w12 hS => ?_) | refine m_store_vec ti42 (hS := hS) (hc := pA_nm rfl) (h := fun w12 hS => ?_)
        try simp only [opv, n1, n2, n3, n4, Value.cells, Array.toArray_toList] at hS ⊢
        refine x_nil ?_
        refine hK3 _ _ ?_
        refine x_seq fun K10 hK10 => ?_
        refine x_region ?_
        first | refine s_go (m_load_row Try.underlying45 (hi := ti45) (hS := hS)) ?_ | refine s_go (m_loada_obj Try.underlying45 (hi := ti45) (hS := hS)) ?_ | refine s_go (m_loada_bx Try.underlying45 (hi := ti45) (hS := hS)) ?_ | refine s_go (m_loada_rd Try.underlying45 (hi := ti45) (hS := hS)) ?_ | refine s_go (m_loada_vec Try.underlying45 (hi := ti45) (hS := hS)) ?_
        try simp only [opv, n1, n2, n3, n4, Value.cells, List.getElem_toArray, List.getElem_cons_zero, List.getElem_cons_succ]
        first | refine m_store_obj ti45 (hS := hS) (h := fun w13 hS => ?_) | refine m_store_vec ti45 (hS := hS) (h := fun w13 hS => ?_)
        try simp only [opv, n1, n2, n3, n4, Value.cells, Array.toArray_toList] at hS ⊢
        refine x_nil ?_
        refine hK10 _ _ ?_
        refine x_ret ?_
        refine r_cell_agg rfl Try.underlying45 ti45 (hS := hS) (hR := ?_)
        exact ⟨rfl, hS.ext_of⟩
      ·
        try simp only [decide_eq_true_eq, decide_eq_false_iff_not, Bool.not_eq_true', Bool.not_eq_false', Int.not_lt, Int.not_le, ne_eq, Decidable.not_not, bne_iff_ne, beq_iff_eq, not_true_eq_false, not_false_eq_true] at hc3
        refine x_region ?_
        refine s_go (s_move) ?_
        try simp only [opv, n1, n2, n3, n4, Value.cells]
        first | refine s_go (m_fieldAddr Try.underlying45 (hi := ti3)) ?_ | refine s_go (m_fieldAddr_rd Try.underlying45 (hi := ti3) (hS := hS)) ?_ | refine s_go (m_fieldAddr_vec Try.underlying45 (hi := ti3) (hS := hS)) ?_
        try simp only [opv, n1, n2, n3, n4, Value.cells, Nat.zero_add, Nat.add_zero, List.getElem_toArray, List.getElem_cons_zero, List.getElem_cons_succ]
        first | refine s_go (m_load_obj Try.underlying3 (hS := hS)) ?_ | refine s_go (m_load_bx Try.underlying3 (hS := hS)) ?_ | refine s_go (m_load_rd Try.underlying3 (hS := hS)) ?_ | refine s_go (m_load_vec Try.underlying3 (hS := hS)) ?_
        try simp only [opv, n1, n2, n3, n4, Value.cells, List.getElem_toArray, List.getElem_cons_zero, List.getElem_cons_succ]
        refine s_call en125 ?_
        try simp only [opv, n1, n2, n3, n4, Value.cells, List.map_toArray, List.map_cons, List.map_nil, List.append_toArray, List.cons_append, List.nil_append, Array.append_empty]
        refine CallR.mono (c_cBytes0 _ _) ?_
        rintro _ w14 ⟨rfl, hE14⟩
        replace hS := hS.ext hE14
        try simp only [opv, n1, n2, n3, n4, Value.cells]
        first | refine s_go (m_fieldAddr Try.underlying45 (hi := ti43)) ?_ | refine s_go (m_fieldAddr_rd Try.underlying45 (hi := ti43) (hS := hS)) ?_ | refine s_go (m_fieldAddr_vec Try.underlying45 (hi := ti43) (hS := hS)) ?_
        try simp only [opv, n1, n2, n3, n4, Value.cells, Nat.zero_add, Nat.add_zero, List.getElem_toArray, List.getElem_cons_zero, List.getElem_cons_succ]
        first | refine m_store_obj ti43 (hS := hS) (h := fun w15 hS => ?_) | refine m_store_vec ti43 (hS := hS) (h := fun w15 hS => ?_)
        try simp only [opv, n1, n2, n3, n4, Value.cells, Array.toArray_toList] at hS ⊢
        refine x_nil ?_
        refine hK3 _ _ ?_
        refine x_seq fun K11 hK11 => ?_
        refine x_region ?_
        first | refine s_go (m_load_row Try.underlying45 (hi := ti45) (hS := hS)) ?_ | refine s_go (m_loada_obj Try.underlying45 (hi := ti45) (hS := hS)) ?_ | refine s_go (m_loada_bx Try.underlying45 (hi := ti45) (hS := hS)) ?_ | refine s_go (m_loada_rd Try.underlying45 (hi := ti45) (hS := hS)) ?_ | refine s_go (m_loada_vec Try.underlying45 (hi := ti45) (hS := hS)) ?_
        try simp only [opv, n1, n2, n3, n4, Value.cells, List.getElem_toArray, List.getElem_cons_zero, List.getElem_cons_succ]
        first | refine m_store_obj ti45 (hS := hS) (h := fun w16 hS => ?_) | refine m_store_vec ti45 (hS := hS) (h := fun w16 hS => ?_)
        try simp only [opv, n1, n2, n3, n4, Value.cells, Array.toArray_toList] at hS ⊢
        refine x_nil ?_
        refine hK11 _ _ ?_
        refine x_ret ?_
        refine r_cell_agg rfl Try.underlying45 ti45 (hS := hS) (hR := ?_)
        exact ⟨rfl, hS.ext_of⟩
end Go.Proofs.Ytpjpaipkkcengaa
