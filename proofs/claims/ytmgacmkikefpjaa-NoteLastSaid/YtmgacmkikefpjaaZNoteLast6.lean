/- Rules, plain words and walks that the claim leans on: Nd, Oa, Oc, Lzopen, Lzopen3, Tb, Vj, Tc. -/
import Derived.Test.YtmgacmkikefpjaaZNoteLast5
set_option linter.unusedSimpArgs false
set_option linter.unusedVariables false
set_option linter.unusedSimpArgs false
set_option linter.unusedVariables false
set_option maxHeartbeats 2000000
set_option maxRecDepth 100000
namespace Go.Proofs.Ytmgacmkikefpjaa
open Go.RowKit
theorem c_NoteLast (w0 : World) (A : Option Addr) (c : Nat) (l : List (List Int)) (hr : Rd w0 A 21 l.length (arows l)) (hv : AOks l) (hn : l.length ≤ 900000000000000) (r : Nat) (hr8 : r < 256) (ct : Nat) (hct : ct < 65536) (tx : List Int) (h8 : tx.length = 8) (hbt : Byt tx) (r2 : Nat) (hr82 : r2 < 256) (ct2 : Nat) (hct2 : ct2 < 65536) (tx2 : List Int) (h82 : tx2.length = 8) (hbt2 : Byt tx2)  :
    CallR Try.prog 7 #[.slice A l.length c, .agg (KAsk r ct tx), .agg (KAsk r2 ct2 tx2)] w0 fun v w' => v = .bool true ∧ Ext w0 w' := by
 have hS := St.rd1 (S := NoB) hr
 have hakl := ask_len (r := r) (c := ct) h8
 have hakl2 := ask_len (r := r2) (c := ct2) h82
 have hn0l : nm0.length = 8 := rfl
 have hpl := noteP_len l r tx ct
 refine c_enter (l := [.slice A l.length c, .agg (KAsk r ct tx), .agg (KAsk r2 ct2 tx2), undef, undef, undef, undef, undef, undef, undef, undef, undef, undef, undef, undef, undef, undef, undef, undef, undef, undef, undef, undef, undef, undef, undef, undef, undef, undef, undef, undef, undef, undef, undef, undef, undef, undef, undef, undef, undef, undef, undef, undef, undef, undef, undef, undef, undef, undef, undef, undef, undef, undef, undef, undef, undef, undef, undef, undef, undef, undef, undef, undef, undef, undef, undef, undef, undef, undef, undef, undef, undef, undef, undef, undef, undef, undef, undef, undef, undef, undef, undef, undef, undef, undef, undef, undef, undef, undef, undef, undef, undef, undef, undef, undef, undef, undef, undef, undef, undef, undef, undef, undef, undef, undef, undef, undef, undef, undef, undef, undef, undef, undef, undef, undef, undef, undef, undef, undef, undef, undef, undef, undef, undef, undef, undef, undef, undef, undef, undef, undef, undef, undef, undef, undef, undef, undef, undef, undef, undef, undef, undef, undef, undef, undef, undef, undef, undef, undef, undef, undef, undef, undef, undef, undef, undef, undef, undef, undef, undef, undef, undef, undef, undef, undef, undef, undef, undef, undef, undef, undef, undef, undef, undef, undef, undef, undef, undef, undef, undef, undef, undef, undef, undef, undef, undef, undef, undef]) Try.func7 rfl (by simp only [Try.ntmps7, List.size_toArray, List.length_cons, List.length_nil, Nat.reduceAdd, Nat.reduceSub, Array.replicate_succ, Array.replicate_zero, List.push_toArray, List.append_toArray, List.nil_append, List.cons_append]) ?_
 refine x_seq fun K1 hK1 => ?_
 refine x_region ?_
 refine m_box hS (fun w1 g1 hS => ?_)
 try simp only [opv, n1, n2, n3, n4, Value.cells, Array.toArray_toList] at hS ⊢
 obtain ⟨ga, hga⟩ : ∃ z, z = g1 := ⟨_, rfl⟩
 rw [← hga] at hS ⊢
 refine m_box hS (fun w2 g2 hS => ?_)
 try simp only [opv, n1, n2, n3, n4, Value.cells, Array.toArray_toList] at hS ⊢
 obtain ⟨gb, hgb⟩ : ∃ z, z = g2 := ⟨_, rfl⟩
 rw [← hgb] at hS ⊢
 refine s_go (s_assign) ?_
 try simp only [opv, n1, n2, n3, n4, Value.cells]
 refine x_nil ?_
 refine hK1 _ _ ?_
 refine x_seq fun K2 hK2 => ?_
 refine x_seq fun K3 hK3 => ?_
 refine x_region ?_
 refine s_go (s_move) ?_
 try simp only [opv, n1, n2, n3, n4, Value.cells]
 refine s_go (s_len_sl Try.underlying24) ?_
 try simp only [opv, n1, n2, n3, n4, Value.cells]
 refine s_go (s_gtr) ?_
 try simp only [opv, n1, n2, n3, n4, Value.cells]
 refine x_nil ?_
 refine hK3 _ _ ?_
 refine x_cond (ht := fun hc1 => ?_) (hf := fun hc1 => ?_)
 ·
  try simp only [decide_eq_true_eq, decide_eq_false_iff_not, Bool.not_eq_true', Bool.not_eq_false', Int.not_lt, Int.not_le, ne_eq, Decidable.not_not, bne_iff_ne, beq_iff_eq, not_true_eq_false, not_false_eq_true] at hc1
  first
  | (exfalso; omega)
  | skip
    refine x_seq fun K4 hK4 => ?_
    refine x_region ?_
    refine s_call en41 ?_
    try simp only [opv, n1, n2, n3, n4, Value.cells, List.map_toArray, List.map_cons, List.map_nil, List.append_toArray, List.cons_append, List.nil_append, Array.append_empty]
    refine CallR.mono (c_law16alive _) ?_
    rintro _ w3 ⟨rfl, hE3⟩
    replace hS := hS.ext hE3
    try simp only [opv, n1, n2, n3, n4, Value.cells]
    refine s_go (s_assign) ?_
    try simp only [opv, n1, n2, n3, n4, Value.cells]
    refine x_nil ?_
    refine hK4 _ _ ?_
    refine x_ret ?_
    refine r_tmp rfl ?_
    exact ⟨rfl, hS.ext_of⟩
 ·
  try simp only [decide_eq_true_eq, decide_eq_false_iff_not, Bool.not_eq_true', Bool.not_eq_false', Int.not_lt, Int.not_le, ne_eq, Decidable.not_not, bne_iff_ne, beq_iff_eq, not_true_eq_false, not_false_eq_true] at hc1
  first
  | (exfalso; omega)
  | skip
    have hn2 : l.length ≤ 40 := by omega
    refine x_skip ?_
    refine hK2 _ _ ?_
    refine x_seq fun K5 hK5 => ?_
    refine x_region ?_
    refine s_go (s_move) ?_
    try simp only [opv, n1, n2, n3, n4, Value.cells]
    first | refine s_go (m_fieldAddr Try.underlying52 (hi := ti5)) ?_ | refine s_go (m_fieldAddr_rd Try.underlying52 (hi := ti5) (hS := hS)) ?_ | refine s_go (m_fieldAddr_vec Try.underlying52 (hi := ti5) (hS := hS)) ?_
    try simp only [opv, n1, n2, n3, n4, Value.cells, Nat.zero_add, Nat.add_zero, List.getElem_toArray, List.getElem_cons_zero, List.getElem_cons_succ]
    first | refine s_go (m_load_obj Try.underlying5 (hS := hS) (hv := by first | rfl | exact zi_get rfl (by omega) | exact ic_get (by omega) | exact il_get (by omega))) ?_ | refine s_go (m_load_bx Try.underlying5 (hS := hS) (hv := by first | rfl | exact zi_get rfl (by omega) | exact ic_get (by omega) | exact il_get (by omega))) ?_ | refine s_go (m_load_rd Try.underlying5 (hS := hS) (hv := by first | rfl | exact zi_get rfl (by omega) | exact ic_get (by omega) | exact il_get (by omega))) ?_ | refine s_go (m_load_vec Try.underlying5 (hS := hS) (hv := by first | rfl | exact zi_get rfl (by omega) | exact ic_get (by omega) | exact il_get (by omega))) ?_
    try simp only [opv, n1, n2, n3, n4, Value.cells, List.getElem_toArray, List.getElem_cons_zero, List.getElem_cons_succ]
    try rw [show (askL r ct tx).getD 0 0 = (r : Int) from rfl]
    first | refine s_go (m_fieldAddr Try.underlying52 (hi := ti29)) ?_ | refine s_go (m_fieldAddr_rd Try.underlying52 (hi := ti29) (hS := hS)) ?_ | refine s_go (m_fieldAddr_vec Try.underlying52 (hi := ti29) (hS := hS)) ?_
    try simp only [opv, n1, n2, n3, n4, Value.cells, Nat.zero_add, Nat.add_zero, List.getElem_toArray, List.getElem_cons_zero, List.getElem_cons_succ]
    first | refine s_go (m_load_obj Try.underlying29 (hS := hS) (hv := by first | rfl | exact zi_get rfl (by omega) | exact ic_get (by omega) | exact il_get (by omega))) ?_ | refine s_go (m_load_bx Try.underlying29 (hS := hS) (hv := by first | rfl | exact zi_get rfl (by omega) | exact ic_get (by omega) | exact il_get (by omega))) ?_ | refine s_go (m_load_rd Try.underlying29 (hS := hS) (hv := by first | rfl | exact zi_get rfl (by omega) | exact ic_get (by omega) | exact il_get (by omega))) ?_ | refine s_go (m_load_vec Try.underlying29 (hS := hS) (hv := by first | rfl | exact zi_get rfl (by omega) | exact ic_get (by omega) | exact il_get (by omega))) ?_
    try simp only [opv, n1, n2, n3, n4, Value.cells, List.getElem_toArray, List.getElem_cons_zero, List.getElem_cons_succ]
    try rw [show (askL r ct tx).getD 1 0 = (ct : Int) from rfl]
    first | refine s_go (m_fieldAddr Try.underlying52 (hi := ti31)) ?_ | refine s_go (m_fieldAddr_rd Try.underlying52 (hi := ti31) (hS := hS)) ?_ | refine s_go (m_fieldAddr_vec Try.underlying52 (hi := ti31) (hS := hS)) ?_
    try simp only [opv, n1, n2, n3, n4, Value.cells, Nat.zero_add, Nat.add_zero, List.getElem_toArray, List.getElem_cons_zero, List.getElem_cons_succ]
    first | refine s_go (m_load_row Try.underlying31 (hi := ti31) (hS := hS) (hfit := by first | omega | (rw [zi_size (by omega)]; first | rfl | decide) | (simp only [ic_size, List.length_map, List.size_toArray]; first | omega | decide) | rfl | (simp [*]; done) | (simp [*]; omega))) ?_ | refine s_go (m_loada_obj Try.underlying31 (hi := ti31) (hS := hS) (hfit := by first | omega | (rw [zi_size (by omega)]; first | rfl | decide) | (simp only [ic_size, List.length_map, List.size_toArray]; first | omega | decide) | rfl | (simp [*]; done) | (simp [*]; omega))) ?_ | refine s_go (m_loada_bx Try.underlying31 (hi := ti31) (hS := hS) (hfit := by first | omega | (rw [zi_size (by omega)]; first | rfl | decide) | (simp only [ic_size, List.length_map, List.size_toArray]; first | omega | decide) | rfl | (simp [*]; done) | (simp [*]; omega))) ?_ | refine s_go (m_loada_rd Try.underlying31 (hi := ti31) (hS := hS) (hfit := by first | omega | (rw [zi_size (by omega)]; first | rfl | decide) | (simp only [ic_size, List.length_map, List.size_toArray]; first | omega | decide) | rfl | (simp [*]; done) | (simp [*]; omega))) ?_ | refine s_go (m_loada_vec Try.underlying31 (hi := ti31) (hS := hS) (hfit := by first | omega | (rw [zi_size (by omega)]; first | rfl | decide) | (simp only [ic_size, List.length_map, List.size_toArray]; first | omega | decide) | rfl | (simp [*]; done) | (simp [*]; omega))) ?_
    try simp only [opv, n1, n2, n3, n4, Value.cells, List.getElem_toArray, List.getElem_cons_zero, List.getElem_cons_succ]
    rw [ask_text h8]
    refine s_call en42 ?_
    try simp only [opv, n1, n2, n3, n4, Value.cells, List.map_toArray, List.map_cons, List.map_nil, List.append_toArray, List.cons_append, List.nil_append, Array.append_empty]
    refine CallR.mono (c_notePut _ A c l (hS.hasRd (by repeat (first | exact Has.head | apply Has.tail))) hv (by omega) r hr8 ct hct tx h8 hbt) ?_
    rintro _ w4 ⟨Ap, cp, rfl, hC4⟩
    replace hS := hS.call hC4
    simp only [List.cons_append, List.nil_append] at hS
    try simp only [opv, n1, n2, n3, n4, Value.cells]
    refine s_go (s_move) ?_
    try simp only [opv, n1, n2, n3, n4, Value.cells]
    refine s_go (s_extract (hv := rfl)) ?_
    try simp only [List.getElem_toArray, List.getElem_cons_zero, List.getElem_cons_succ]
    try simp only [opv, n1, n2, n3, n4, Value.cells]
    refine s_go (s_extract (hv := rfl)) ?_
    try simp only [List.getElem_toArray, List.getElem_cons_zero, List.getElem_cons_succ]
    try simp only [opv, n1, n2, n3, n4, Value.cells]
    refine s_go (s_assign) ?_
    try simp only [opv, n1, n2, n3, n4, Value.cells]
    refine s_go (s_assign) ?_
    try simp only [opv, n1, n2, n3, n4, Value.cells]
    refine x_nil ?_
    refine hK5 _ _ ?_
    refine x_seq fun K6 hK6 => ?_
    refine x_seq fun K7 hK7 => ?_
    refine x_region ?_
    refine s_go (s_move) ?_
    try simp only [opv, n1, n2, n3, n4, Value.cells]
    refine s_go (s_neq) ?_
    try simp only [opv, n1, n2, n3, n4, Value.cells]
    refine x_nil ?_
    refine hK7 _ _ ?_
    refine x_cond (ht := fun hc2 => ?_) (hf := fun hc2 => ?_)
    ·
     try simp only [decide_eq_true_eq, decide_eq_false_iff_not, Bool.not_eq_true', Bool.not_eq_false', Int.not_lt, Int.not_le, ne_eq, Decidable.not_not, bne_iff_ne, beq_iff_eq, not_true_eq_false, not_false_eq_true] at hc2
     first
     | (exfalso; omega)
     | skip
       have hP := noteP_no (l := l) (r := r) (tx := tx) (c := ct) (by omega)
       rw [hP]
       refine x_seq fun K8 hK8 => ?_
       refine x_region ?_
       refine s_go (s_move) ?_
       try simp only [opv, n1, n2, n3, n4, Value.cells]
       refine s_go (s_len_sl Try.underlying24) ?_
       try simp only [opv, n1, n2, n3, n4, Value.cells]
       refine s_go (s_eql) ?_
       try simp only [opv, n1, n2, n3, n4, Value.cells]
       try simp only [eq_self, decide_true, beq_self_eq_true, Bool.and_self]
       refine s_go (s_move) ?_
       try simp only [opv, n1, n2, n3, n4, Value.cells]
       refine g_on (yi (t := 47) rfl rfl) ?_
       refine s_call en41 ?_
       try simp only [opv, n1, n2, n3, n4, Value.cells, List.map_toArray, List.map_cons, List.map_nil, List.append_toArray, List.cons_append, List.nil_append, Array.append_empty]
       refine CallR.mono (c_law16alive _) ?_
       rintro _ w5 ⟨rfl, hE5⟩
       replace hS := hS.ext hE5
       try simp only [opv, n1, n2, n3, n4, Value.cells]
       first | refine s_go (s_pick_t) ?_ | refine s_go (s_pick_f) ?_
       try simp only [opv, n1, n2, n3, n4, Value.cells]
       refine s_go (s_assign) ?_
       try simp only [opv, n1, n2, n3, n4, Value.cells]
       refine x_nil ?_
       refine hK8 _ _ ?_
       refine x_ret ?_
       refine r_tmp rfl ?_
       exact ⟨rfl, hS.ext_of⟩
    ·
     try simp only [decide_eq_true_eq, decide_eq_false_iff_not, Bool.not_eq_true', Bool.not_eq_false', Int.not_lt, Int.not_le, ne_eq, Decidable.not_not, bne_iff_ne, beq_iff_eq, not_true_eq_false, not_false_eq_true] at hc2
     first
     | (exfalso; omega)
     | skip
       have hE : noteE l r tx ct = 0 := by omega
       rw [noteP_yes hE] at hS ⊢
       have hAs := one_sta (noteA_ok (l := l) hr8 hct h8 hbt) (noteA_r hct h8 hE)
       have hjo := (nl_st hv hr8 hct h8 hbt hE).ok
       have hjl := norm_len (l ++ [noteA l r tx ct])
       rw [List.length_append] at hjl
       simp only [List.length_cons, List.length_nil] at hjl
       obtain ⟨hr16, _, hnn⟩ := noteE_iff hE
       have hNl := noteN_lt l ct
       have htt : (noteT l ct).length = 8 := vtext_len ((fndD_ok (k := noteK ct) (norm_sta hv).ok).len)
       have htt1 : (noteT l ((ct + 1) % 65536)).length = 8 := vtext_len ((fndD_ok (k := noteK ((ct + 1) % 65536)) (norm_sta hv).ok).len)
       have hc1 : ((ct + 1) % 65536) < 65536 := by omega
       have hcne : ¬ ct = ((ct + 1) % 65536) := by omega
       refine x_skip ?_
       refine hK6 _ _ ?_
       refine x_seq fun K9 hK9 => ?_
       refine x_region ?_
       refine s_go (s_move) ?_
       try simp only [opv, n1, n2, n3, n4, Value.cells]
       refine s_go (s_move) ?_
       try simp only [opv, n1, n2, n3, n4, Value.cells]
       refine s_call en34 ?_
       try simp only [opv, n1, n2, n3, n4, Value.cells, List.map_toArray, List.map_cons, List.map_nil, List.append_toArray, List.cons_append, List.nil_append, Array.append_empty]
       refine CallR.mono (c_ref10Join _ A c l (hS.hasRd (by repeat (first | exact Has.head | apply Has.tail))) hv Ap cp [noteA l r tx ct] (hS.vecRd (by repeat (first | exact Has.head | apply Has.tail))) hAs.ok (by simp only [List.length_cons, List.length_nil]; omega)) ?_
       rintro _ w6 ⟨Aj, cj, rfl, hC6⟩
       replace hS := hS.call hC6
       simp only [List.cons_append, List.nil_append] at hS
       try simp only [opv, n1, n2, n3, n4, Value.cells]
       refine s_go (s_assign) ?_
       try simp only [opv, n1, n2, n3, n4, Value.cells]
       refine x_nil ?_
       refine hK9 _ _ ?_
       refine x_seq fun K10 hK10 => ?_
       refine x_region ?_
       refine s_go (s_move) ?_
       try simp only [opv, n1, n2, n3, n4, Value.cells]
       first | refine s_go (m_fieldAddr Try.underlying52 (hi := ti29)) ?_ | refine s_go (m_fieldAddr_rd Try.underlying52 (hi := ti29) (hS := hS)) ?_ | refine s_go (m_fieldAddr_vec Try.underlying52 (hi := ti29) (hS := hS)) ?_
       try simp only [opv, n1, n2, n3, n4, Value.cells, Nat.zero_add, Nat.add_zero, List.getElem_toArray, List.getElem_cons_zero, List.getElem_cons_succ]
       first | refine s_go (m_load_obj Try.underlying29 (hS := hS) (hv := by first | rfl | exact zi_get rfl (by omega) | exact ic_get (by omega) | exact il_get (by omega))) ?_ | refine s_go (m_load_bx Try.underlying29 (hS := hS) (hv := by first | rfl | exact zi_get rfl (by omega) | exact ic_get (by omega) | exact il_get (by omega))) ?_ | refine s_go (m_load_rd Try.underlying29 (hS := hS) (hv := by first | rfl | exact zi_get rfl (by omega) | exact ic_get (by omega) | exact il_get (by omega))) ?_ | refine s_go (m_load_vec Try.underlying29 (hS := hS) (hv := by first | rfl | exact zi_get rfl (by omega) | exact ic_get (by omega) | exact il_get (by omega))) ?_
       try simp only [opv, n1, n2, n3, n4, Value.cells, List.getElem_toArray, List.getElem_cons_zero, List.getElem_cons_succ]
       try rw [show (askL r ct tx).getD 1 0 = (ct : Int) from rfl]
       refine s_call en43 ?_
       try simp only [opv, n1, n2, n3, n4, Value.cells, List.map_toArray, List.map_cons, List.map_nil, List.append_toArray, List.cons_append, List.nil_append, Array.append_empty]
       refine CallR.mono (c_noteGet _ Aj cj (normP (l ++ [noteA l r tx ct])) (hS.vecRd (by repeat (first | exact Has.head | apply Has.tail))) hjo (by omega) ct hct) ?_
       rintro _ w7 ⟨rfl, hE7⟩
       replace hS := hS.ext hE7
       try simp only [opv, n1, n2, n3, n4, Value.cells]
       rw [nl_t hv hr8 hct h8 hbt hE, nl_n hv hr8 hct h8 hbt hE, nl_r hv hr8 hct h8 hbt hE]
       refine s_go (s_move) ?_
       try simp only [opv, n1, n2, n3, n4, Value.cells]
       refine s_go (s_extract (hv := rfl)) ?_
       try simp only [List.getElem_toArray, List.getElem_cons_zero, List.getElem_cons_succ]
       try simp only [opv, n1, n2, n3, n4, Value.cells]
       refine s_go (s_extract (hv := rfl)) ?_
       try simp only [List.getElem_toArray, List.getElem_cons_zero, List.getElem_cons_succ]
       try simp only [opv, n1, n2, n3, n4, Value.cells]
       refine s_go (s_extract (hv := rfl)) ?_
       try simp only [List.getElem_toArray, List.getElem_cons_zero, List.getElem_cons_succ]
       try simp only [opv, n1, n2, n3, n4, Value.cells]
       refine m_alloc ti31 hS (fun w8 g8 hS => ?_)
       try simp only [opv, n1, n2, n3, n4, Value.cells, Array.toArray_toList] at hS ⊢
       replace hS : St _ _ w8 (.obj g8 (.cells (ic .u8 nm0) 31 (0, 0)) :: _) := hS
       first | refine m_store_obj ti31 (hS := hS) (hc := by first | exact zi_set rfl (by omega) | exact zi_whole (by omega) (by omega) | (first | exact splice_ic (by first | omega | (simp [*]; done) | (simp [*]; omega)) | exact splice_il (by first | omega | (simp [*]; done) | (simp [*]; omega)) | exact splice_whole (by first | (simp [opv, Value.cells, *]; done) | rfl) | (simp only [opv, n1, n2, Value.cells, splice, List.take_succ_cons, List.take_zero, List.drop_succ_cons, List.drop_zero, List.length_cons, List.length_nil, Nat.zero_add, Nat.reduceAdd, List.append_assoc, List.cons_append, List.nil_append]; rfl))) (hv := by first | rfl | (show (zi _ _).toArray.size = _; rw [zi_size (by omega)]; rfl) | (simp [opv, Value.cells, *]; done)) (hfit := by first | omega | (rw [zi_size (by omega)]; first | rfl | decide) | (simp only [ic_size, List.length_map, List.size_toArray]; first | omega | decide) | rfl | (simp [*]; done) | (simp [*]; omega)) (h1 := by first | exact zi_one _ _ | exact ic_one _ _ | simp [opv, Value.cells, Value.oneCell']) (h := fun w9 hS => ?_) | refine m_store_vec ti31 (hS := hS) (hc := by first | exact zi_set rfl (by omega) | exact zi_whole (by omega) (by omega) | (first | exact splice_ic (by first | omega | (simp [*]; done) | (simp [*]; omega)) | exact splice_il (by first | omega | (simp [*]; done) | (simp [*]; omega)) | exact splice_whole (by first | (simp [opv, Value.cells, *]; done) | rfl) | (simp only [opv, n1, n2, Value.cells, splice, List.take_succ_cons, List.take_zero, List.drop_succ_cons, List.drop_zero, List.length_cons, List.length_nil, Nat.zero_add, Nat.reduceAdd, List.append_assoc, List.cons_append, List.nil_append]; rfl))) (hv := by first | rfl | (show (zi _ _).toArray.size = _; rw [zi_size (by omega)]; rfl) | (simp [opv, Value.cells, *]; done)) (hfit := by first | omega | (rw [zi_size (by omega)]; first | rfl | decide) | (simp only [ic_size, List.length_map, List.size_toArray]; first | omega | decide) | rfl | (simp [*]; done) | (simp [*]; omega)) (h1 := by first | exact zi_one _ _ | exact ic_one _ _ | simp [opv, Value.cells, Value.oneCell']) (h := fun w9 hS => ?_)
       try simp only [opv, n1, n2, n3, n4, Value.cells, Array.toArray_toList] at hS ⊢
       refine s_go (s_assign) ?_
       try simp only [opv, n1, n2, n3, n4, Value.cells]
       refine s_go (s_assign) ?_
       try simp only [opv, n1, n2, n3, n4, Value.cells]
       refine x_nil ?_
       refine hK10 _ _ ?_
       refine x_seq fun K11 hK11 => ?_
       refine x_region ?_
       refine s_go (s_move) ?_
       try simp only [opv, n1, n2, n3, n4, Value.cells]
       first | refine s_go (m_fieldAddr Try.underlying52 (hi := ti29)) ?_ | refine s_go (m_fieldAddr_rd Try.underlying52 (hi := ti29) (hS := hS)) ?_ | refine s_go (m_fieldAddr_vec Try.underlying52 (hi := ti29) (hS := hS)) ?_
       try simp only [opv, n1, n2, n3, n4, Value.cells, Nat.zero_add, Nat.add_zero, List.getElem_toArray, List.getElem_cons_zero, List.getElem_cons_succ]
       first | refine s_go (m_load_obj Try.underlying29 (hS := hS) (hv := by first | rfl | exact zi_get rfl (by omega) | exact ic_get (by omega) | exact il_get (by omega))) ?_ | refine s_go (m_load_bx Try.underlying29 (hS := hS) (hv := by first | rfl | exact zi_get rfl (by omega) | exact ic_get (by omega) | exact il_get (by omega))) ?_ | refine s_go (m_load_rd Try.underlying29 (hS := hS) (hv := by first | rfl | exact zi_get rfl (by omega) | exact ic_get (by omega) | exact il_get (by omega))) ?_ | refine s_go (m_load_vec Try.underlying29 (hS := hS) (hv := by first | rfl | exact zi_get rfl (by omega) | exact ic_get (by omega) | exact il_get (by omega))) ?_
       try simp only [opv, n1, n2, n3, n4, Value.cells, List.getElem_toArray, List.getElem_cons_zero, List.getElem_cons_succ]
       try rw [show (askL r ct tx).getD 1 0 = (ct : Int) from rfl]
       refine s_call en43 ?_
       try simp only [opv, n1, n2, n3, n4, Value.cells, List.map_toArray, List.map_cons, List.map_nil, List.append_toArray, List.cons_append, List.nil_append, Array.append_empty]
       refine CallR.mono (c_noteGet _ A c l (hS.hasRd (by repeat (first | exact Has.head | apply Has.tail))) hv (by omega) ct hct) ?_
       rintro _ w10 ⟨rfl, hE10⟩
       replace hS := hS.ext hE10
       try simp only [opv, n1, n2, n3, n4, Value.cells]
       refine s_go (s_move) ?_
       try simp only [opv, n1, n2, n3, n4, Value.cells]
       refine s_go (s_extract (hv := rfl)) ?_
       try simp only [List.getElem_toArray, List.getElem_cons_zero, List.getElem_cons_succ]
       try simp only [opv, n1, n2, n3, n4, Value.cells]
       refine s_go (s_extract (hv := rfl)) ?_
       try simp only [List.getElem_toArray, List.getElem_cons_zero, List.getElem_cons_succ]
       try simp only [opv, n1, n2, n3, n4, Value.cells]
       refine s_go (s_extract (hv := rfl)) ?_
       try simp only [List.getElem_toArray, List.getElem_cons_zero, List.getElem_cons_succ]
       try simp only [opv, n1, n2, n3, n4, Value.cells]
       refine m_alloc ti31 hS (fun w11 g11 hS => ?_)
       try simp only [opv, n1, n2, n3, n4, Value.cells, Array.toArray_toList] at hS ⊢
       replace hS : St _ _ w11 (.obj g11 (.cells (ic .u8 nm0) 31 (0, 0)) :: _) := hS
       first | refine m_store_obj ti31 (hS := hS) (hc := by first | exact zi_set rfl (by omega) | exact zi_whole (by omega) (by omega) | (first | exact splice_ic (by first | omega | (simp [*]; done) | (simp [*]; omega)) | exact splice_il (by first | omega | (simp [*]; done) | (simp [*]; omega)) | exact splice_whole (by first | (simp [opv, Value.cells, *]; done) | rfl) | (simp only [opv, n1, n2, Value.cells, splice, List.take_succ_cons, List.take_zero, List.drop_succ_cons, List.drop_zero, List.length_cons, List.length_nil, Nat.zero_add, Nat.reduceAdd, List.append_assoc, List.cons_append, List.nil_append]; rfl))) (hv := by first | rfl | (show (zi _ _).toArray.size = _; rw [zi_size (by omega)]; rfl) | (simp [opv, Value.cells, *]; done)) (hfit := by first | omega | (rw [zi_size (by omega)]; first | rfl | decide) | (simp only [ic_size, List.length_map, List.size_toArray]; first | omega | decide) | rfl | (simp [*]; done) | (simp [*]; omega)) (h1 := by first | exact zi_one _ _ | exact ic_one _ _ | simp [opv, Value.cells, Value.oneCell']) (h := fun w12 hS => ?_) | refine m_store_vec ti31 (hS := hS) (hc := by first | exact zi_set rfl (by omega) | exact zi_whole (by omega) (by omega) | (first | exact splice_ic (by first | omega | (simp [*]; done) | (simp [*]; omega)) | exact splice_il (by first | omega | (simp [*]; done) | (simp [*]; omega)) | exact splice_whole (by first | (simp [opv, Value.cells, *]; done) | rfl) | (simp only [opv, n1, n2, Value.cells, splice, List.take_succ_cons, List.take_zero, List.drop_succ_cons, List.drop_zero, List.length_cons, List.length_nil, Nat.zero_add, Nat.reduceAdd, List.append_assoc, List.cons_append, List.nil_append]; rfl))) (hv := by first | rfl | (show (zi _ _).toArray.size = _; rw [zi_size (by omega)]; rfl) | (simp [opv, Value.cells, *]; done)) (hfit := by first | omega | (rw [zi_size (by omega)]; first | rfl | decide) | (simp only [ic_size, List.length_map, List.size_toArray]; first | omega | decide) | rfl | (simp [*]; done) | (simp [*]; omega)) (h1 := by first | exact zi_one _ _ | exact ic_one _ _ | simp [opv, Value.cells, Value.oneCell']) (h := fun w12 hS => ?_)
       try simp only [opv, n1, n2, n3, n4, Value.cells, Array.toArray_toList] at hS ⊢
       refine s_go (s_assign) ?_
       try simp only [opv, n1, n2, n3, n4, Value.cells]
       refine s_go (s_assign) ?_
       try simp only [opv, n1, n2, n3, n4, Value.cells]
       refine x_nil ?_
       refine hK11 _ _ ?_
       refine x_seq fun K12 hK12 => ?_
       refine x_seq fun K13 hK13 => ?_
       refine x_region ?_
       first | refine s_go (m_load_row Try.underlying31 (hi := ti31) (hS := hS) (hfit := by first | omega | (rw [zi_size (by omega)]; first | rfl | decide) | (simp only [ic_size, List.length_map, List.size_toArray]; first | omega | decide) | rfl | (simp [*]; done) | (simp [*]; omega))) ?_ | refine s_go (m_loada_obj Try.underlying31 (hi := ti31) (hS := hS) (hfit := by first | omega | (rw [zi_size (by omega)]; first | rfl | decide) | (simp only [ic_size, List.length_map, List.size_toArray]; first | omega | decide) | rfl | (simp [*]; done) | (simp [*]; omega))) ?_ | refine s_go (m_loada_bx Try.underlying31 (hi := ti31) (hS := hS) (hfit := by first | omega | (rw [zi_size (by omega)]; first | rfl | decide) | (simp only [ic_size, List.length_map, List.size_toArray]; first | omega | decide) | rfl | (simp [*]; done) | (simp [*]; omega))) ?_ | refine s_go (m_loada_rd Try.underlying31 (hi := ti31) (hS := hS) (hfit := by first | omega | (rw [zi_size (by omega)]; first | rfl | decide) | (simp only [ic_size, List.length_map, List.size_toArray]; first | omega | decide) | rfl | (simp [*]; done) | (simp [*]; omega))) ?_ | refine s_go (m_loada_vec Try.underlying31 (hi := ti31) (hS := hS) (hfit := by first | omega | (rw [zi_size (by omega)]; first | rfl | decide) | (simp only [ic_size, List.length_map, List.size_toArray]; first | omega | decide) | rfl | (simp [*]; done) | (simp [*]; omega))) ?_
       try simp only [opv, n1, n2, n3, n4, Value.cells, List.getElem_toArray, List.getElem_cons_zero, List.getElem_cons_succ]
       first | refine s_go (m_fieldAddr Try.underlying52 (hi := ti31)) ?_ | refine s_go (m_fieldAddr_rd Try.underlying52 (hi := ti31) (hS := hS)) ?_ | refine s_go (m_fieldAddr_vec Try.underlying52 (hi := ti31) (hS := hS)) ?_
       try simp only [opv, n1, n2, n3, n4, Value.cells, Nat.zero_add, Nat.add_zero, List.getElem_toArray, List.getElem_cons_zero, List.getElem_cons_succ]
       first | refine s_go (m_load_row Try.underlying31 (hi := ti31) (hS := hS) (hfit := by first | omega | (rw [zi_size (by omega)]; first | rfl | decide) | (simp only [ic_size, List.length_map, List.size_toArray]; first | omega | decide) | rfl | (simp [*]; done) | (simp [*]; omega))) ?_ | refine s_go (m_loada_obj Try.underlying31 (hi := ti31) (hS := hS) (hfit := by first | omega | (rw [zi_size (by omega)]; first | rfl | decide) | (simp only [ic_size, List.length_map, List.size_toArray]; first | omega | decide) | rfl | (simp [*]; done) | (simp [*]; omega))) ?_ | refine s_go (m_loada_bx Try.underlying31 (hi := ti31) (hS := hS) (hfit := by first | omega | (rw [zi_size (by omega)]; first | rfl | decide) | (simp only [ic_size, List.length_map, List.size_toArray]; first | omega | decide) | rfl | (simp [*]; done) | (simp [*]; omega))) ?_ | refine s_go (m_loada_rd Try.underlying31 (hi := ti31) (hS := hS) (hfit := by first | omega | (rw [zi_size (by omega)]; first | rfl | decide) | (simp only [ic_size, List.length_map, List.size_toArray]; first | omega | decide) | rfl | (simp [*]; done) | (simp [*]; omega))) ?_ | refine s_go (m_loada_vec Try.underlying31 (hi := ti31) (hS := hS) (hfit := by first | omega | (rw [zi_size (by omega)]; first | rfl | decide) | (simp only [ic_size, List.length_map, List.size_toArray]; first | omega | decide) | rfl | (simp [*]; done) | (simp [*]; omega))) ?_
       try simp only [opv, n1, n2, n3, n4, Value.cells, List.getElem_toArray, List.getElem_cons_zero, List.getElem_cons_succ]
       rw [ask_text h8]
       refine s_go (s_neq_agg eqv31 (hg := eg31) (hX := zi_ic (by assumption)) (hY := zi_ic (by assumption)) (h1 := by assumption) (h2 := by assumption)) ?_
       try simp only [opv, n1, n2, n3, n4, Value.cells]
       try simp only [eq_self, decide_true, Bool.not_true]
       refine s_go (s_move) ?_
       try simp only [opv, n1, n2, n3, n4, Value.cells]
       refine g_on (yi (t := 73) rfl rfl) ?_
       refine s_go (s_move) ?_
       try simp only [opv, n1, n2, n3, n4, Value.cells]
       refine g_on (yi (t := 73) rfl rfl) ?_
       refine s_go (s_move) ?_
       try simp only [opv, n1, n2, n3, n4, Value.cells]
       refine g_on (yi (t := 73) rfl rfl) ?_
       refine s_go (s_add (hc := wr_u32 (by omega) (by omega))) ?_
       try simp only [opv, n1, n2, n3, n4, Value.cells]
       refine g_on (yi (t := 73) rfl rfl) ?_
       refine s_go (s_neq) ?_
       try simp only [opv, n1, n2, n3, n4, Value.cells]
       rw [decide_eq_false (show ¬ ¬ ((noteN l ct + 1 : Nat) : Int) = (noteN l ct : Int) + 1 by omega)]
       first | refine s_go (s_pick_t) ?_ | refine s_go (s_pick_f) ?_
       try simp only [opv, n1, n2, n3, n4, Value.cells]
       refine s_go (s_move) ?_
       try simp only [opv, n1, n2, n3, n4, Value.cells]
       refine g_on (yi (t := 79) rfl rfl) ?_
       refine s_go (s_move) ?_
       try simp only [opv, n1, n2, n3, n4, Value.cells]
       refine g_on (yi (t := 79) rfl rfl) ?_
       first | refine s_go (m_fieldAddr Try.underlying52 (hi := ti5)) ?_ | refine s_go (m_fieldAddr_rd Try.underlying52 (hi := ti5) (hS := hS)) ?_ | refine s_go (m_fieldAddr_vec Try.underlying52 (hi := ti5) (hS := hS)) ?_
       try simp only [opv, n1, n2, n3, n4, Value.cells, Nat.zero_add, Nat.add_zero, List.getElem_toArray, List.getElem_cons_zero, List.getElem_cons_succ]
       refine g_on (yi (t := 79) rfl rfl) ?_
       first | refine s_go (m_load_obj Try.underlying5 (hS := hS) (hv := by first | rfl | exact zi_get rfl (by omega) | exact ic_get (by omega) | exact il_get (by omega))) ?_ | refine s_go (m_load_bx Try.underlying5 (hS := hS) (hv := by first | rfl | exact zi_get rfl (by omega) | exact ic_get (by omega) | exact il_get (by omega))) ?_ | refine s_go (m_load_rd Try.underlying5 (hS := hS) (hv := by first | rfl | exact zi_get rfl (by omega) | exact ic_get (by omega) | exact il_get (by omega))) ?_ | refine s_go (m_load_vec Try.underlying5 (hS := hS) (hv := by first | rfl | exact zi_get rfl (by omega) | exact ic_get (by omega) | exact il_get (by omega))) ?_
       try simp only [opv, n1, n2, n3, n4, Value.cells, List.getElem_toArray, List.getElem_cons_zero, List.getElem_cons_succ]
       refine g_on (yi (t := 79) rfl rfl) ?_
       refine s_go (s_neq) ?_
       try simp only [opv, n1, n2, n3, n4, Value.cells]
       try rw [show (askL r ct tx).getD 0 0 = (r : Int) from rfl]
       try simp only [ne_eq, eq_self, not_true_eq_false, decide_false]
       first | refine s_go (s_pick_t) ?_ | refine s_go (s_pick_f) ?_
       try simp only [opv, n1, n2, n3, n4, Value.cells]
       refine x_nil ?_
       refine hK13 _ _ ?_
       refine x_cond_f (h := ?_)
       refine x_skip ?_
       refine hK12 _ _ ?_
       refine x_seq fun K14 hK14 => ?_
       refine x_region ?_
       refine s_go (s_move) ?_
       try simp only [opv, n1, n2, n3, n4, Value.cells]
       first | refine s_go (m_fieldAddr Try.underlying52 (hi := ti29)) ?_ | refine s_go (m_fieldAddr_rd Try.underlying52 (hi := ti29) (hS := hS)) ?_ | refine s_go (m_fieldAddr_vec Try.underlying52 (hi := ti29) (hS := hS)) ?_
       try simp only [opv, n1, n2, n3, n4, Value.cells, Nat.zero_add, Nat.add_zero, List.getElem_toArray, List.getElem_cons_zero, List.getElem_cons_succ]
       first | refine s_go (m_load_obj Try.underlying29 (hS := hS) (hv := by first | rfl | exact zi_get rfl (by omega) | exact ic_get (by omega) | exact il_get (by omega))) ?_ | refine s_go (m_load_bx Try.underlying29 (hS := hS) (hv := by first | rfl | exact zi_get rfl (by omega) | exact ic_get (by omega) | exact il_get (by omega))) ?_ | refine s_go (m_load_rd Try.underlying29 (hS := hS) (hv := by first | rfl | exact zi_get rfl (by omega) | exact ic_get (by omega) | exact il_get (by omega))) ?_ | refine s_go (m_load_vec Try.underlying29 (hS := hS) (hv := by first | rfl | exact zi_get rfl (by omega) | exact ic_get (by omega) | exact il_get (by omega))) ?_
       try simp only [opv, n1, n2, n3, n4, Value.cells, List.getElem_toArray, List.getElem_cons_zero, List.getElem_cons_succ]
       try rw [show (askL r ct tx).getD 1 0 = (ct : Int) from rfl]
       refine s_go (s_add (hc := addw_u16 ct)) ?_
       try simp only [opv, n1, n2, n3, n4, Value.cells]
       refine s_call en43 ?_
       try simp only [opv, n1, n2, n3, n4, Value.cells, List.map_toArray, List.map_cons, List.map_nil, List.append_toArray, List.cons_append, List.nil_append, Array.append_empty]
       refine CallR.mono (c_noteGet _ A c l (hS.hasRd (by repeat (first | exact Has.head | apply Has.tail))) hv (by omega) ((ct + 1) % 65536) hc1) ?_
       rintro _ w13 ⟨rfl, hE13⟩
       replace hS := hS.ext hE13
       try simp only [opv, n1, n2, n3, n4, Value.cells]
       refine s_go (s_move) ?_
       try simp only [opv, n1, n2, n3, n4, Value.cells]
       refine s_go (s_extract (hv := rfl)) ?_
       try simp only [List.getElem_toArray, List.getElem_cons_zero, List.getElem_cons_succ]
       try simp only [opv, n1, n2, n3, n4, Value.cells]
       refine s_go (s_extract (hv := rfl)) ?_
       try simp only [List.getElem_toArray, List.getElem_cons_zero, List.getElem_cons_succ]
       try simp only [opv, n1, n2, n3, n4, Value.cells]
       refine s_go (s_extract (hv := rfl)) ?_
       try simp only [List.getElem_toArray, List.getElem_cons_zero, List.getElem_cons_succ]
       try simp only [opv, n1, n2, n3, n4, Value.cells]
       refine m_alloc ti31 hS (fun w14 g14 hS => ?_)
       try simp only [opv, n1, n2, n3, n4, Value.cells, Array.toArray_toList] at hS ⊢
       replace hS : St _ _ w14 (.obj g14 (.cells (ic .u8 nm0) 31 (0, 0)) :: _) := hS
       first | refine m_store_obj ti31 (hS := hS) (hc := by first | exact zi_set rfl (by omega) | exact zi_whole (by omega) (by omega) | (first | exact splice_ic (by first | omega | (simp [*]; done) | (simp [*]; omega)) | exact splice_il (by first | omega | (simp [*]; done) | (simp [*]; omega)) | exact splice_whole (by first | (simp [opv, Value.cells, *]; done) | rfl) | (simp only [opv, n1, n2, Value.cells, splice, List.take_succ_cons, List.take_zero, List.drop_succ_cons, List.drop_zero, List.length_cons, List.length_nil, Nat.zero_add, Nat.reduceAdd, List.append_assoc, List.cons_append, List.nil_append]; rfl))) (hv := by first | rfl | (show (zi _ _).toArray.size = _; rw [zi_size (by omega)]; rfl) | (simp [opv, Value.cells, *]; done)) (hfit := by first | omega | (rw [zi_size (by omega)]; first | rfl | decide) | (simp only [ic_size, List.length_map, List.size_toArray]; first | omega | decide) | rfl | (simp [*]; done) | (simp [*]; omega)) (h1 := by first | exact zi_one _ _ | exact ic_one _ _ | simp [opv, Value.cells, Value.oneCell']) (h := fun w15 hS => ?_) | refine m_store_vec ti31 (hS := hS) (hc := by first | exact zi_set rfl (by omega) | exact zi_whole (by omega) (by omega) | (first | exact splice_ic (by first | omega | (simp [*]; done) | (simp [*]; omega)) | exact splice_il (by first | omega | (simp [*]; done) | (simp [*]; omega)) | exact splice_whole (by first | (simp [opv, Value.cells, *]; done) | rfl) | (simp only [opv, n1, n2, Value.cells, splice, List.take_succ_cons, List.take_zero, List.drop_succ_cons, List.drop_zero, List.length_cons, List.length_nil, Nat.zero_add, Nat.reduceAdd, List.append_assoc, List.cons_append, List.nil_append]; rfl))) (hv := by first | rfl | (show (zi _ _).toArray.size = _; rw [zi_size (by omega)]; rfl) | (simp [opv, Value.cells, *]; done)) (hfit := by first | omega | (rw [zi_size (by omega)]; first | rfl | decide) | (simp only [ic_size, List.length_map, List.size_toArray]; first | omega | decide) | rfl | (simp [*]; done) | (simp [*]; omega)) (h1 := by first | exact zi_one _ _ | exact ic_one _ _ | simp [opv, Value.cells, Value.oneCell']) (h := fun w15 hS => ?_)
       try simp only [opv, n1, n2, n3, n4, Value.cells, Array.toArray_toList] at hS ⊢
       refine s_go (s_assign) ?_
       try simp only [opv, n1, n2, n3, n4, Value.cells]
       refine s_go (s_assign) ?_
       try simp only [opv, n1, n2, n3, n4, Value.cells]
       refine x_nil ?_
       refine hK14 _ _ ?_
       refine x_seq fun K15 hK15 => ?_
       refine x_region ?_
       refine s_go (s_move) ?_
       try simp only [opv, n1, n2, n3, n4, Value.cells]
       first | refine s_go (m_fieldAddr Try.underlying52 (hi := ti29)) ?_ | refine s_go (m_fieldAddr_rd Try.underlying52 (hi := ti29) (hS := hS)) ?_ | refine s_go (m_fieldAddr_vec Try.underlying52 (hi := ti29) (hS := hS)) ?_
       try simp only [opv, n1, n2, n3, n4, Value.cells, Nat.zero_add, Nat.add_zero, List.getElem_toArray, List.getElem_cons_zero, List.getElem_cons_succ]
       first | refine s_go (m_load_obj Try.underlying29 (hS := hS) (hv := by first | rfl | exact zi_get rfl (by omega) | exact ic_get (by omega) | exact il_get (by omega))) ?_ | refine s_go (m_load_bx Try.underlying29 (hS := hS) (hv := by first | rfl | exact zi_get rfl (by omega) | exact ic_get (by omega) | exact il_get (by omega))) ?_ | refine s_go (m_load_rd Try.underlying29 (hS := hS) (hv := by first | rfl | exact zi_get rfl (by omega) | exact ic_get (by omega) | exact il_get (by omega))) ?_ | refine s_go (m_load_vec Try.underlying29 (hS := hS) (hv := by first | rfl | exact zi_get rfl (by omega) | exact ic_get (by omega) | exact il_get (by omega))) ?_
       try simp only [opv, n1, n2, n3, n4, Value.cells, List.getElem_toArray, List.getElem_cons_zero, List.getElem_cons_succ]
       try rw [show (askL r ct tx).getD 1 0 = (ct : Int) from rfl]
       refine s_go (s_add (hc := addw_u16 ct)) ?_
       try simp only [opv, n1, n2, n3, n4, Value.cells]
       refine s_call en43 ?_
       try simp only [opv, n1, n2, n3, n4, Value.cells, List.map_toArray, List.map_cons, List.map_nil, List.append_toArray, List.cons_append, List.nil_append, Array.append_empty]
       refine CallR.mono (c_noteGet _ Aj cj (normP (l ++ [noteA l r tx ct])) (hS.vecRd (by repeat (first | exact Has.head | apply Has.tail))) hjo (by omega) ((ct + 1) % 65536) hc1) ?_
       rintro _ w16 ⟨rfl, hE16⟩
       replace hS := hS.ext hE16
       try simp only [opv, n1, n2, n3, n4, Value.cells]
       rw [nl_ot hv hr8 hct h8 hbt hE hcne, nl_on hv hr8 hct h8 hbt hE hcne, nl_or hv hr8 hct h8 hbt hE hcne]
       refine s_go (s_move) ?_
       try simp only [opv, n1, n2, n3, n4, Value.cells]
       refine s_go (s_extract (hv := rfl)) ?_
       try simp only [List.getElem_toArray, List.getElem_cons_zero, List.getElem_cons_succ]
       try simp only [opv, n1, n2, n3, n4, Value.cells]
       refine s_go (s_extract (hv := rfl)) ?_
       try simp only [List.getElem_toArray, List.getElem_cons_zero, List.getElem_cons_succ]
       try simp only [opv, n1, n2, n3, n4, Value.cells]
       refine s_go (s_extract (hv := rfl)) ?_
       try simp only [List.getElem_toArray, List.getElem_cons_zero, List.getElem_cons_succ]
       try simp only [opv, n1, n2, n3, n4, Value.cells]
       refine m_alloc ti31 hS (fun w17 g17 hS => ?_)
       try simp only [opv, n1, n2, n3, n4, Value.cells, Array.toArray_toList] at hS ⊢
       replace hS : St _ _ w17 (.obj g17 (.cells (ic .u8 nm0) 31 (0, 0)) :: _) := hS
       first | refine m_store_obj ti31 (hS := hS) (hc := by first | exact zi_set rfl (by omega) | exact zi_whole (by omega) (by omega) | (first | exact splice_ic (by first | omega | (simp [*]; done) | (simp [*]; omega)) | exact splice_il (by first | omega | (simp [*]; done) | (simp [*]; omega)) | exact splice_whole (by first | (simp [opv, Value.cells, *]; done) | rfl) | (simp only [opv, n1, n2, Value.cells, splice, List.take_succ_cons, List.take_zero, List.drop_succ_cons, List.drop_zero, List.length_cons, List.length_nil, Nat.zero_add, Nat.reduceAdd, List.append_assoc, List.cons_append, List.nil_append]; rfl))) (hv := by first | rfl | (show (zi _ _).toArray.size = _; rw [zi_size (by omega)]; rfl) | (simp [opv, Value.cells, *]; done)) (hfit := by first | omega | (rw [zi_size (by omega)]; first | rfl | decide) | (simp only [ic_size, List.length_map, List.size_toArray]; first | omega | decide) | rfl | (simp [*]; done) | (simp [*]; omega)) (h1 := by first | exact zi_one _ _ | exact ic_one _ _ | simp [opv, Value.cells, Value.oneCell']) (h := fun w18 hS => ?_) | refine m_store_vec ti31 (hS := hS) (hc := by first | exact zi_set rfl (by omega) | exact zi_whole (by omega) (by omega) | (first | exact splice_ic (by first | omega | (simp [*]; done) | (simp [*]; omega)) | exact splice_il (by first | omega | (simp [*]; done) | (simp [*]; omega)) | exact splice_whole (by first | (simp [opv, Value.cells, *]; done) | rfl) | (simp only [opv, n1, n2, Value.cells, splice, List.take_succ_cons, List.take_zero, List.drop_succ_cons, List.drop_zero, List.length_cons, List.length_nil, Nat.zero_add, Nat.reduceAdd, List.append_assoc, List.cons_append, List.nil_append]; rfl))) (hv := by first | rfl | (show (zi _ _).toArray.size = _; rw [zi_size (by omega)]; rfl) | (simp [opv, Value.cells, *]; done)) (hfit := by first | omega | (rw [zi_size (by omega)]; first | rfl | decide) | (simp only [ic_size, List.length_map, List.size_toArray]; first | omega | decide) | rfl | (simp [*]; done) | (simp [*]; omega)) (h1 := by first | exact zi_one _ _ | exact ic_one _ _ | simp [opv, Value.cells, Value.oneCell']) (h := fun w18 hS => ?_)
       try simp only [opv, n1, n2, n3, n4, Value.cells, Array.toArray_toList] at hS ⊢
       refine s_go (s_assign) ?_
       try simp only [opv, n1, n2, n3, n4, Value.cells]
       refine s_go (s_assign) ?_
       try simp only [opv, n1, n2, n3, n4, Value.cells]
       refine x_nil ?_
       refine hK15 _ _ ?_
       refine x_seq fun K16 hK16 => ?_
       refine x_seq fun K17 hK17 => ?_
       refine x_region ?_
       first | refine s_go (m_load_row Try.underlying31 (hi := ti31) (hS := hS) (hfit := by first | omega | (rw [zi_size (by omega)]; first | rfl | decide) | (simp only [ic_size, List.length_map, List.size_toArray]; first | omega | decide) | rfl | (simp [*]; done) | (simp [*]; omega))) ?_ | refine s_go (m_loada_obj Try.underlying31 (hi := ti31) (hS := hS) (hfit := by first | omega | (rw [zi_size (by omega)]; first | rfl | decide) | (simp only [ic_size, List.length_map, List.size_toArray]; first | omega | decide) | rfl | (simp [*]; done) | (simp [*]; omega))) ?_ | refine s_go (m_loada_bx Try.underlying31 (hi := ti31) (hS := hS) (hfit := by first | omega | (rw [zi_size (by omega)]; first | rfl | decide) | (simp only [ic_size, List.length_map, List.size_toArray]; first | omega | decide) | rfl | (simp [*]; done) | (simp [*]; omega))) ?_ | refine s_go (m_loada_rd Try.underlying31 (hi := ti31) (hS := hS) (hfit := by first | omega | (rw [zi_size (by omega)]; first | rfl | decide) | (simp only [ic_size, List.length_map, List.size_toArray]; first | omega | decide) | rfl | (simp [*]; done) | (simp [*]; omega))) ?_ | refine s_go (m_loada_vec Try.underlying31 (hi := ti31) (hS := hS) (hfit := by first | omega | (rw [zi_size (by omega)]; first | rfl | decide) | (simp only [ic_size, List.length_map, List.size_toArray]; first | omega | decide) | rfl | (simp [*]; done) | (simp [*]; omega))) ?_
       try simp only [opv, n1, n2, n3, n4, Value.cells, List.getElem_toArray, List.getElem_cons_zero, List.getElem_cons_succ]
       first | refine s_go (m_load_row Try.underlying31 (hi := ti31) (hS := hS) (hfit := by first | omega | (rw [zi_size (by omega)]; first | rfl | decide) | (simp only [ic_size, List.length_map, List.size_toArray]; first | omega | decide) | rfl | (simp [*]; done) | (simp [*]; omega))) ?_ | refine s_go (m_loada_obj Try.underlying31 (hi := ti31) (hS := hS) (hfit := by first | omega | (rw [zi_size (by omega)]; first | rfl | decide) | (simp only [ic_size, List.length_map, List.size_toArray]; first | omega | decide) | rfl | (simp [*]; done) | (simp [*]; omega))) ?_ | refine s_go (m_loada_bx Try.underlying31 (hi := ti31) (hS := hS) (hfit := by first | omega | (rw [zi_size (by omega)]; first | rfl | decide) | (simp only [ic_size, List.length_map, List.size_toArray]; first | omega | decide) | rfl | (simp [*]; done) | (simp [*]; omega))) ?_ | refine s_go (m_loada_rd Try.underlying31 (hi := ti31) (hS := hS) (hfit := by first | omega | (rw [zi_size (by omega)]; first | rfl | decide) | (simp only [ic_size, List.length_map, List.size_toArray]; first | omega | decide) | rfl | (simp [*]; done) | (simp [*]; omega))) ?_ | refine s_go (m_loada_vec Try.underlying31 (hi := ti31) (hS := hS) (hfit := by first | omega | (rw [zi_size (by omega)]; first | rfl | decide) | (simp only [ic_size, List.length_map, List.size_toArray]; first | omega | decide) | rfl | (simp [*]; done) | (simp [*]; omega))) ?_
       try simp only [opv, n1, n2, n3, n4, Value.cells, List.getElem_toArray, List.getElem_cons_zero, List.getElem_cons_succ]
       refine s_go (s_neq_agg eqv31 (hg := eg31) (hX := zi_ic (by assumption)) (hY := zi_ic (by assumption)) (h1 := by assumption) (h2 := by assumption)) ?_
       try simp only [opv, n1, n2, n3, n4, Value.cells]
       try simp only [eq_self, decide_true, Bool.not_true]
       refine s_go (s_move) ?_
       try simp only [opv, n1, n2, n3, n4, Value.cells]
       refine g_on (yi (t := 106) rfl rfl) ?_
       refine s_go (s_move) ?_
       try simp only [opv, n1, n2, n3, n4, Value.cells]
       refine g_on (yi (t := 106) rfl rfl) ?_
       refine s_go (s_move) ?_
       try simp only [opv, n1, n2, n3, n4, Value.cells]
       refine g_on (yi (t := 106) rfl rfl) ?_
       refine s_go (s_neq) ?_
       try simp only [opv, n1, n2, n3, n4, Value.cells]
       try simp only [ne_eq, eq_self, not_true_eq_false, decide_false]
       first | refine s_go (s_pick_t) ?_ | refine s_go (s_pick_f) ?_
       try simp only [opv, n1, n2, n3, n4, Value.cells]
       refine s_go (s_move) ?_
       try simp only [opv, n1, n2, n3, n4, Value.cells]
       refine g_on (yi (t := 111) rfl rfl) ?_
       refine s_go (s_move) ?_
       try simp only [opv, n1, n2, n3, n4, Value.cells]
       refine g_on (yi (t := 111) rfl rfl) ?_
       refine s_go (s_move) ?_
       try simp only [opv, n1, n2, n3, n4, Value.cells]
       refine g_on (yi (t := 111) rfl rfl) ?_
       refine s_go (s_neq) ?_
       try simp only [opv, n1, n2, n3, n4, Value.cells]
       try simp only [ne_eq, eq_self, not_true_eq_false, decide_false]
       first | refine s_go (s_pick_t) ?_ | refine s_go (s_pick_f) ?_
       try simp only [opv, n1, n2, n3, n4, Value.cells]
       refine x_nil ?_
       refine hK17 _ _ ?_
       refine x_cond_f (h := ?_)
       refine x_skip ?_
       refine hK16 _ _ ?_
       refine x_seq fun K18 hK18 => ?_
       refine x_region ?_
       refine s_go (s_move) ?_
       try simp only [opv, n1, n2, n3, n4, Value.cells]
       first | refine s_go (m_fieldAddr Try.underlying52 (hi := ti5)) ?_ | refine s_go (m_fieldAddr_rd Try.underlying52 (hi := ti5) (hS := hS)) ?_ | refine s_go (m_fieldAddr_vec Try.underlying52 (hi := ti5) (hS := hS)) ?_
       try simp only [opv, n1, n2, n3, n4, Value.cells, Nat.zero_add, Nat.add_zero, List.getElem_toArray, List.getElem_cons_zero, List.getElem_cons_succ]
       first | refine s_go (m_load_obj Try.underlying5 (hS := hS) (hv := by first | rfl | exact zi_get rfl (by omega) | exact ic_get (by omega) | exact il_get (by omega))) ?_ | refine s_go (m_load_bx Try.underlying5 (hS := hS) (hv := by first | rfl | exact zi_get rfl (by omega) | exact ic_get (by omega) | exact il_get (by omega))) ?_ | refine s_go (m_load_rd Try.underlying5 (hS := hS) (hv := by first | rfl | exact zi_get rfl (by omega) | exact ic_get (by omega) | exact il_get (by omega))) ?_ | refine s_go (m_load_vec Try.underlying5 (hS := hS) (hv := by first | rfl | exact zi_get rfl (by omega) | exact ic_get (by omega) | exact il_get (by omega))) ?_
       try simp only [opv, n1, n2, n3, n4, Value.cells, List.getElem_toArray, List.getElem_cons_zero, List.getElem_cons_succ]
       try rw [show (askL r2 ct2 tx2).getD 0 0 = (r2 : Int) from rfl]
       first | refine s_go (m_fieldAddr Try.underlying52 (hi := ti29)) ?_ | refine s_go (m_fieldAddr_rd Try.underlying52 (hi := ti29) (hS := hS)) ?_ | refine s_go (m_fieldAddr_vec Try.underlying52 (hi := ti29) (hS := hS)) ?_
       try simp only [opv, n1, n2, n3, n4, Value.cells, Nat.zero_add, Nat.add_zero, List.getElem_toArray, List.getElem_cons_zero, List.getElem_cons_succ]
       first | refine s_go (m_load_obj Try.underlying29 (hS := hS) (hv := by first | rfl | exact zi_get rfl (by omega) | exact ic_get (by omega) | exact il_get (by omega))) ?_ | refine s_go (m_load_bx Try.underlying29 (hS := hS) (hv := by first | rfl | exact zi_get rfl (by omega) | exact ic_get (by omega) | exact il_get (by omega))) ?_ | refine s_go (m_load_rd Try.underlying29 (hS := hS) (hv := by first | rfl | exact zi_get rfl (by omega) | exact ic_get (by omega) | exact il_get (by omega))) ?_ | refine s_go (m_load_vec Try.underlying29 (hS := hS) (hv := by first | rfl | exact zi_get rfl (by omega) | exact ic_get (by omega) | exact il_get (by omega))) ?_
       try simp only [opv, n1, n2, n3, n4, Value.cells, List.getElem_toArray, List.getElem_cons_zero, List.getElem_cons_succ]
       try rw [show (askL r ct tx).getD 1 0 = (ct : Int) from rfl]
       first | refine s_go (m_fieldAddr Try.underlying52 (hi := ti31)) ?_ | refine s_go (m_fieldAddr_rd Try.underlying52 (hi := ti31) (hS := hS)) ?_ | refine s_go (m_fieldAddr_vec Try.underlying52 (hi := ti31) (hS := hS)) ?_
       try simp only [opv, n1, n2, n3, n4, Value.cells, Nat.zero_add, Nat.add_zero, List.getElem_toArray, List.getElem_cons_zero, List.getElem_cons_succ]
       first | refine s_go (m_load_row Try.underlying31 (hi := ti31) (hS := hS) (hfit := by first | omega | (rw [zi_size (by omega)]; first | rfl | decide) | (simp only [ic_size, List.length_map, List.size_toArray]; first | omega | decide) | rfl | (simp [*]; done) | (simp [*]; omega))) ?_ | refine s_go (m_loada_obj Try.underlying31 (hi := ti31) (hS := hS) (hfit := by first | omega | (rw [zi_size (by omega)]; first | rfl | decide) | (simp only [ic_size, List.length_map, List.size_toArray]; first | omega | decide) | rfl | (simp [*]; done) | (simp [*]; omega))) ?_ | refine s_go (m_loada_bx Try.underlying31 (hi := ti31) (hS := hS) (hfit := by first | omega | (rw [zi_size (by omega)]; first | rfl | decide) | (simp only [ic_size, List.length_map, List.size_toArray]; first | omega | decide) | rfl | (simp [*]; done) | (simp [*]; omega))) ?_ | refine s_go (m_loada_rd Try.underlying31 (hi := ti31) (hS := hS) (hfit := by first | omega | (rw [zi_size (by omega)]; first | rfl | decide) | (simp only [ic_size, List.length_map, List.size_toArray]; first | omega | decide) | rfl | (simp [*]; done) | (simp [*]; omega))) ?_ | refine s_go (m_loada_vec Try.underlying31 (hi := ti31) (hS := hS) (hfit := by first | omega | (rw [zi_size (by omega)]; first | rfl | decide) | (simp only [ic_size, List.length_map, List.size_toArray]; first | omega | decide) | rfl | (simp [*]; done) | (simp [*]; omega))) ?_
       try simp only [opv, n1, n2, n3, n4, Value.cells, List.getElem_toArray, List.getElem_cons_zero, List.getElem_cons_succ]
       rw [ask_text h82]
       refine s_call en42 ?_
       try simp only [opv, n1, n2, n3, n4, Value.cells, List.map_toArray, List.map_cons, List.map_nil, List.append_toArray, List.cons_append, List.nil_append, Array.append_empty]
       refine CallR.mono (c_notePut _ A c l (hS.hasRd (by repeat (first | exact Has.head | apply Has.tail))) hv (by omega) r2 hr82 ct hct tx2 h82 hbt2) ?_
       rintro _ w19 ⟨Aq, cq, rfl, hC19⟩
       replace hS := hS.call hC19
       simp only [List.cons_append, List.nil_append] at hS
       try simp only [opv, n1, n2, n3, n4, Value.cells]
       refine s_go (s_move) ?_
       try simp only [opv, n1, n2, n3, n4, Value.cells]
       refine s_go (s_extract (hv := rfl)) ?_
       try simp only [List.getElem_toArray, List.getElem_cons_zero, List.getElem_cons_succ]
       try simp only [opv, n1, n2, n3, n4, Value.cells]
       refine s_go (s_extract (hv := rfl)) ?_
       try simp only [List.getElem_toArray, List.getElem_cons_zero, List.getElem_cons_succ]
       try simp only [opv, n1, n2, n3, n4, Value.cells]
       refine s_go (s_assign) ?_
       try simp only [opv, n1, n2, n3, n4, Value.cells]
       refine s_go (s_assign) ?_
       try simp only [opv, n1, n2, n3, n4, Value.cells]
       refine x_nil ?_
       refine hK18 _ _ ?_
       refine x_seq fun K19 hK19 => ?_
       refine x_seq fun K20 hK20 => ?_
       refine x_region ?_
       refine s_go (s_move) ?_
       try simp only [opv, n1, n2, n3, n4, Value.cells]
       refine s_go (s_neq) ?_
       try simp only [opv, n1, n2, n3, n4, Value.cells]
       refine s_go (s_move) ?_
       try simp only [opv, n1, n2, n3, n4, Value.cells]
       refine s_part 129 rfl (fun hp1 => ?_) (fun hp1 => ?_)
       ·
        try simp only [n3, n4]
        try simp only [decide_eq_true_eq, decide_eq_false_iff_not, Bool.not_eq_true', Bool.not_eq_false', Int.not_lt, Int.not_le, ne_eq, Decidable.not_not] at hp1
        first
        | (exfalso; omega)
        | skip
          refine g_off (yi (t := 129) rfl rfl) ?_
          try simp only [opv, n1, n2, n3, n4, Value.cells]
          refine g_off (yi (t := 129) rfl rfl) ?_
          try simp only [opv, n1, n2, n3, n4, Value.cells]
          refine g_off (yi (t := 129) rfl rfl) ?_
          try simp only [opv, n1, n2, n3, n4, Value.cells]
          refine g_off (yi (t := 129) rfl rfl) ?_
          try simp only [opv, n1, n2, n3, n4, Value.cells]
          refine g_off (yi (t := 129) rfl rfl) ?_
          try simp only [opv, n1, n2, n3, n4, Value.cells]
          first | refine s_go (s_pick_t) ?_ | refine s_go (s_pick_f) ?_
          try simp only [opv, n1, n2, n3, n4, Value.cells]
          refine x_nil ?_
          refine hK20 _ _ ?_
          refine x_cond_t (h := ?_)
          refine x_seq fun K21 hK21 => ?_
          refine x_region ?_
          refine s_call en41 ?_
          try simp only [opv, n1, n2, n3, n4, Value.cells, List.map_toArray, List.map_cons, List.map_nil, List.append_toArray, List.cons_append, List.nil_append, Array.append_empty]
          refine CallR.mono (c_law16alive _) ?_
          rintro _ w20 ⟨rfl, hE20⟩
          replace hS := hS.ext hE20
          try simp only [opv, n1, n2, n3, n4, Value.cells]
          refine s_go (s_assign) ?_
          try simp only [opv, n1, n2, n3, n4, Value.cells]
          refine x_nil ?_
          refine hK21 _ _ ?_
          refine x_ret ?_
          refine r_tmp rfl ?_
          exact ⟨rfl, hS.ext_of⟩
       ·
        try simp only [n3, n4]
        try simp only [decide_eq_true_eq, decide_eq_false_iff_not, Bool.not_eq_true', Bool.not_eq_false', Int.not_lt, Int.not_le, ne_eq, Decidable.not_not] at hp1
        first
        | (exfalso; omega)
        | skip
          refine g_on (yi (t := 129) rfl rfl) ?_
          first | refine s_go (m_fieldAddr Try.underlying52 (hi := ti5)) ?_ | refine s_go (m_fieldAddr_rd Try.underlying52 (hi := ti5) (hS := hS)) ?_ | refine s_go (m_fieldAddr_vec Try.underlying52 (hi := ti5) (hS := hS)) ?_
          try simp only [opv, n1, n2, n3, n4, Value.cells, Nat.zero_add, Nat.add_zero, List.getElem_toArray, List.getElem_cons_zero, List.getElem_cons_succ]
          refine g_on (yi (t := 129) rfl rfl) ?_
          first | refine s_go (m_load_obj Try.underlying5 (hS := hS) (hv := by first | rfl | exact zi_get rfl (by omega) | exact ic_get (by omega) | exact il_get (by omega))) ?_ | refine s_go (m_load_bx Try.underlying5 (hS := hS) (hv := by first | rfl | exact zi_get rfl (by omega) | exact ic_get (by omega) | exact il_get (by omega))) ?_ | refine s_go (m_load_rd Try.underlying5 (hS := hS) (hv := by first | rfl | exact zi_get rfl (by omega) | exact ic_get (by omega) | exact il_get (by omega))) ?_ | refine s_go (m_load_vec Try.underlying5 (hS := hS) (hv := by first | rfl | exact zi_get rfl (by omega) | exact ic_get (by omega) | exact il_get (by omega))) ?_
          try simp only [opv, n1, n2, n3, n4, Value.cells, List.getElem_toArray, List.getElem_cons_zero, List.getElem_cons_succ]
          try rw [show (askL r ct tx).getD 0 0 = (r : Int) from rfl]
          refine g_on (yi (t := 129) rfl rfl) ?_
          first | refine s_go (m_fieldAddr Try.underlying52 (hi := ti5)) ?_ | refine s_go (m_fieldAddr_rd Try.underlying52 (hi := ti5) (hS := hS)) ?_ | refine s_go (m_fieldAddr_vec Try.underlying52 (hi := ti5) (hS := hS)) ?_
          try simp only [opv, n1, n2, n3, n4, Value.cells, Nat.zero_add, Nat.add_zero, List.getElem_toArray, List.getElem_cons_zero, List.getElem_cons_succ]
          refine g_on (yi (t := 129) rfl rfl) ?_
          first | refine s_go (m_load_obj Try.underlying5 (hS := hS) (hv := by first | rfl | exact zi_get rfl (by omega) | exact ic_get (by omega) | exact il_get (by omega))) ?_ | refine s_go (m_load_bx Try.underlying5 (hS := hS) (hv := by first | rfl | exact zi_get rfl (by omega) | exact ic_get (by omega) | exact il_get (by omega))) ?_ | refine s_go (m_load_rd Try.underlying5 (hS := hS) (hv := by first | rfl | exact zi_get rfl (by omega) | exact ic_get (by omega) | exact il_get (by omega))) ?_ | refine s_go (m_load_vec Try.underlying5 (hS := hS) (hv := by first | rfl | exact zi_get rfl (by omega) | exact ic_get (by omega) | exact il_get (by omega))) ?_
          try simp only [opv, n1, n2, n3, n4, Value.cells, List.getElem_toArray, List.getElem_cons_zero, List.getElem_cons_succ]
          try rw [show (askL r2 ct2 tx2).getD 0 0 = (r2 : Int) from rfl]
          refine g_on (yi (t := 129) rfl rfl) ?_
          refine s_go (s_eql) ?_
          try simp only [opv, n1, n2, n3, n4, Value.cells]
          first | refine s_go (s_pick_t) ?_ | refine s_go (s_pick_f) ?_
          try simp only [opv, n1, n2, n3, n4, Value.cells]
          refine x_nil ?_
          refine hK20 _ _ ?_
          refine x_cond (ht := fun hc6 => ?_) (hf := fun hc6 => ?_)
          ·
           try simp only [decide_eq_true_eq, decide_eq_false_iff_not, Bool.not_eq_true', Bool.not_eq_false', Int.not_lt, Int.not_le, ne_eq, Decidable.not_not, bne_iff_ne, beq_iff_eq, not_true_eq_false, not_false_eq_true] at hc6
           first
           | (exfalso; omega)
           | skip
             refine x_seq fun K22 hK22 => ?_
             refine x_region ?_
             refine s_call en41 ?_
             try simp only [opv, n1, n2, n3, n4, Value.cells, List.map_toArray, List.map_cons, List.map_nil, List.append_toArray, List.cons_append, List.nil_append, Array.append_empty]
             refine CallR.mono (c_law16alive _) ?_
             rintro _ w21 ⟨rfl, hE21⟩
             replace hS := hS.ext hE21
             try simp only [opv, n1, n2, n3, n4, Value.cells]
             refine s_go (s_assign) ?_
             try simp only [opv, n1, n2, n3, n4, Value.cells]
             refine x_nil ?_
             refine hK22 _ _ ?_
             refine x_ret ?_
             refine r_tmp rfl ?_
             exact ⟨rfl, hS.ext_of⟩
          ·
           try simp only [decide_eq_true_eq, decide_eq_false_iff_not, Bool.not_eq_true', Bool.not_eq_false', Int.not_lt, Int.not_le, ne_eq, Decidable.not_not, bne_iff_ne, beq_iff_eq, not_true_eq_false, not_false_eq_true] at hc6
           first
           | (exfalso; omega)
           | skip
             have hE2 : noteE l r2 tx2 ct = 0 := by omega
             have hrne : ¬ r = r2 := by omega
             rw [noteP_yes hE2] at hS ⊢
             have hBs := one_sta (noteA_ok (l := l) hr82 hct h82 hbt2) (noteA_r hct h82 hE2)
             have hjo2 := (nl_st hv hr82 hct h82 hbt2 hE2).ok
             have hjl2 := norm_len (l ++ [noteA l r2 tx2 ct])
             rw [List.length_append] at hjl2
             simp only [List.length_cons, List.length_nil] at hjl2
             have hfo := (norm_sta (hjo2.app hjo)).ok
             have hfl := norm_len ((normP (l ++ [noteA l r2 tx2 ct])) ++ (normP (l ++ [noteA l r tx ct])))
             rw [List.length_append] at hfl
             have htf : (noteT (normP ((normP (l ++ [noteA l r2 tx2 ct])) ++ (normP (l ++ [noteA l r tx ct])))) ct).length = 8 := vtext_len ((fndD_ok (k := noteK ct) (norm_sta hfo).ok).len)
             have hwin := nl_win hv hr8 hct h8 hbt hE hr82 h82 hbt2 hE2
             refine x_skip ?_
             refine hK19 _ _ ?_
             refine x_seq fun K23 hK23 => ?_
             refine x_mixed_c (Lc := [.obj ga (.cells (KAsk r ct tx) 52 (0, 0)), .rd A 21 (l).length (arows (l)), .vec Aj cj 39 21 ((normP (l ++ [noteA l r tx ct]))).length (arows ((normP (l ++ [noteA l r tx ct])))), .vec Aq cq 39 21 ([noteA l r2 tx2 ct]).length (arows ([noteA l r2 tx2 ct]))]) [] 0 [24, 25, 26, 137, 138, 139, 140, 141, 142, 143, 144, 145, 146, 147, 148] (fun f w => ∃ gx : Nat, f 24 = .pointer (some ⟨gx, 0, none⟩) ∧ f 26 = .int .u8 ((noteR (normP ((normP (l ++ [noteA l r2 tx2 ct])) ++ (normP (l ++ [noteA l r tx ct])))) ct : Nat) : Int) ∧ St NoB w0 w [.obj gx (.cells (ic .u8 (noteT (normP ((normP (l ++ [noteA l r2 tx2 ct])) ++ (normP (l ++ [noteA l r tx ct])))) ct)) 31 (0, 0)), .obj ga (.cells (KAsk r ct tx) 52 (0, 0)), .obj gb (.cells (KAsk r2 ct2 tx2) 52 (0, 0))]) (by kernel_rfl) (by kernel_rfl) (by kernel_rfl) (by decide) hS (fun w22 hS => ?mixpre1801) ?mixrest1801
             case mixpre1801 =>
              refine p_nil ?_
              simp only [List.length_cons, List.length_nil, Nat.reduceAdd, Nat.reduceSub]
              refine any_go (i := 0) (by rfl) (by decide +kernel) (by decide +kernel) noLate_nil (go_yields w_none (fun w hS => s_move)) ?_
              try simp only [opv, n1, n2, n3, n4, Value.cells]
              refine any_go (i := 1) (by rfl) (by decide +kernel) (by decide +kernel) noLate_nil (go_yields w_none (fun w hS => s_move)) ?_
              try simp only [opv, n1, n2, n3, n4, Value.cells]
              refine any_go (i := 3) (by rfl) (by decide +kernel) (by decide +kernel) noLate_nil (go_yields w_none (fun w hS => s_move)) ?_
              try simp only [opv, n1, n2, n3, n4, Value.cells]
              first | refine any_go (i := 5) (by rfl) (by decide +kernel) (by decide +kernel) noLate_nil (go_yields w_none (fun w hS => m_fieldAddr Try.underlying52 (hi := ti29))) ?_ | refine any_go (i := 5) (by rfl) (by decide +kernel) (by decide +kernel) noLate_nil (go_yields w_none (fun w hS => m_fieldAddr_rd Try.underlying52 (hi := ti29) (hS := hS))) ?_ | refine any_go (i := 5) (by rfl) (by decide +kernel) (by decide +kernel) noLate_nil (go_yields w_none (fun w hS => m_fieldAddr_vec Try.underlying52 (hi := ti29) (hS := hS))) ?_
              try simp only [opv, n1, n2, n3, n4, Value.cells, Nat.zero_add, Nat.add_zero, List.getElem_toArray, List.getElem_cons_zero, List.getElem_cons_succ]
              first | refine any_go (i := 6) (by rfl) (by decide +kernel) (by decide +kernel) noLate_nil (go_yields w_none (fun w hS => m_load_obj Try.underlying29 (hS := hS) (hv := by first | rfl | exact zi_get rfl (by omega) | exact ic_get (by omega) | exact il_get (by omega)))) ?_ | refine any_go (i := 6) (by rfl) (by decide +kernel) (by decide +kernel) noLate_nil (go_yields w_none (fun w hS => m_load_bx Try.underlying29 (hS := hS) (hv := by first | rfl | exact zi_get rfl (by omega) | exact ic_get (by omega) | exact il_get (by omega)))) ?_ | refine any_go (i := 6) (by rfl) (by decide +kernel) (by decide +kernel) noLate_nil (go_yields w_none (fun w hS => m_load_rd Try.underlying29 (hS := hS) (hv := by first | rfl | exact zi_get rfl (by omega) | exact ic_get (by omega) | exact il_get (by omega)))) ?_ | refine any_go (i := 6) (by rfl) (by decide +kernel) (by decide +kernel) noLate_nil (go_yields w_none (fun w hS => m_load_vec Try.underlying29 (hS := hS) (hv := by first | rfl | exact zi_get rfl (by omega) | exact ic_get (by omega) | exact il_get (by omega)))) ?_
              try simp only [opv, n1, n2, n3, n4, Value.cells, List.getElem_toArray, List.getElem_cons_zero, List.getElem_cons_succ]
              try rw [show (askL r ct tx).getD 1 0 = (ct : Int) from rfl]
              refine any_step [2, 12] (by kernel_rfl) (by decide) (fun w23 hE => ⟨fun _ => (hS.ext hE).sel (by repeat (first | exact Sel.nil | (refine Sel.cons (by repeat (first | exact Del.head | apply Del.tail)) ?_))), ?_⟩)
              replace hS := hS.ext hE
              intro i hi
              simp only [List.mem_cons, List.not_mem_nil, or_false] at hi
              rcases hi with rfl | rfl
              ·
               refine any_op (by rfl) ?_
               refine s_call en34 ?_
               try simp only [opv, n1, n2, n3, n4, Value.cells, List.map_toArray, List.map_cons, List.map_nil, List.append_toArray, List.cons_append, List.nil_append, Array.append_empty]
               refine CallR.mono (c_ref10Join _ A c l (hS.hasRd (by repeat (first | exact Has.head | apply Has.tail))) hv Aq cq [noteA l r2 tx2 ct] (hS.vecRd (by repeat (first | exact Has.head | apply Has.tail))) hBs.ok (by simp only [List.length_cons, List.length_nil]; omega)) ?_
               rintro _ w24 ⟨Ar, cr, rfl, hC24⟩
               replace hS := hS.call hC24
               simp only [List.cons_append, List.nil_append] at hS
               try simp only [opv, n1, n2, n3, n4, Value.cells]
               refine x_nil ?_
               refine any_step [4, 12] (by kernel_rfl) (by decide) (fun w25 hE => ⟨fun _ => (hS.ext hE).sel (by repeat (first | exact Sel.nil | (refine Sel.cons (by repeat (first | exact Del.head | apply Del.tail)) ?_))), ?_⟩)
               replace hS := hS.ext hE
               intro i hi
               simp only [List.mem_cons, List.not_mem_nil, or_false] at hi
               rcases hi with rfl | rfl
               ·
                refine any_op (by rfl) ?_
                refine s_call en34 ?_
                try simp only [opv, n1, n2, n3, n4, Value.cells, List.map_toArray, List.map_cons, List.map_nil, List.append_toArray, List.cons_append, List.nil_append, Array.append_empty]
                refine CallR.mono (c_ref10Join _ Ar cr (normP (l ++ [noteA l r2 tx2 ct])) (hS.vecRd (by repeat (first | exact Has.head | apply Has.tail))) hjo2 Aj cj (normP (l ++ [noteA l r tx ct])) (hS.vecRd (by repeat (first | exact Has.head | apply Has.tail))) hjo (by omega)) ?_
                rintro _ w26 ⟨As, cs, rfl, hC26⟩
                replace hS := hS.call hC26
                simp only [List.cons_append, List.nil_append] at hS
                try simp only [opv, n1, n2, n3, n4, Value.cells]
                refine x_nil ?_
                refine any_step [7, 12] (by kernel_rfl) (by decide) (fun w27 hE => ⟨fun _ => (hS.ext hE).sel (by repeat (first | exact Sel.nil | (refine Sel.cons (by repeat (first | exact Del.head | apply Del.tail)) ?_))), ?_⟩)
                replace hS := hS.ext hE
                intro i hi
                simp only [List.mem_cons, List.not_mem_nil, or_false] at hi
                rcases hi with rfl | rfl
                ·
                 refine any_op (by rfl) ?_
                 refine s_call en43 ?_
                 try simp only [opv, n1, n2, n3, n4, Value.cells, List.map_toArray, List.map_cons, List.map_nil, List.append_toArray, List.cons_append, List.nil_append, Array.append_empty]
                 refine CallR.mono (c_noteGet _ As cs (normP ((normP (l ++ [noteA l r2 tx2 ct])) ++ (normP (l ++ [noteA l r tx ct])))) (hS.vecRd (by repeat (first | exact Has.head | apply Has.tail))) hfo (by omega) ct hct) ?_
                 rintro _ w28 ⟨rfl, hE28⟩
                 replace hS := hS.ext hE28
                 try simp only [opv, n1, n2, n3, n4, Value.cells]
                 refine x_nil ?_
                 refine any_go (i := 8) (by rfl) (by decide +kernel) (by decide +kernel) noLate_nil (go_yields w_none (fun w hS => s_move)) ?_
                 try simp only [opv, n1, n2, n3, n4, Value.cells]
                 refine any_go (i := 9) (by rfl) (by decide +kernel) (by decide +kernel) noLate_nil (go_yields w_none (fun w hS => s_extract (hv := rfl))) ?_
                 try simp only [List.getElem_toArray, List.getElem_cons_zero, List.getElem_cons_succ]
                 try simp only [opv, n1, n2, n3, n4, Value.cells]
                 refine any_go (i := 10) (by rfl) (by decide +kernel) (by decide +kernel) noLate_nil (go_yields w_none (fun w hS => s_extract (hv := rfl))) ?_
                 try simp only [List.getElem_toArray, List.getElem_cons_zero, List.getElem_cons_succ]
                 try simp only [opv, n1, n2, n3, n4, Value.cells]
                 refine any_go (i := 11) (by rfl) (by decide +kernel) (by decide +kernel) noLate_nil (go_yields w_none (fun w hS => s_extract (hv := rfl))) ?_
                 try simp only [List.getElem_toArray, List.getElem_cons_zero, List.getElem_cons_succ]
                 try simp only [opv, n1, n2, n3, n4, Value.cells]
                 refine any_step [12] (by kernel_rfl) (by decide) (fun w29 hE => ⟨fun _ => (hS.ext hE).sel (by repeat (first | exact Sel.nil | (refine Sel.cons (by repeat (first | exact Del.head | apply Del.tail)) ?_))), ?_⟩)
                 replace hS := hS.ext hE
                 intro i hi
                 simp only [List.mem_cons, List.not_mem_nil, or_false] at hi
                 subst hi
                 ·
                  refine any_op (by rfl) ?_
                  refine m_alloc ti31 hS (fun w30 g30 hS => ?_)
                  try simp only [opv, n1, n2, n3, n4, Value.cells, Array.toArray_toList] at hS ⊢
                  replace hS : St _ _ w30 (.obj g30 (.cells (ic .u8 nm0) 31 (0, 0)) :: _) := hS
                  refine x_nil ?_
                  refine any_step [13] (by kernel_rfl) (by decide) (fun w31 hE => ⟨fun _ => (hS.ext hE).sel (by repeat (first | exact Sel.nil | (refine Sel.cons (by repeat (first | exact Del.head | apply Del.tail)) ?_))), ?_⟩)
                  replace hS := hS.ext hE
                  intro i hi
                  simp only [List.mem_cons, List.not_mem_nil, or_false] at hi
                  subst hi
                  ·
                   refine any_op (by rfl) ?_
                   first | refine m_store_obj ti31 (hS := hS) (hc := by first | exact zi_set rfl (by omega) | exact zi_whole (by omega) (by omega) | (first | exact splice_ic (by first | omega | (simp [*]; done) | (simp [*]; omega)) | exact splice_il (by first | omega | (simp [*]; done) | (simp [*]; omega)) | exact splice_whole (by first | (simp [opv, Value.cells, *]; done) | rfl) | (simp only [opv, n1, n2, Value.cells, splice, List.take_succ_cons, List.take_zero, List.drop_succ_cons, List.drop_zero, List.length_cons, List.length_nil, Nat.zero_add, Nat.reduceAdd, List.append_assoc, List.cons_append, List.nil_append]; rfl))) (hv := by first | rfl | (show (zi _ _).toArray.size = _; rw [zi_size (by omega)]; rfl) | (simp [opv, Value.cells, *]; done)) (hfit := by first | omega | (rw [zi_size (by omega)]; first | rfl | decide) | (simp only [ic_size, List.length_map, List.size_toArray]; first | omega | decide) | rfl | (simp [*]; done) | (simp [*]; omega)) (h1 := by first | exact zi_one _ _ | exact ic_one _ _ | simp [opv, Value.cells, Value.oneCell']) (h := fun w32 hS => ?_) | refine m_store_vec ti31 (hS := hS) (hc := by first | exact zi_set rfl (by omega) | exact zi_whole (by omega) (by omega) | (first | exact splice_ic (by first | omega | (simp [*]; done) | (simp [*]; omega)) | exact splice_il (by first | omega | (simp [*]; done) | (simp [*]; omega)) | exact splice_whole (by first | (simp [opv, Value.cells, *]; done) | rfl) | (simp only [opv, n1, n2, Value.cells, splice, List.take_succ_cons, List.take_zero, List.drop_succ_cons, List.drop_zero, List.length_cons, List.length_nil, Nat.zero_add, Nat.reduceAdd, List.append_assoc, List.cons_append, List.nil_append]; rfl))) (hv := by first | rfl | (show (zi _ _).toArray.size = _; rw [zi_size (by omega)]; rfl) | (simp [opv, Value.cells, *]; done)) (hfit := by first | omega | (rw [zi_size (by omega)]; first | rfl | decide) | (simp only [ic_size, List.length_map, List.size_toArray]; first | omega | decide) | rfl | (simp [*]; done) | (simp [*]; omega)) (h1 := by first | exact zi_one _ _ | exact ic_one _ _ | simp [opv, Value.cells, Value.oneCell']) (h := fun w32 hS => ?_)
                   try simp only [opv, n1, n2, n3, n4, Value.cells, Array.toArray_toList] at hS ⊢
                   refine x_nil ?_
                   refine any_go (i := 14) (by rfl) (by decide +kernel) (by decide +kernel) noLate_nil (go_yields w_none (fun w hS => s_assign)) ?_
                   try simp only [opv, n1, n2, n3, n4, Value.cells]
                   refine any_go (i := 15) (by rfl) (by decide +kernel) (by decide +kernel) noLate_nil (go_yields w_none (fun w hS => s_assign)) ?_
                   try simp only [opv, n1, n2, n3, n4, Value.cells]
                   refine any_nil (by kernel_rfl) (fun w33 hE => ?_)
                   replace hS := hS.ext hE
                   refine ⟨fun _ => hS.sel (by repeat (first | exact Sel.nil | (refine Sel.cons (by repeat (first | exact Del.head | apply Del.tail)) ?_))), ?_⟩
                   refine mix_leaf (by simp only [clob, List.foldl, n1, n2, n3, n4]) ?_
                   try simp only [n1, n2]
                   exact ⟨_, by first | trivial | rfl, by first | trivial | rfl, hS.sel (by repeat (first | exact Sel.nil | (refine Sel.cons (by repeat (first | exact Del.head | apply Del.tail)) ?_)))⟩
                ·
                 refine any_op (by rfl) ?_
                 refine m_alloc ti31 hS (fun w34 g34 hS => ?_)
                 try simp only [opv, n1, n2, n3, n4, Value.cells, Array.toArray_toList] at hS ⊢
                 replace hS : St _ _ w34 (.obj g34 (.cells (ic .u8 nm0) 31 (0, 0)) :: _) := hS
                 refine x_nil ?_
                 refine any_step [7] (by kernel_rfl) (by decide) (fun w35 hE => ⟨fun _ => (hS.ext hE).sel (by repeat (first | exact Sel.nil | (refine Sel.cons (by repeat (first | exact Del.head | apply Del.tail)) ?_))), ?_⟩)
                 replace hS := hS.ext hE
                 intro i hi
                 simp only [List.mem_cons, List.not_mem_nil, or_false] at hi
                 subst hi
                 ·
                  refine any_op (by rfl) ?_
                  refine s_call en43 ?_
                  try simp only [opv, n1, n2, n3, n4, Value.cells, List.map_toArray, List.map_cons, List.map_nil, List.append_toArray, List.cons_append, List.nil_append, Array.append_empty]
                  refine CallR.mono (c_noteGet _ As cs (normP ((normP (l ++ [noteA l r2 tx2 ct])) ++ (normP (l ++ [noteA l r tx ct])))) (hS.vecRd (by repeat (first | exact Has.head | apply Has.tail))) hfo (by omega) ct hct) ?_
                  rintro _ w36 ⟨rfl, hE36⟩
                  replace hS := hS.ext hE36
                  try simp only [opv, n1, n2, n3, n4, Value.cells]
                  refine x_nil ?_
                  refine any_go (i := 8) (by rfl) (by decide +kernel) (by decide +kernel) noLate_nil (go_yields w_none (fun w hS => s_move)) ?_
                  try simp only [opv, n1, n2, n3, n4, Value.cells]
                  refine any_go (i := 9) (by rfl) (by decide +kernel) (by decide +kernel) noLate_nil (go_yields w_none (fun w hS => s_extract (hv := rfl))) ?_
                  try simp only [List.getElem_toArray, List.getElem_cons_zero, List.getElem_cons_succ]
                  try simp only [opv, n1, n2, n3, n4, Value.cells]
                  refine any_go (i := 10) (by rfl) (by decide +kernel) (by decide +kernel) noLate_nil (go_yields w_none (fun w hS => s_extract (hv := rfl))) ?_
                  try simp only [List.getElem_toArray, List.getElem_cons_zero, List.getElem_cons_succ]
                  try simp only [opv, n1, n2, n3, n4, Value.cells]
                  refine any_go (i := 11) (by rfl) (by decide +kernel) (by decide +kernel) noLate_nil (go_yields w_none (fun w hS => s_extract (hv := rfl))) ?_
                  try simp only [List.getElem_toArray, List.getElem_cons_zero, List.getElem_cons_succ]
                  try simp only [opv, n1, n2, n3, n4, Value.cells]
                  refine any_step [13] (by kernel_rfl) (by decide) (fun w37 hE => ⟨fun _ => (hS.ext hE).sel (by repeat (first | exact Sel.nil | (refine Sel.cons (by repeat (first | exact Del.head | apply Del.tail)) ?_))), ?_⟩)
                  replace hS := hS.ext hE
                  intro i hi
                  simp only [List.mem_cons, List.not_mem_nil, or_false] at hi
                  subst hi
                  ·
                   refine any_op (by rfl) ?_
                   first | refine m_store_obj ti31 (hS := hS) (hc := by first | exact zi_set rfl (by omega) | exact zi_whole (by omega) (by omega) | (first | exact splice_ic (by first | omega | (simp [*]; done) | (simp [*]; omega)) | exact splice_il (by first | omega | (simp [*]; done) | (simp [*]; omega)) | exact splice_whole (by first | (simp [opv, Value.cells, *]; done) | rfl) | (simp only [opv, n1, n2, Value.cells, splice, List.take_succ_cons, List.take_zero, List.drop_succ_cons, List.drop_zero, List.length_cons, List.length_nil, Nat.zero_add, Nat.reduceAdd, List.append_assoc, List.cons_append, List.nil_append]; rfl))) (hv := by first | rfl | (show (zi _ _).toArray.size = _; rw [zi_size (by omega)]; rfl) | (simp [opv, Value.cells, *]; done)) (hfit := by first | omega | (rw [zi_size (by omega)]; first | rfl | decide) | (simp only [ic_size, List.length_map, List.size_toArray]; first | omega | decide) | rfl | (simp [*]; done) | (simp [*]; omega)) (h1 := by first | exact zi_one _ _ | exact ic_one _ _ | simp [opv, Value.cells, Value.oneCell']) (h := fun w38 hS => ?_) | refine m_store_vec ti31 (hS := hS) (hc := by first | exact zi_set rfl (by omega) | exact zi_whole (by omega) (by omega) | (first | exact splice_ic (by first | omega | (simp [*]; done) | (simp [*]; omega)) | exact splice_il (by first | omega | (simp [*]; done) | (simp [*]; omega)) | exact splice_whole (by first | (simp [opv, Value.cells, *]; done) | rfl) | (simp only [opv, n1, n2, Value.cells, splice, List.take_succ_cons, List.take_zero, List.drop_succ_cons, List.drop_zero, List.length_cons, List.length_nil, Nat.zero_add, Nat.reduceAdd, List.append_assoc, List.cons_append, List.nil_append]; rfl))) (hv := by first | rfl | (show (zi _ _).toArray.size = _; rw [zi_size (by omega)]; rfl) | (simp [opv, Value.cells, *]; done)) (hfit := by first | omega | (rw [zi_size (by omega)]; first | rfl | decide) | (simp only [ic_size, List.length_map, List.size_toArray]; first | omega | decide) | rfl | (simp [*]; done) | (simp [*]; omega)) (h1 := by first | exact zi_one _ _ | exact ic_one _ _ | simp [opv, Value.cells, Value.oneCell']) (h := fun w38 hS => ?_)
                   try simp only [opv, n1, n2, n3, n4, Value.cells, Array.toArray_toList] at hS ⊢
                   refine x_nil ?_
                   refine any_go (i := 14) (by rfl) (by decide +kernel) (by decide +kernel) noLate_nil (go_yields w_none (fun w hS => s_assign)) ?_
                   try simp only [opv, n1, n2, n3, n4, Value.cells]
                   refine any_go (i := 15) (by rfl) (by decide +kernel) (by decide +kernel) noLate_nil (go_yields w_none (fun w hS => s_assign)) ?_
                   try simp only [opv, n1, n2, n3, n4, Value.cells]
                   refine any_nil (by kernel_rfl) (fun w39 hE => ?_)
                   replace hS := hS.ext hE
                   refine ⟨fun _ => hS.sel (by repeat (first | exact Sel.nil | (refine Sel.cons (by repeat (first | exact Del.head | apply Del.tail)) ?_))), ?_⟩
                   refine mix_leaf (by simp only [clob, List.foldl, n1, n2, n3, n4]) ?_
                   try simp only [n1, n2]
                   exact ⟨_, by first | trivial | rfl, by first | trivial | rfl, hS.sel (by repeat (first | exact Sel.nil | (refine Sel.cons (by repeat (first | exact Del.head | apply Del.tail)) ?_)))⟩
               ·
                refine any_op (by rfl) ?_
                refine m_alloc ti31 hS (fun w40 g40 hS => ?_)
                try simp only [opv, n1, n2, n3, n4, Value.cells, Array.toArray_toList] at hS ⊢
                replace hS : St _ _ w40 (.obj g40 (.cells (ic .u8 nm0) 31 (0, 0)) :: _) := hS
                refine x_nil ?_
                refine any_step [4] (by kernel_rfl) (by decide) (fun w41 hE => ⟨fun _ => (hS.ext hE).sel (by repeat (first | exact Sel.nil | (refine Sel.cons (by repeat (first | exact Del.head | apply Del.tail)) ?_))), ?_⟩)
                replace hS := hS.ext hE
                intro i hi
                simp only [List.mem_cons, List.not_mem_nil, or_false] at hi
                subst hi
                ·
                 refine any_op (by rfl) ?_
                 refine s_call en34 ?_
                 try simp only [opv, n1, n2, n3, n4, Value.cells, List.map_toArray, List.map_cons, List.map_nil, List.append_toArray, List.cons_append, List.nil_append, Array.append_empty]
                 refine CallR.mono (c_ref10Join _ Ar cr (normP (l ++ [noteA l r2 tx2 ct])) (hS.vecRd (by repeat (first | exact Has.head | apply Has.tail))) hjo2 Aj cj (normP (l ++ [noteA l r tx ct])) (hS.vecRd (by repeat (first | exact Has.head | apply Has.tail))) hjo (by omega)) ?_
                 rintro _ w42 ⟨As, cs, rfl, hC42⟩
                 replace hS := hS.call hC42
                 simp only [List.cons_append, List.nil_append] at hS
                 try simp only [opv, n1, n2, n3, n4, Value.cells]
                 refine x_nil ?_
                 refine any_step [7] (by kernel_rfl) (by decide) (fun w43 hE => ⟨fun _ => (hS.ext hE).sel (by repeat (first | exact Sel.nil | (refine Sel.cons (by repeat (first | exact Del.head | apply Del.tail)) ?_))), ?_⟩)
                 replace hS := hS.ext hE
                 intro i hi
                 simp only [List.mem_cons, List.not_mem_nil, or_false] at hi
                 subst hi
                 ·
                  refine any_op (by rfl) ?_
                  refine s_call en43 ?_
                  try simp only [opv, n1, n2, n3, n4, Value.cells, List.map_toArray, List.map_cons, List.map_nil, List.append_toArray, List.cons_append, List.nil_append, Array.append_empty]
                  refine CallR.mono (c_noteGet _ As cs (normP ((normP (l ++ [noteA l r2 tx2 ct])) ++ (normP (l ++ [noteA l r tx ct])))) (hS.vecRd (by repeat (first | exact Has.head | apply Has.tail))) hfo (by omega) ct hct) ?_
                  rintro _ w44 ⟨rfl, hE44⟩
                  replace hS := hS.ext hE44
                  try simp only [opv, n1, n2, n3, n4, Value.cells]
                  refine x_nil ?_
                  refine any_go (i := 8) (by rfl) (by decide +kernel) (by decide +kernel) noLate_nil (go_yields w_none (fun w hS => s_move)) ?_
                  try simp only [opv, n1, n2, n3, n4, Value.cells]
                  refine any_go (i := 9) (by rfl) (by decide +kernel) (by decide +kernel) noLate_nil (go_yields w_none (fun w hS => s_extract (hv := rfl))) ?_
                  try simp only [List.getElem_toArray, List.getElem_cons_zero, List.getElem_cons_succ]
                  try simp only [opv, n1, n2, n3, n4, Value.cells]
                  refine any_go (i := 10) (by rfl) (by decide +kernel) (by decide +kernel) noLate_nil (go_yields w_none (fun w hS => s_extract (hv := rfl))) ?_
                  try simp only [List.getElem_toArray, List.getElem_cons_zero, List.getElem_cons_succ]
                  try simp only [opv, n1, n2, n3, n4, Value.cells]
                  refine any_go (i := 11) (by rfl) (by decide +kernel) (by decide +kernel) noLate_nil (go_yields w_none (fun w hS => s_extract (hv := rfl))) ?_
                  try simp only [List.getElem_toArray, List.getElem_cons_zero, List.getElem_cons_succ]
                  try simp only [opv, n1, n2, n3, n4, Value.cells]
                  refine any_step [13] (by kernel_rfl) (by decide) (fun w45 hE => ⟨fun _ => (hS.ext hE).sel (by repeat (first | exact Sel.nil | (refine Sel.cons (by repeat (first | exact Del.head | apply Del.tail)) ?_))), ?_⟩)
                  replace hS := hS.ext hE
                  intro i hi
                  simp only [List.mem_cons, List.not_mem_nil, or_false] at hi
                  subst hi
                  ·
                   refine any_op (by rfl) ?_
                   first | refine m_store_obj ti31 (hS := hS) (hc := by first | exact zi_set rfl (by omega) | exact zi_whole (by omega) (by omega) | (first | exact splice_ic (by first | omega | (simp [*]; done) | (simp [*]; omega)) | exact splice_il (by first | omega | (simp [*]; done) | (simp [*]; omega)) | exact splice_whole (by first | (simp [opv, Value.cells, *]; done) | rfl) | (simp only [opv, n1, n2, Value.cells, splice, List.take_succ_cons, List.take_zero, List.drop_succ_cons, List.drop_zero, List.length_cons, List.length_nil, Nat.zero_add, Nat.reduceAdd, List.append_assoc, List.cons_append, List.nil_append]; rfl))) (hv := by first | rfl | (show (zi _ _).toArray.size = _; rw [zi_size (by omega)]; rfl) | (simp [opv, Value.cells, *]; done)) (hfit := by first | omega | (rw [zi_size (by omega)]; first | rfl | decide) | (simp only [ic_size, List.length_map, List.size_toArray]; first | omega | decide) | rfl | (simp [*]; done) | (simp [*]; omega)) (h1 := by first | exact zi_one _ _ | exact ic_one _ _ | simp [opv, Value.cells, Value.oneCell']) (h := fun w46 hS => ?_) | refine m_store_vec ti31 (hS := hS) (hc := by first | exact zi_set rfl (by omega) | exact zi_whole (by omega) (by omega) | (first | exact splice_ic (by first | omega | (simp [*]; done) | (simp [*]; omega)) | exact splice_il (by first | omega | (simp [*]; done) | (simp [*]; omega)) | exact splice_whole (by first | (simp [opv, Value.cells, *]; done) | rfl) | (simp only [opv, n1, n2, Value.cells, splice, List.take_succ_cons, List.take_zero, List.drop_succ_cons, List.drop_zero, List.length_cons, List.length_nil, Nat.zero_add, Nat.reduceAdd, List.append_assoc, List.cons_append, List.nil_append]; rfl))) (hv := by first | rfl | (show (zi _ _).toArray.size = _; rw [zi_size (by omega)]; rfl) | (simp [opv, Value.cells, *]; done)) (hfit := by first | omega | (rw [zi_size (by omega)]; first | rfl | decide) | (simp only [ic_size, List.length_map, List.size_toArray]; first | omega | decide) | rfl | (simp [*]; done) | (simp [*]; omega)) (h1 := by first | exact zi_one _ _ | exact ic_one _ _ | simp [opv, Value.cells, Value.oneCell']) (h := fun w46 hS => ?_)
                   try simp only [opv, n1, n2, n3, n4, Value.cells, Array.toArray_toList] at hS ⊢
                   refine x_nil ?_
                   refine any_go (i := 14) (by rfl) (by decide +kernel) (by decide +kernel) noLate_nil (go_yields w_none (fun w hS => s_assign)) ?_
                   try simp only [opv, n1, n2, n3, n4, Value.cells]
                   refine any_go (i := 15) (by rfl) (by decide +kernel) (by decide +kernel) noLate_nil (go_yields w_none (fun w hS => s_assign)) ?_
                   try simp only [opv, n1, n2, n3, n4, Value.cells]
                   refine any_nil (by kernel_rfl) (fun w47 hE => ?_)
                   replace hS := hS.ext hE
                   refine ⟨fun _ => hS.sel (by repeat (first | exact Sel.nil | (refine Sel.cons (by repeat (first | exact Del.head | apply Del.tail)) ?_))), ?_⟩
                   refine mix_leaf (by simp only [clob, List.foldl, n1, n2, n3, n4]) ?_
                   try simp only [n1, n2]
                   exact ⟨_, by first | trivial | rfl, by first | trivial | rfl, hS.sel (by repeat (first | exact Sel.nil | (refine Sel.cons (by repeat (first | exact Del.head | apply Del.tail)) ?_)))⟩
              ·
               refine any_op (by rfl) ?_
               refine m_alloc ti31 hS (fun w48 g48 hS => ?_)
               try simp only [opv, n1, n2, n3, n4, Value.cells, Array.toArray_toList] at hS ⊢
               replace hS : St _ _ w48 (.obj g48 (.cells (ic .u8 nm0) 31 (0, 0)) :: _) := hS
               refine x_nil ?_
               refine any_step [2] (by kernel_rfl) (by decide) (fun w49 hE => ⟨fun _ => (hS.ext hE).sel (by repeat (first | exact Sel.nil | (refine Sel.cons (by repeat (first | exact Del.head | apply Del.tail)) ?_))), ?_⟩)
               replace hS := hS.ext hE
               intro i hi
               simp only [List.mem_cons, List.not_mem_nil, or_false] at hi
               subst hi
               ·
                refine any_op (by rfl) ?_
                refine s_call en34 ?_
                try simp only [opv, n1, n2, n3, n4, Value.cells, List.map_toArray, List.map_cons, List.map_nil, List.append_toArray, List.cons_append, List.nil_append, Array.append_empty]
                refine CallR.mono (c_ref10Join _ A c l (hS.hasRd (by repeat (first | exact Has.head | apply Has.tail))) hv Aq cq [noteA l r2 tx2 ct] (hS.vecRd (by repeat (first | exact Has.head | apply Has.tail))) hBs.ok (by simp only [List.length_cons, List.length_nil]; omega)) ?_
                rintro _ w50 ⟨Ar, cr, rfl, hC50⟩
                replace hS := hS.call hC50
                simp only [List.cons_append, List.nil_append] at hS
                try simp only [opv, n1, n2, n3, n4, Value.cells]
                refine x_nil ?_
                refine any_step [4] (by kernel_rfl) (by decide) (fun w51 hE => ⟨fun _ => (hS.ext hE).sel (by repeat (first | exact Sel.nil | (refine Sel.cons (by repeat (first | exact Del.head | apply Del.tail)) ?_))), ?_⟩)
                replace hS := hS.ext hE
                intro i hi
                simp only [List.mem_cons, List.not_mem_nil, or_false] at hi
                subst hi
                ·
                 refine any_op (by rfl) ?_
                 refine s_call en34 ?_
                 try simp only [opv, n1, n2, n3, n4, Value.cells, List.map_toArray, List.map_cons, List.map_nil, List.append_toArray, List.cons_append, List.nil_append, Array.append_empty]
                 refine CallR.mono (c_ref10Join _ Ar cr (normP (l ++ [noteA l r2 tx2 ct])) (hS.vecRd (by repeat (first | exact Has.head | apply Has.tail))) hjo2 Aj cj (normP (l ++ [noteA l r tx ct])) (hS.vecRd (by repeat (first | exact Has.head | apply Has.tail))) hjo (by omega)) ?_
                 rintro _ w52 ⟨As, cs, rfl, hC52⟩
                 replace hS := hS.call hC52
                 simp only [List.cons_append, List.nil_append] at hS
                 try simp only [opv, n1, n2, n3, n4, Value.cells]
                 refine x_nil ?_
                 refine any_step [7] (by kernel_rfl) (by decide) (fun w53 hE => ⟨fun _ => (hS.ext hE).sel (by repeat (first | exact Sel.nil | (refine Sel.cons (by repeat (first | exact Del.head | apply Del.tail)) ?_))), ?_⟩)
                 replace hS := hS.ext hE
                 intro i hi
                 simp only [List.mem_cons, List.not_mem_nil, or_false] at hi
                 subst hi
                 ·
                  refine any_op (by rfl) ?_
                  refine s_call en43 ?_
                  try simp only [opv, n1, n2, n3, n4, Value.cells, List.map_toArray, List.map_cons, List.map_nil, List.append_toArray, List.cons_append, List.nil_append, Array.append_empty]
                  refine CallR.mono (c_noteGet _ As cs (normP ((normP (l ++ [noteA l r2 tx2 ct])) ++ (normP (l ++ [noteA l r tx ct])))) (hS.vecRd (by repeat (first | exact Has.head | apply Has.tail))) hfo (by omega) ct hct) ?_
                  rintro _ w54 ⟨rfl, hE54⟩
                  replace hS := hS.ext hE54
                  try simp only [opv, n1, n2, n3, n4, Value.cells]
                  refine x_nil ?_
                  refine any_go (i := 8) (by rfl) (by decide +kernel) (by decide +kernel) noLate_nil (go_yields w_none (fun w hS => s_move)) ?_
                  try simp only [opv, n1, n2, n3, n4, Value.cells]
                  refine any_go (i := 9) (by rfl) (by decide +kernel) (by decide +kernel) noLate_nil (go_yields w_none (fun w hS => s_extract (hv := rfl))) ?_
                  try simp only [List.getElem_toArray, List.getElem_cons_zero, List.getElem_cons_succ]
                  try simp only [opv, n1, n2, n3, n4, Value.cells]
                  refine any_go (i := 10) (by rfl) (by decide +kernel) (by decide +kernel) noLate_nil (go_yields w_none (fun w hS => s_extract (hv := rfl))) ?_
                  try simp only [List.getElem_toArray, List.getElem_cons_zero, List.getElem_cons_succ]
                  try simp only [opv, n1, n2, n3, n4, Value.cells]
                  refine any_go (i := 11) (by rfl) (by decide +kernel) (by decide +kernel) noLate_nil (go_yields w_none (fun w hS => s_extract (hv := rfl))) ?_
                  try simp only [List.getElem_toArray, List.getElem_cons_zero, List.getElem_cons_succ]
                  try simp only [opv, n1, n2, n3, n4, Value.cells]
                  refine any_step [13] (by kernel_rfl) (by decide) (fun w55 hE => ⟨fun _ => (hS.ext hE).sel (by repeat (first | exact Sel.nil | (refine Sel.cons (by repeat (first | exact Del.head | apply Del.tail)) ?_))), ?_⟩)
                  replace hS := hS.ext hE
                  intro i hi
                  simp only [List.mem_cons, List.not_mem_nil, or_false] at hi
                  subst hi
                  ·
                   refine any_op (by rfl) ?_
                   first | refine m_store_obj ti31 (hS := hS) (hc := by first | exact zi_set rfl (by omega) | exact zi_whole (by omega) (by omega) | (first | exact splice_ic (by first | omega | (simp [*]; done) | (simp [*]; omega)) | exact splice_il (by first | omega | (simp [*]; done) | (simp [*]; omega)) | exact splice_whole (by first | (simp [opv, Value.cells, *]; done) | rfl) | (simp only [opv, n1, n2, Value.cells, splice, List.take_succ_cons, List.take_zero, List.drop_succ_cons, List.drop_zero, List.length_cons, List.length_nil, Nat.zero_add, Nat.reduceAdd, List.append_assoc, List.cons_append, List.nil_append]; rfl))) (hv := by first | rfl | (show (zi _ _).toArray.size = _; rw [zi_size (by omega)]; rfl) | (simp [opv, Value.cells, *]; done)) (hfit := by first | omega | (rw [zi_size (by omega)]; first | rfl | decide) | (simp only [ic_size, List.length_map, List.size_toArray]; first | omega | decide) | rfl | (simp [*]; done) | (simp [*]; omega)) (h1 := by first | exact zi_one _ _ | exact ic_one _ _ | simp [opv, Value.cells, Value.oneCell']) (h := fun w56 hS => ?_) | refine m_store_vec ti31 (hS := hS) (hc := by first | exact zi_set rfl (by omega) | exact zi_whole (by omega) (by omega) | (first | exact splice_ic (by first | omega | (simp [*]; done) | (simp [*]; omega)) | exact splice_il (by first | omega | (simp [*]; done) | (simp [*]; omega)) | exact splice_whole (by first | (simp [opv, Value.cells, *]; done) | rfl) | (simp only [opv, n1, n2, Value.cells, splice, List.take_succ_cons, List.take_zero, List.drop_succ_cons, List.drop_zero, List.length_cons, List.length_nil, Nat.zero_add, Nat.reduceAdd, List.append_assoc, List.cons_append, List.nil_append]; rfl))) (hv := by first | rfl | (show (zi _ _).toArray.size = _; rw [zi_size (by omega)]; rfl) | (simp [opv, Value.cells, *]; done)) (hfit := by first | omega | (rw [zi_size (by omega)]; first | rfl | decide) | (simp only [ic_size, List.length_map, List.size_toArray]; first | omega | decide) | rfl | (simp [*]; done) | (simp [*]; omega)) (h1 := by first | exact zi_one _ _ | exact ic_one _ _ | simp [opv, Value.cells, Value.oneCell']) (h := fun w56 hS => ?_)
                   try simp only [opv, n1, n2, n3, n4, Value.cells, Array.toArray_toList] at hS ⊢
                   refine x_nil ?_
                   refine any_go (i := 14) (by rfl) (by decide +kernel) (by decide +kernel) noLate_nil (go_yields w_none (fun w hS => s_assign)) ?_
                   try simp only [opv, n1, n2, n3, n4, Value.cells]
                   refine any_go (i := 15) (by rfl) (by decide +kernel) (by decide +kernel) noLate_nil (go_yields w_none (fun w hS => s_assign)) ?_
                   try simp only [opv, n1, n2, n3, n4, Value.cells]
                   refine any_nil (by kernel_rfl) (fun w57 hE => ?_)
                   replace hS := hS.ext hE
                   refine ⟨fun _ => hS.sel (by repeat (first | exact Sel.nil | (refine Sel.cons (by repeat (first | exact Del.head | apply Del.tail)) ?_))), ?_⟩
                   refine mix_leaf (by simp only [clob, List.foldl, n1, n2, n3, n4]) ?_
                   try simp only [n1, n2]
                   exact ⟨_, by first | trivial | rfl, by first | trivial | rfl, hS.sel (by repeat (first | exact Sel.nil | (refine Sel.cons (by repeat (first | exact Del.head | apply Del.tail)) ?_)))⟩
             intro fm1 w58 hM
             obtain ⟨gx, h24, h26, hS⟩ := hM
             simp only [clob, List.foldl, n3, n4, h24, h26]
             refine hK23 _ _ ?_
             refine x_seq fun K24 hK24 => ?_
             refine x_region ?_
             first | refine s_go (m_fieldAddr Try.underlying52 (hi := ti5)) ?_ | refine s_go (m_fieldAddr_rd Try.underlying52 (hi := ti5) (hS := hS)) ?_ | refine s_go (m_fieldAddr_vec Try.underlying52 (hi := ti5) (hS := hS)) ?_
             try simp only [opv, n1, n2, n3, n4, Value.cells, Nat.zero_add, Nat.add_zero, List.getElem_toArray, List.getElem_cons_zero, List.getElem_cons_succ]
             first | refine s_go (m_load_obj Try.underlying5 (hS := hS) (hv := by first | rfl | exact zi_get rfl (by omega) | exact ic_get (by omega) | exact il_get (by omega))) ?_ | refine s_go (m_load_bx Try.underlying5 (hS := hS) (hv := by first | rfl | exact zi_get rfl (by omega) | exact ic_get (by omega) | exact il_get (by omega))) ?_ | refine s_go (m_load_rd Try.underlying5 (hS := hS) (hv := by first | rfl | exact zi_get rfl (by omega) | exact ic_get (by omega) | exact il_get (by omega))) ?_ | refine s_go (m_load_vec Try.underlying5 (hS := hS) (hv := by first | rfl | exact zi_get rfl (by omega) | exact ic_get (by omega) | exact il_get (by omega))) ?_
             try simp only [opv, n1, n2, n3, n4, Value.cells, List.getElem_toArray, List.getElem_cons_zero, List.getElem_cons_succ]
             try rw [show (askL r ct tx).getD 0 0 = (r : Int) from rfl]
             first | refine s_go (m_fieldAddr Try.underlying52 (hi := ti5)) ?_ | refine s_go (m_fieldAddr_rd Try.underlying52 (hi := ti5) (hS := hS)) ?_ | refine s_go (m_fieldAddr_vec Try.underlying52 (hi := ti5) (hS := hS)) ?_
             try simp only [opv, n1, n2, n3, n4, Value.cells, Nat.zero_add, Nat.add_zero, List.getElem_toArray, List.getElem_cons_zero, List.getElem_cons_succ]
             first | refine s_go (m_load_obj Try.underlying5 (hS := hS) (hv := by first | rfl | exact zi_get rfl (by omega) | exact ic_get (by omega) | exact il_get (by omega))) ?_ | refine s_go (m_load_bx Try.underlying5 (hS := hS) (hv := by first | rfl | exact zi_get rfl (by omega) | exact ic_get (by omega) | exact il_get (by omega))) ?_ | refine s_go (m_load_rd Try.underlying5 (hS := hS) (hv := by first | rfl | exact zi_get rfl (by omega) | exact ic_get (by omega) | exact il_get (by omega))) ?_ | refine s_go (m_load_vec Try.underlying5 (hS := hS) (hv := by first | rfl | exact zi_get rfl (by omega) | exact ic_get (by omega) | exact il_get (by omega))) ?_
             try simp only [opv, n1, n2, n3, n4, Value.cells, List.getElem_toArray, List.getElem_cons_zero, List.getElem_cons_succ]
             try rw [show (askL r2 ct2 tx2).getD 0 0 = (r2 : Int) from rfl]
             refine s_go (s_gtr) ?_
             try simp only [opv, n1, n2, n3, n4, Value.cells]
             refine s_go (s_move) ?_
             try simp only [opv, n1, n2, n3, n4, Value.cells]
             refine s_part 154 rfl (fun hp2 => ?_) (fun hp2 => ?_)
             ·
              try simp only [n3, n4]
              try simp only [decide_eq_true_eq, decide_eq_false_iff_not, Bool.not_eq_true', Bool.not_eq_false', Int.not_lt, Int.not_le, ne_eq, Decidable.not_not] at hp2
              first
              | (exfalso; omega)
              | skip
                have hlt : r2 < r := by omega
                rw [if_pos hlt] at hwin
                have hft : noteT (normP ((normP (l ++ [noteA l r2 tx2 ct])) ++ (normP (l ++ [noteA l r tx ct])))) ct = tx := by rw [noteT, hwin]; rfl
                have hfr : noteR (normP ((normP (l ++ [noteA l r2 tx2 ct])) ++ (normP (l ++ [noteA l r tx ct])))) ct = r := by rw [noteR, hwin]; exact nx_r hr8
                refine g_on (yi (t := 154) rfl rfl) ?_
                first | refine s_go (m_load_row Try.underlying31 (hi := ti31) (hS := hS) (hfit := by first | omega | (rw [zi_size (by omega)]; first | rfl | decide) | (simp only [ic_size, List.length_map, List.size_toArray]; first | omega | decide) | rfl | (simp [*]; done) | (simp [*]; omega))) ?_ | refine s_go (m_loada_obj Try.underlying31 (hi := ti31) (hS := hS) (hfit := by first | omega | (rw [zi_size (by omega)]; first | rfl | decide) | (simp only [ic_size, List.length_map, List.size_toArray]; first | omega | decide) | rfl | (simp [*]; done) | (simp [*]; omega))) ?_ | refine s_go (m_loada_bx Try.underlying31 (hi := ti31) (hS := hS) (hfit := by first | omega | (rw [zi_size (by omega)]; first | rfl | decide) | (simp only [ic_size, List.length_map, List.size_toArray]; first | omega | decide) | rfl | (simp [*]; done) | (simp [*]; omega))) ?_ | refine s_go (m_loada_rd Try.underlying31 (hi := ti31) (hS := hS) (hfit := by first | omega | (rw [zi_size (by omega)]; first | rfl | decide) | (simp only [ic_size, List.length_map, List.size_toArray]; first | omega | decide) | rfl | (simp [*]; done) | (simp [*]; omega))) ?_ | refine s_go (m_loada_vec Try.underlying31 (hi := ti31) (hS := hS) (hfit := by first | omega | (rw [zi_size (by omega)]; first | rfl | decide) | (simp only [ic_size, List.length_map, List.size_toArray]; first | omega | decide) | rfl | (simp [*]; done) | (simp [*]; omega))) ?_
                try simp only [opv, n1, n2, n3, n4, Value.cells, List.getElem_toArray, List.getElem_cons_zero, List.getElem_cons_succ]
                refine g_on (yi (t := 154) rfl rfl) ?_
                first | refine s_go (m_fieldAddr Try.underlying52 (hi := ti31)) ?_ | refine s_go (m_fieldAddr_rd Try.underlying52 (hi := ti31) (hS := hS)) ?_ | refine s_go (m_fieldAddr_vec Try.underlying52 (hi := ti31) (hS := hS)) ?_
                try simp only [opv, n1, n2, n3, n4, Value.cells, Nat.zero_add, Nat.add_zero, List.getElem_toArray, List.getElem_cons_zero, List.getElem_cons_succ]
                refine g_on (yi (t := 154) rfl rfl) ?_
                first | refine s_go (m_load_row Try.underlying31 (hi := ti31) (hS := hS) (hfit := by first | omega | (rw [zi_size (by omega)]; first | rfl | decide) | (simp only [ic_size, List.length_map, List.size_toArray]; first | omega | decide) | rfl | (simp [*]; done) | (simp [*]; omega))) ?_ | refine s_go (m_loada_obj Try.underlying31 (hi := ti31) (hS := hS) (hfit := by first | omega | (rw [zi_size (by omega)]; first | rfl | decide) | (simp only [ic_size, List.length_map, List.size_toArray]; first | omega | decide) | rfl | (simp [*]; done) | (simp [*]; omega))) ?_ | refine s_go (m_loada_bx Try.underlying31 (hi := ti31) (hS := hS) (hfit := by first | omega | (rw [zi_size (by omega)]; first | rfl | decide) | (simp only [ic_size, List.length_map, List.size_toArray]; first | omega | decide) | rfl | (simp [*]; done) | (simp [*]; omega))) ?_ | refine s_go (m_loada_rd Try.underlying31 (hi := ti31) (hS := hS) (hfit := by first | omega | (rw [zi_size (by omega)]; first | rfl | decide) | (simp only [ic_size, List.length_map, List.size_toArray]; first | omega | decide) | rfl | (simp [*]; done) | (simp [*]; omega))) ?_ | refine s_go (m_loada_vec Try.underlying31 (hi := ti31) (hS := hS) (hfit := by first | omega | (rw [zi_size (by omega)]; first | rfl | decide) | (simp only [ic_size, List.length_map, List.size_toArray]; first | omega | decide) | rfl | (simp [*]; done) | (simp [*]; omega))) ?_
                try simp only [opv, n1, n2, n3, n4, Value.cells, List.getElem_toArray, List.getElem_cons_zero, List.getElem_cons_succ]
                rw [ask_text h8]
                refine g_on (yi (t := 154) rfl rfl) ?_
                refine s_go (s_eql_agg eqv31 (hg := eg31) (hX := zi_ic (by assumption)) (hY := zi_ic (by assumption)) (h1 := by assumption) (h2 := by assumption)) ?_
                try simp only [opv, n1, n2, n3, n4, Value.cells]
                rw [decide_eq_true hft]
                first | refine s_go (s_pick_t) ?_ | refine s_go (s_pick_f) ?_
                try simp only [opv, n1, n2, n3, n4, Value.cells]
                refine s_go (s_move) ?_
                try simp only [opv, n1, n2, n3, n4, Value.cells]
                refine g_on (yi (t := 160) rfl rfl) ?_
                refine s_go (s_move) ?_
                try simp only [opv, n1, n2, n3, n4, Value.cells]
                refine g_on (yi (t := 160) rfl rfl) ?_
                first | refine s_go (m_fieldAddr Try.underlying52 (hi := ti5)) ?_ | refine s_go (m_fieldAddr_rd Try.underlying52 (hi := ti5) (hS := hS)) ?_ | refine s_go (m_fieldAddr_vec Try.underlying52 (hi := ti5) (hS := hS)) ?_
                try simp only [opv, n1, n2, n3, n4, Value.cells, Nat.zero_add, Nat.add_zero, List.getElem_toArray, List.getElem_cons_zero, List.getElem_cons_succ]
                refine g_on (yi (t := 160) rfl rfl) ?_
                first | refine s_go (m_load_obj Try.underlying5 (hS := hS) (hv := by first | rfl | exact zi_get rfl (by omega) | exact ic_get (by omega) | exact il_get (by omega))) ?_ | refine s_go (m_load_bx Try.underlying5 (hS := hS) (hv := by first | rfl | exact zi_get rfl (by omega) | exact ic_get (by omega) | exact il_get (by omega))) ?_ | refine s_go (m_load_rd Try.underlying5 (hS := hS) (hv := by first | rfl | exact zi_get rfl (by omega) | exact ic_get (by omega) | exact il_get (by omega))) ?_ | refine s_go (m_load_vec Try.underlying5 (hS := hS) (hv := by first | rfl | exact zi_get rfl (by omega) | exact ic_get (by omega) | exact il_get (by omega))) ?_
                try simp only [opv, n1, n2, n3, n4, Value.cells, List.getElem_toArray, List.getElem_cons_zero, List.getElem_cons_succ]
                try rw [show (askL r ct tx).getD 0 0 = (r : Int) from rfl]
                refine g_on (yi (t := 160) rfl rfl) ?_
                refine s_go (s_eql) ?_
                try simp only [opv, n1, n2, n3, n4, Value.cells]
                rw [decide_eq_true (show ((noteR (normP ((normP (l ++ [noteA l r2 tx2 ct])) ++ (normP (l ++ [noteA l r tx ct])))) ct : Nat) : Int) = (r : Int) by rw [hfr])]
                first | refine s_go (s_pick_t) ?_ | refine s_go (s_pick_f) ?_
                try simp only [opv, n1, n2, n3, n4, Value.cells]
                refine s_go (s_move) ?_
                try simp only [opv, n1, n2, n3, n4, Value.cells]
                refine g_off (yi (t := 166) rfl rfl) ?_
                try simp only [opv, n1, n2, n3, n4, Value.cells]
                refine g_off (yi (t := 166) rfl rfl) ?_
                try simp only [opv, n1, n2, n3, n4, Value.cells]
                refine g_off (yi (t := 166) rfl rfl) ?_
                try simp only [opv, n1, n2, n3, n4, Value.cells]
                refine g_off (yi (t := 166) rfl rfl) ?_
                try simp only [opv, n1, n2, n3, n4, Value.cells]
                refine g_off (yi (t := 166) rfl rfl) ?_
                try simp only [opv, n1, n2, n3, n4, Value.cells]
                refine g_off (yi (t := 166) rfl rfl) ?_
                try simp only [opv, n1, n2, n3, n4, Value.cells]
                refine g_un (yn (t := 172) rfl rfl) ?_
                try simp only [opv, n1, n2, n3, n4, Value.cells]
                refine g_un (yn (t := 172) rfl rfl) ?_
                try simp only [opv, n1, n2, n3, n4, Value.cells]
                refine g_un (yn (t := 172) rfl rfl) ?_
                try simp only [opv, n1, n2, n3, n4, Value.cells]
                refine g_un (yn (t := 172) rfl rfl) ?_
                try simp only [opv, n1, n2, n3, n4, Value.cells]
                refine g_off (yi (t := 166) rfl rfl) ?_
                try simp only [opv, n1, n2, n3, n4, Value.cells]
                refine g_off (yi (t := 166) rfl rfl) ?_
                try simp only [opv, n1, n2, n3, n4, Value.cells]
                refine g_un (yn (t := 178) rfl rfl) ?_
                try simp only [opv, n1, n2, n3, n4, Value.cells]
                refine g_un (yn (t := 178) rfl rfl) ?_
                try simp only [opv, n1, n2, n3, n4, Value.cells]
                refine g_un (yn (t := 178) rfl rfl) ?_
                try simp only [opv, n1, n2, n3, n4, Value.cells]
                refine g_un (yn (t := 178) rfl rfl) ?_
                try simp only [opv, n1, n2, n3, n4, Value.cells]
                refine g_off (yi (t := 166) rfl rfl) ?_
                try simp only [opv, n1, n2, n3, n4, Value.cells]
                first | refine s_go (s_pick_t) ?_ | refine s_go (s_pick_f) ?_
                try simp only [opv, n1, n2, n3, n4, Value.cells]
                refine s_go (s_move) ?_
                try simp only [opv, n1, n2, n3, n4, Value.cells]
                refine g_on (yi (t := 185) rfl rfl) ?_
                refine s_call en41 ?_
                try simp only [opv, n1, n2, n3, n4, Value.cells, List.map_toArray, List.map_cons, List.map_nil, List.append_toArray, List.cons_append, List.nil_append, Array.append_empty]
                refine CallR.mono (c_law16alive _) ?_
                rintro _ w59 ⟨rfl, hE59⟩
                replace hS := hS.ext hE59
                try simp only [opv, n1, n2, n3, n4, Value.cells]
                first | refine s_go (s_pick_t) ?_ | refine s_go (s_pick_f) ?_
                try simp only [opv, n1, n2, n3, n4, Value.cells]
                refine s_go (s_assign) ?_
                try simp only [opv, n1, n2, n3, n4, Value.cells]
                refine x_nil ?_
                refine hK24 _ _ ?_
                refine x_ret ?_
                refine r_tmp rfl ?_
                exact ⟨rfl, hS.ext_of⟩
             ·
              try simp only [n3, n4]
              try simp only [decide_eq_true_eq, decide_eq_false_iff_not, Bool.not_eq_true', Bool.not_eq_false', Int.not_lt, Int.not_le, ne_eq, Decidable.not_not] at hp2
              first
              | (exfalso; omega)
              | skip
                have hlt : r < r2 := by omega
                rw [if_neg (by omega), if_pos hlt] at hwin
                have hft : noteT (normP ((normP (l ++ [noteA l r2 tx2 ct])) ++ (normP (l ++ [noteA l r tx ct])))) ct = tx2 := by rw [noteT, hwin]; rfl
                have hfr : noteR (normP ((normP (l ++ [noteA l r2 tx2 ct])) ++ (normP (l ++ [noteA l r tx ct])))) ct = r2 := by rw [noteR, hwin]; exact nx_r hr82
                refine g_off (yi (t := 154) rfl rfl) ?_
                try simp only [opv, n1, n2, n3, n4, Value.cells]
                refine g_off (yi (t := 154) rfl rfl) ?_
                try simp only [opv, n1, n2, n3, n4, Value.cells]
                refine g_off (yi (t := 154) rfl rfl) ?_
                try simp only [opv, n1, n2, n3, n4, Value.cells]
                refine g_off (yi (t := 154) rfl rfl) ?_
                try simp only [opv, n1, n2, n3, n4, Value.cells]
                first | refine s_go (s_pick_t) ?_ | refine s_go (s_pick_f) ?_
                try simp only [opv, n1, n2, n3, n4, Value.cells]
                refine s_go (s_move) ?_
                try simp only [opv, n1, n2, n3, n4, Value.cells]
                refine g_off (yi (t := 160) rfl rfl) ?_
                try simp only [opv, n1, n2, n3, n4, Value.cells]
                refine g_off (yi (t := 160) rfl rfl) ?_
                try simp only [opv, n1, n2, n3, n4, Value.cells]
                refine g_off (yi (t := 160) rfl rfl) ?_
                try simp only [opv, n1, n2, n3, n4, Value.cells]
                refine g_off (yi (t := 160) rfl rfl) ?_
                try simp only [opv, n1, n2, n3, n4, Value.cells]
                first | refine s_go (s_pick_t) ?_ | refine s_go (s_pick_f) ?_
                try simp only [opv, n1, n2, n3, n4, Value.cells]
                refine s_go (s_move) ?_
                try simp only [opv, n1, n2, n3, n4, Value.cells]
                refine g_on (yi (t := 166) rfl rfl) ?_
                first | refine s_go (m_fieldAddr Try.underlying52 (hi := ti5)) ?_ | refine s_go (m_fieldAddr_rd Try.underlying52 (hi := ti5) (hS := hS)) ?_ | refine s_go (m_fieldAddr_vec Try.underlying52 (hi := ti5) (hS := hS)) ?_
                try simp only [opv, n1, n2, n3, n4, Value.cells, Nat.zero_add, Nat.add_zero, List.getElem_toArray, List.getElem_cons_zero, List.getElem_cons_succ]
                refine g_on (yi (t := 166) rfl rfl) ?_
                first | refine s_go (m_load_obj Try.underlying5 (hS := hS) (hv := by first | rfl | exact zi_get rfl (by omega) | exact ic_get (by omega) | exact il_get (by omega))) ?_ | refine s_go (m_load_bx Try.underlying5 (hS := hS) (hv := by first | rfl | exact zi_get rfl (by omega) | exact ic_get (by omega) | exact il_get (by omega))) ?_ | refine s_go (m_load_rd Try.underlying5 (hS := hS) (hv := by first | rfl | exact zi_get rfl (by omega) | exact ic_get (by omega) | exact il_get (by omega))) ?_ | refine s_go (m_load_vec Try.underlying5 (hS := hS) (hv := by first | rfl | exact zi_get rfl (by omega) | exact ic_get (by omega) | exact il_get (by omega))) ?_
                try simp only [opv, n1, n2, n3, n4, Value.cells, List.getElem_toArray, List.getElem_cons_zero, List.getElem_cons_succ]
                try rw [show (askL r ct tx).getD 0 0 = (r : Int) from rfl]
                refine g_on (yi (t := 166) rfl rfl) ?_
                first | refine s_go (m_fieldAddr Try.underlying52 (hi := ti5)) ?_ | refine s_go (m_fieldAddr_rd Try.underlying52 (hi := ti5) (hS := hS)) ?_ | refine s_go (m_fieldAddr_vec Try.underlying52 (hi := ti5) (hS := hS)) ?_
                try simp only [opv, n1, n2, n3, n4, Value.cells, Nat.zero_add, Nat.add_zero, List.getElem_toArray, List.getElem_cons_zero, List.getElem_cons_succ]
                refine g_on (yi (t := 166) rfl rfl) ?_
                first | refine s_go (m_load_obj Try.underlying5 (hS := hS) (hv := by first | rfl | exact zi_get rfl (by omega) | exact ic_get (by omega) | exact il_get (by omega))) ?_ | refine s_go (m_load_bx Try.underlying5 (hS := hS) (hv := by first | rfl | exact zi_get rfl (by omega) | exact ic_get (by omega) | exact il_get (by omega))) ?_ | refine s_go (m_load_rd Try.underlying5 (hS := hS) (hv := by first | rfl | exact zi_get rfl (by omega) | exact ic_get (by omega) | exact il_get (by omega))) ?_ | refine s_go (m_load_vec Try.underlying5 (hS := hS) (hv := by first | rfl | exact zi_get rfl (by omega) | exact ic_get (by omega) | exact il_get (by omega))) ?_
                try simp only [opv, n1, n2, n3, n4, Value.cells, List.getElem_toArray, List.getElem_cons_zero, List.getElem_cons_succ]
                try rw [show (askL r2 ct2 tx2).getD 0 0 = (r2 : Int) from rfl]
                refine g_on (yi (t := 166) rfl rfl) ?_
                refine s_go (s_lss) ?_
                try simp only [opv, n1, n2, n3, n4, Value.cells]
                rw [decide_eq_true (show (r : Int) < (r2 : Int) by omega)]
                refine g_on (yi (t := 166) rfl rfl) ?_
                refine s_go (s_move) ?_
                try simp only [opv, n1, n2, n3, n4, Value.cells]
                refine g_on (yi (t := 172) rfl rfl) ?_
                first | refine s_go (m_load_row Try.underlying31 (hi := ti31) (hS := hS) (hfit := by first | omega | (rw [zi_size (by omega)]; first | rfl | decide) | (simp only [ic_size, List.length_map, List.size_toArray]; first | omega | decide) | rfl | (simp [*]; done) | (simp [*]; omega))) ?_ | refine s_go (m_loada_obj Try.underlying31 (hi := ti31) (hS := hS) (hfit := by first | omega | (rw [zi_size (by omega)]; first | rfl | decide) | (simp only [ic_size, List.length_map, List.size_toArray]; first | omega | decide) | rfl | (simp [*]; done) | (simp [*]; omega))) ?_ | refine s_go (m_loada_bx Try.underlying31 (hi := ti31) (hS := hS) (hfit := by first | omega | (rw [zi_size (by omega)]; first | rfl | decide) | (simp only [ic_size, List.length_map, List.size_toArray]; first | omega | decide) | rfl | (simp [*]; done) | (simp [*]; omega))) ?_ | refine s_go (m_loada_rd Try.underlying31 (hi := ti31) (hS := hS) (hfit := by first | omega | (rw [zi_size (by omega)]; first | rfl | decide) | (simp only [ic_size, List.length_map, List.size_toArray]; first | omega | decide) | rfl | (simp [*]; done) | (simp [*]; omega))) ?_ | refine s_go (m_loada_vec Try.underlying31 (hi := ti31) (hS := hS) (hfit := by first | omega | (rw [zi_size (by omega)]; first | rfl | decide) | (simp only [ic_size, List.length_map, List.size_toArray]; first | omega | decide) | rfl | (simp [*]; done) | (simp [*]; omega))) ?_
                try simp only [opv, n1, n2, n3, n4, Value.cells, List.getElem_toArray, List.getElem_cons_zero, List.getElem_cons_succ]
                refine g_on (yi (t := 172) rfl rfl) ?_
                first | refine s_go (m_fieldAddr Try.underlying52 (hi := ti31)) ?_ | refine s_go (m_fieldAddr_rd Try.underlying52 (hi := ti31) (hS := hS)) ?_ | refine s_go (m_fieldAddr_vec Try.underlying52 (hi := ti31) (hS := hS)) ?_
                try simp only [opv, n1, n2, n3, n4, Value.cells, Nat.zero_add, Nat.add_zero, List.getElem_toArray, List.getElem_cons_zero, List.getElem_cons_succ]
                refine g_on (yi (t := 172) rfl rfl) ?_
                first | refine s_go (m_load_row Try.underlying31 (hi := ti31) (hS := hS) (hfit := by first | omega | (rw [zi_size (by omega)]; first | rfl | decide) | (simp only [ic_size, List.length_map, List.size_toArray]; first | omega | decide) | rfl | (simp [*]; done) | (simp [*]; omega))) ?_ | refine s_go (m_loada_obj Try.underlying31 (hi := ti31) (hS := hS) (hfit := by first | omega | (rw [zi_size (by omega)]; first | rfl | decide) | (simp only [ic_size, List.length_map, List.size_toArray]; first | omega | decide) | rfl | (simp [*]; done) | (simp [*]; omega))) ?_ | refine s_go (m_loada_bx Try.underlying31 (hi := ti31) (hS := hS) (hfit := by first | omega | (rw [zi_size (by omega)]; first | rfl | decide) | (simp only [ic_size, List.length_map, List.size_toArray]; first | omega | decide) | rfl | (simp [*]; done) | (simp [*]; omega))) ?_ | refine s_go (m_loada_rd Try.underlying31 (hi := ti31) (hS := hS) (hfit := by first | omega | (rw [zi_size (by omega)]; first | rfl | decide) | (simp only [ic_size, List.length_map, List.size_toArray]; first | omega | decide) | rfl | (simp [*]; done) | (simp [*]; omega))) ?_ | refine s_go (m_loada_vec Try.underlying31 (hi := ti31) (hS := hS) (hfit := by first | omega | (rw [zi_size (by omega)]; first | rfl | decide) | (simp only [ic_size, List.length_map, List.size_toArray]; first | omega | decide) | rfl | (simp [*]; done) | (simp [*]; omega))) ?_
                try simp only [opv, n1, n2, n3, n4, Value.cells, List.getElem_toArray, List.getElem_cons_zero, List.getElem_cons_succ]
                rw [ask_text h82]
                refine g_on (yi (t := 172) rfl rfl) ?_
                refine s_go (s_eql_agg eqv31 (hg := eg31) (hX := zi_ic (by assumption)) (hY := zi_ic (by assumption)) (h1 := by assumption) (h2 := by assumption)) ?_
                try simp only [opv, n1, n2, n3, n4, Value.cells]
                rw [decide_eq_true hft]
                refine g_on (yi (t := 166) rfl rfl) ?_
                first | refine s_go (s_pick_t) ?_ | refine s_go (s_pick_f) ?_
                try simp only [opv, n1, n2, n3, n4, Value.cells]
                refine g_on (yi (t := 166) rfl rfl) ?_
                refine s_go (s_move) ?_
                try simp only [opv, n1, n2, n3, n4, Value.cells]
                refine g_on (yi (t := 178) rfl rfl) ?_
                refine s_go (s_move) ?_
                try simp only [opv, n1, n2, n3, n4, Value.cells]
                refine g_on (yi (t := 178) rfl rfl) ?_
                first | refine s_go (m_fieldAddr Try.underlying52 (hi := ti5)) ?_ | refine s_go (m_fieldAddr_rd Try.underlying52 (hi := ti5) (hS := hS)) ?_ | refine s_go (m_fieldAddr_vec Try.underlying52 (hi := ti5) (hS := hS)) ?_
                try simp only [opv, n1, n2, n3, n4, Value.cells, Nat.zero_add, Nat.add_zero, List.getElem_toArray, List.getElem_cons_zero, List.getElem_cons_succ]
                refine g_on (yi (t := 178) rfl rfl) ?_
                first | refine s_go (m_load_obj Try.underlying5 (hS := hS) (hv := by first | rfl | exact zi_get rfl (by omega) | exact ic_get (by omega) | exact il_get (by omega))) ?_ | refine s_go (m_load_bx Try.underlying5 (hS := hS) (hv := by first | rfl | exact zi_get rfl (by omega) | exact ic_get (by omega) | exact il_get (by omega))) ?_ | refine s_go (m_load_rd Try.underlying5 (hS := hS) (hv := by first | rfl | exact zi_get rfl (by omega) | exact ic_get (by omega) | exact il_get (by omega))) ?_ | refine s_go (m_load_vec Try.underlying5 (hS := hS) (hv := by first | rfl | exact zi_get rfl (by omega) | exact ic_get (by omega) | exact il_get (by omega))) ?_
                try simp only [opv, n1, n2, n3, n4, Value.cells, List.getElem_toArray, List.getElem_cons_zero, List.getElem_cons_succ]
                try rw [show (askL r2 ct2 tx2).getD 0 0 = (r2 : Int) from rfl]
                refine g_on (yi (t := 178) rfl rfl) ?_
                refine s_go (s_eql) ?_
                try simp only [opv, n1, n2, n3, n4, Value.cells]
                rw [decide_eq_true (show ((noteR (normP ((normP (l ++ [noteA l r2 tx2 ct])) ++ (normP (l ++ [noteA l r tx ct])))) ct : Nat) : Int) = (r2 : Int) by rw [hfr])]
                refine g_on (yi (t := 166) rfl rfl) ?_
                first | refine s_go (s_pick_t) ?_ | refine s_go (s_pick_f) ?_
                try simp only [opv, n1, n2, n3, n4, Value.cells]
                first | refine s_go (s_pick_t) ?_ | refine s_go (s_pick_f) ?_
                try simp only [opv, n1, n2, n3, n4, Value.cells]
                refine s_go (s_move) ?_
                try simp only [opv, n1, n2, n3, n4, Value.cells]
                refine g_on (yi (t := 185) rfl rfl) ?_
                refine s_call en41 ?_
                try simp only [opv, n1, n2, n3, n4, Value.cells, List.map_toArray, List.map_cons, List.map_nil, List.append_toArray, List.cons_append, List.nil_append, Array.append_empty]
                refine CallR.mono (c_law16alive _) ?_
                rintro _ w60 ⟨rfl, hE60⟩
                replace hS := hS.ext hE60
                try simp only [opv, n1, n2, n3, n4, Value.cells]
                first | refine s_go (s_pick_t) ?_ | refine s_go (s_pick_f) ?_
                try simp only [opv, n1, n2, n3, n4, Value.cells]
                refine s_go (s_assign) ?_
                try simp only [opv, n1, n2, n3, n4, Value.cells]
                refine x_nil ?_
                refine hK24 _ _ ?_
                refine x_ret ?_
                refine r_tmp rfl ?_
                exact ⟨rfl, hS.ext_of⟩
end Go.Proofs.Ytmgacmkikefpjaa
set_option linter.unusedSimpArgs false
set_option linter.unusedVariables false
set_option maxHeartbeats 1000000
set_option maxRecDepth 100000
namespace Go.Proofs.Ytmgacmkikefpjaa
open Go.RowKit

def halfB (x : List Int) : Bool := decide (kn x 0 = 2 ∨ kn x 0 = 3)
def halfN (l : List (List Int)) (x : List Int) : Nat := if halfB x = true then kn ((fnd x (normP l)).getD v9) 0 else 0
def turnK (s r c : Nat) (it : List Int) : List Int := mkKey s c it r 0
def turnE (l : List (List Int)) (s r c : Nat) (it : List Int) (n : Int) : Int := if 16 ≤ r ∨ n < 0 ∨ nright it = false then 1 else if 4294967295 < (halfN l (turnK s r c it) : Int) + n then 8 else 0
end Go.Proofs.Ytmgacmkikefpjaa
set_option linter.unusedSimpArgs false
set_option linter.unusedVariables false
set_option maxHeartbeats 1000000
set_option maxRecDepth 100000
namespace Go.Proofs.Ytmgacmkikefpjaa
open Go.RowKit

def cup8 : List Int := [99, 117, 112, 0, 0, 0, 0, 0]
theorem ct2 : turnE [] 2 0 1 cup8 3 = 0 := by decide +kernel
end Go.Proofs.Ytmgacmkikefpjaa
set_option linter.unusedSimpArgs false
set_option linter.unusedVariables false
set_option maxHeartbeats 800000
set_option maxRecDepth 100000
namespace Go.Proofs.Ytmgacmkikefpjaa
open Go.ChangeShapes Go.WideShapes Go.ChangeAt Go.RowKit

theorem rows_aok {l : List (List Int)} (h : ∀ x ∈ l, x.length = atomKs.length ∧ ∀ i k, atomKs[i]? = some k → (Lit.int k (x.getD i 0)).wf = true) : AOks l := fun x hx => by
  obtain ⟨h1, h2⟩ := h x hx
  have W : World := { heap := #[], tape := fun _ _ => 0, drawn := 0, os := default, output := #[] }
  obtain ⟨a, e, ha⟩ := atom_open (w := W) (allOk_of h1 h2)
  rw [zi_inj h1 (by simpa using ha.len) e]; exact ha
theorem open_rows {w : World} {n : Nat} {xs : List Value} {A : Option Addr} (hr : Rd w A 21 n xs) (h : ∀ i, i < n → AllOk w (atomKs.map LK.int) ((xs.drop (i * 21)).take 21)) : ∃ l : List (List Int), l.length = n ∧ xs = arows l ∧ AOks l := by
  obtain ⟨l, hl, e, hok⟩ := rowsZ_open (w := w) (ks := atomKs) (n := n) (xs := xs) hr.1 h
  exact ⟨l, hl, e, rows_aok hok⟩
end Go.Proofs.Ytmgacmkikefpjaa
set_option linter.unusedSimpArgs false
set_option linter.unusedVariables false
set_option maxHeartbeats 800000
set_option maxRecDepth 100000
namespace Go.Proofs.Ytmgacmkikefpjaa
open Go.ChangeShapes Go.WideShapes Go.ChangeAt Go.RowKit

theorem text_byt {x : List Int} {ks : List IntKind} (hx : ∀ i k, ks[i]? = some k → (Lit.int k (x.getD i 0)).wf = true) (h : ∀ j, j < 8 → ks[2 + j]? = some .u8) : Byt ((x.drop 2).take 8) := by
  intro y hy
  obtain ⟨j, hj, rfl⟩ := List.getElem_of_mem hy
  have hj2 : j < 8 ∧ 2 + j < x.length := by rw [List.length_take, List.length_drop] at hj; omega
  have := bounds_u8 (hx (2 + j) _ (h j hj2.1))
  rw [List.getD_eq_getElem?_getD, List.getElem?_eq_getElem hj2.2] at this
  simpa using this
theorem ask_open {w : World} {cs : List Value} (h : AllOk w (askKs.map LK.int) cs) : ∃ (r c : Nat) (tx : List Int), cs = zi askKs (askL r c tx) ∧ r < 256 ∧ c < 65536 ∧ tx.length = 8 ∧ Byt tx := by
  obtain ⟨x, rfl, hl, hx⟩ := allOk_zi h
  have hl : x.length = 10 := hl
  have h0 := wf_u8 (hx 0 _ rfl)
  have h1 := wf_u16 (hx 1 _ rfl)
  have hb := text_byt hx (fun j hj => by
    have : j = 0 ∨ j = 1 ∨ j = 2 ∨ j = 3 ∨ j = 4 ∨ j = 5 ∨ j = 6 ∨ j = 7 := by omega
    rcases this with rfl | rfl | rfl | rfl | rfl | rfl | rfl | rfl <;> rfl)
  refine ⟨(x.getD 0 0).toNat, (x.getD 1 0).toNat, (x.drop 2).take 8, ?_, h0.2, h1.2, by simp [hl], hb⟩
  match x, hl with
  | [a, b, c, d, e, f, g, i, j, k], _ =>
    simp only [List.getD_cons_zero, List.getD_cons_succ] at h0 h1
    show zi askKs [a, b, c, d, e, f, g, i, j, k] = zi askKs [((a.toNat : Nat) : Int), ((b.toNat : Nat) : Int), c, d, e, f, g, i, j, k]
    rw [← h0.1, ← h1.1]
end Go.Proofs.Ytmgacmkikefpjaa
namespace Go.Proofs.Ytmgacmkikefpjaa
open Go.ChangeShapes Go.WideShapes Go.ChangeAt Go.RowKit
theorem own0 : ownKnob Try.prog.godebug = none := by kernel_rfl
theorem laidOut0 : laidOutB Try.prog = true := by kernel_rfl
theorem fl5 : Flat Try.prog 5 [LK.int .u8] := flat_int Try.underlying5
theorem fl29 : Flat Try.prog 29 [LK.int .u16] := flat_int Try.underlying29
theorem fl31 : Flat Try.prog 31 (List.replicate 8 [LK.int .u8]).flatten := flat_arr Try.underlying31 fl5 rfl (by kernel_rfl) (by kernel_rfl)
theorem fl32 : Flat Try.prog 32 [LK.int .u32] := flat_int Try.underlying32
theorem fl34 : Flat Try.prog 34 ([LK.int .u8] ++ ([LK.int .u16] ++ ((List.replicate 8 [LK.int .u8]).flatten ++ ([LK.int .u8] ++ ([LK.int .u32] ++ ([])))))) := flat_struct Try.underlying34 (.cons rfl fl5 rfl (by kernel_rfl) (.cons rfl fl29 rfl (by kernel_rfl) (.cons rfl fl31 rfl (by kernel_rfl) (.cons rfl fl5 rfl (by kernel_rfl) (.cons rfl fl32 rfl (by kernel_rfl) (.nil)))))) (by kernel_rfl)
theorem fl35 : Flat Try.prog 35 [LK.int .u64] := flat_int Try.underlying35
theorem fl37 : Flat Try.prog 37 ([LK.int .u64] ++ ((List.replicate 8 [LK.int .u8]).flatten ++ ([]))) := flat_struct Try.underlying37 (.cons rfl fl35 rfl (by kernel_rfl) (.cons rfl fl31 rfl (by kernel_rfl) (.nil))) (by kernel_rfl)
theorem fl39 : Flat Try.prog 39 (([LK.int .u8] ++ ([LK.int .u16] ++ ((List.replicate 8 [LK.int .u8]).flatten ++ ([LK.int .u8] ++ ([LK.int .u32] ++ ([])))))) ++ (([LK.int .u64] ++ ((List.replicate 8 [LK.int .u8]).flatten ++ ([]))) ++ ([]))) := flat_struct Try.underlying39 (.cons rfl fl34 rfl (by kernel_rfl) (.cons rfl fl37 rfl (by kernel_rfl) (.nil))) (by kernel_rfl)
theorem fl52 : Flat Try.prog 52 ([LK.int .u8] ++ ([LK.int .u16] ++ ((List.replicate 8 [LK.int .u8]).flatten ++ ([])))) := flat_struct Try.underlying52 (.cons rfl fl5 rfl (by kernel_rfl) (.cons rfl fl29 rfl (by kernel_rfl) (.cons rfl fl31 rfl (by kernel_rfl) (.nil)))) (by kernel_rfl)
end Go.Proofs.Ytmgacmkikefpjaa
namespace Go.Proofs.Ytmgacmkikefpjaa
theorem ws_cons {c : Char} (h : c ≠ Char.ofNat 32) (x : List Char) : wordsSigns (c :: x) = (match wordsSigns x with | w :: ws => (c :: w) :: ws | [] => [[c]]) := by
  conv => lhs; unfold wordsSigns
  split
  · simp_all
  · next h1 => exact absurd (by simpa using (List.cons.inj h1).1) h
  · next h1 => obtain ⟨rfl, rfl⟩ := List.cons.inj h1; rfl
theorem ws_app (b : List Char) : ∀ (a : List Char), (∀ c ∈ a, c ≠ Char.ofNat 32) → wordsSigns (a ++ Char.ofNat 32 :: b) = a :: wordsSigns b
  | [], _ => rfl
  | c :: r, h => by
    rw [List.cons_append, ws_cons (h c (by simp)), ws_app b r (fun x hx => h x (by simp [hx]))]
/-- the head's words: harness, a sum, cut -/
theorem head_words {P : Program} {s b : List Char} (he : P.initOrder = String.ofList ("harness".toList ++ Char.ofNat 32 :: (s ++ Char.ofNat 32 :: ("cut".toList ++ Char.ofNat 32 :: b)))) (hs : isSumSigns s = true) (hb : ∀ c ∈ s, c ≠ Char.ofNat 32) :
    ∃ R, behindMainWord (wordsSigns P.initOrder.toList) = "cut".toList :: R := by
  refine ⟨wordsSigns b, ?_⟩
  rw [he, String.toList_ofList, ws_app _ _ (by decide), ws_app _ _ hb, ws_app _ _ (by decide)]
  simp only [behindMainWord, hs, beq_self_eq_true, Bool.true_or, Bool.and_self, if_true]
theorem e_gc : ("cut".toList == "gc".toList) = false := by decide
theorem e_spec : ("cut".toList == "spec".toList) = false := by decide
theorem e_car : ("cut".toList == "carried".toList) = false := by decide
theorem e_sl (R : List (List Char)) : stripLifts liftWords ("cut".toList :: R) = ([], "cut".toList :: R) := by
  have h : ∀ (l : List String), (∀ o ∈ l, ("cut".toList == o.toList) = false) → stripLifts l ("cut".toList :: R) = ([], "cut".toList :: R) := by
    intro l
    induction l with
    | nil => intro _; rfl
    | cons o os ih => intro hl; rw [stripLifts, hl o (by simp)]; simp only [Bool.false_eq_true, if_false]; exact ih fun x hx => hl x (by simp [hx])
  exact h liftWords (by decide)
section
variable {P : Program} (h : ∃ R, behindMainWord (wordsSigns P.initOrder.toList) = "cut".toList :: R)
include h
theorem make_of : P.make = some .cut := by
  obtain ⟨R, h⟩ := h
  unfold Program.make
  rw [h]
  simp only [e_gc, e_spec, beq_self_eq_true, Bool.or_self, Bool.true_or, Bool.false_eq_true, if_false, if_true]
theorem lifts_of : P.liftsFinal = false := by
  obtain ⟨R, h⟩ := h
  unfold Program.liftsFinal Program.headLifts
  rw [h, e_sl]
  show (_ || _) = false
  rfl
theorem enter_of (hl : P.laysLater = false) (hr : P.bearsReflect = false) (hd : P.doorFits [] = true) : P.mayEnter = true := by
  obtain ⟨R, h⟩ := h
  unfold Program.mayEnter
  rw [h]
  dsimp only
  rw [e_sl, hl, hr]
  simp only [hd, e_gc, e_spec, e_car, beq_self_eq_true, Bool.or_self, Bool.false_and, Bool.not_false, Bool.or_true, Bool.and_true, List.head?_cons, List.contains_nil]
end
theorem closed_of {P : Program} {f : FuncId} {fn : Func} {s : ChangeSpec} {c : OpenClaim} (hm : P.make = some .cut) (hl : P.liftsFinal = false) (he : P.mayEnter = true) (h2 : laidOutB P = true) (h3 : mapsRowed P = true) (hst : (P.stops == []) = true) (hk : (P.stopKnobs == []) = true)
    (hp : P.plainKeys = c.plainKeys) (hh : P.stopsHeard = true) (i1 : P.inPlace f = c.inPlace) (i2 : P.unfollowed f = c.unfollowed) (i3 : P.recurses f = c.recurses) (i4 : P.varsNamed f = c.named)
    (rest : (c.wf (OpenSpec.ofChange s) && fn.params.all (P.readableRec ·) && namedTie P c.named s.vars && (c.stops == []) && (c.knobs == []) &&
      (c.maps == (fn.params.toList ++ s.plain.varTypes P).any (P.mapsRec ·)) && (c.ifaces == (fn.params.toList ++ s.plain.varTypes P).any (P.ifacesRec ·)) && (c.mapsOut == P.mapsAmong fn.resultTypes.toList) &&
      (c.loops == (fn.params.toList ++ s.plain.varTypes P).any (P.loopsFrom ·)) && (c.wideKeys == (fn.params.toList ++ s.plain.varTypes P ++ fn.resultTypes.toList).any (P.wideKeysFrom ·)) &&
      s.vars.all (P.varReadable ·) && fn.resultTypes.all (fun t => P.readableRec t && decide (t < P.types.size)) && (c.ifacesOut == fn.resultTypes.toList.any (P.ifacesRec ·)) && (c.loopsOut == fn.resultTypes.toList.any (P.loopsFrom ·)) && c.shortTexts.isNone && (c.lifted == false) && (some Make.cut == some c.make) &&
      (c.kinds == (if c.domain.isEmpty then [] else fn.params.toList.map fun t => match P.underlying t with | some (.int k) => some k | _ => none)) && (c.pinned == c.pinnedBy) &&
      (c.veiled == (fn.params.toList ++ s.plain.varTypes P ++ fn.resultTypes.toList).any (P.veiledRec ·)) && c.veiledFits P fn.params.toList (fn.params.toList ++ s.plain.varTypes P ++ fn.resultTypes.toList)) = true) : joinedFacts P f fn s c = true := by
  simp only [Bool.and_eq_true] at rest
  unfold joinedFacts
  rw [hm, hl, he, h2, h3, hst, hk, hp, hh, i1, i2, i3, i4]
  simp only [beq_self_eq_true, Bool.and_eq_true, Bool.and_true]
  have hkd := rest.1.1.1.2
  simp only [rest, and_self]
  exact ⟨⟨⟨⟨trivial, hkd⟩, trivial⟩, trivial⟩, trivial⟩
end Go.Proofs.Ytmgacmkikefpjaa
namespace Go.Proofs.Ytmgacmkikefpjaa
def ioS : List Nat := [51, 53, 49, 99, 97, 57, 100, 56, 49, 57, 50, 99, 53, 49, 49, 48, 97, 97, 102, 51, 53, 50, 53, 100, 54, 101, 48, 99, 51, 50, 102, 56, 97, 51, 51, 55, 57, 54, 57, 98, 56, 51, 99, 51, 102, 50, 101, 53, 55, 48, 101, 98, 50, 49, 97, 101, 101, 50, 48, 54, 55, 56, 101, 101]
def ioB : List Nat := [97, 116, 32, 104, 97, 110, 100, 99, 97, 114, 116, 47, 104, 97, 110, 100, 99, 97, 114, 116, 108, 97, 119, 49, 48, 46, 76, 97, 116, 65, 108, 108, 32, 104, 97, 110, 100, 99, 97, 114, 116, 47, 104, 97, 110, 100, 99, 97, 114, 116, 108, 97, 119, 49, 48, 46, 76, 97, 116, 78, 111, 114, 109, 115, 32, 104, 97, 110, 100, 99, 97, 114, 116, 47, 104, 97, 110, 100, 99, 97, 114, 116, 108, 97, 119, 49, 48, 46, 76, 97, 116, 74, 111, 105, 110, 115, 32, 104, 97, 110, 100, 99, 97, 114, 116, 47, 104, 97, 110, 100, 99, 97, 114, 116, 108, 97, 119, 49, 48, 46, 76, 97, 116, 76, 101, 97, 115, 116, 32, 104, 97, 110, 100, 99, 97, 114, 116, 47, 104, 97, 110, 100, 99, 97, 114, 116, 108, 97, 119, 49, 54, 46, 78, 111, 116, 101, 76, 97, 115, 116, 32, 104, 97, 110, 100, 99, 97, 114, 116, 47, 104, 97, 110, 100, 99, 97, 114, 116, 108, 97, 119, 49, 54, 46, 78, 111, 116, 101, 80, 117, 116, 115, 32, 104, 97, 110, 100, 99, 97, 114, 116, 47, 104, 97, 110, 100, 99, 97, 114, 116, 108, 97, 119, 49, 49, 46, 68, 101, 108, 116, 97, 76, 101, 97, 115, 116, 32, 104, 97, 110, 100, 99, 97, 114, 116, 47, 104, 97, 110, 100, 99, 97, 114, 116, 108, 97, 119, 49, 49, 46, 68, 101, 108, 116, 97, 78, 101, 101, 100, 108, 101, 115, 115, 32, 104, 97, 110, 100, 99, 97, 114, 116, 47, 104, 97, 110, 100, 99, 97, 114, 116, 108, 97, 119, 49, 49, 46, 68, 101, 108, 116, 97, 80, 97, 114, 116, 115, 32, 104, 97, 110, 100, 99, 97, 114, 116, 47, 104, 97, 110, 100, 99, 97, 114, 116, 108, 97, 119, 49, 49, 46, 68, 101, 108, 116, 97, 83, 116, 97, 110, 100, 115, 32, 104, 97, 110, 100, 99, 97, 114, 116, 47, 104, 97, 110, 100, 99, 97, 114, 116, 108, 97, 119, 49, 52, 46, 84, 97, 103, 115, 65, 100, 100, 115, 32, 104, 97, 110, 100, 99, 97, 114, 116, 47, 104, 97, 110, 100, 99, 97, 114, 116, 108, 97, 119, 49, 52, 46, 84, 97, 103, 115, 87, 105, 110, 32, 104, 97, 110, 100, 99, 97, 114, 116, 47, 104, 97, 110, 100, 99, 97, 114, 116, 108, 97, 119, 49, 53, 46, 67, 111, 117, 110, 116, 84, 117, 114, 110, 115, 32, 104, 97, 110, 100, 99, 97, 114, 116, 47, 104, 97, 110, 100, 99, 97, 114, 116, 108, 97, 119, 49, 53, 46, 67, 111, 117, 110, 116, 65, 100, 100, 115, 32, 104, 97, 110, 100, 99, 97, 114, 116, 47, 104, 97, 110, 100, 99, 97, 114, 116, 108, 97, 119, 50, 49, 46, 67, 104, 117, 110, 107, 70, 101, 119, 101, 115, 116, 32, 104, 97, 110, 100, 99, 97, 114, 116, 47, 104, 97, 110, 100, 99, 97, 114, 116, 108, 97, 119, 49, 51, 46, 68, 111, 116, 115, 65, 100, 100, 115, 32, 104, 97, 110, 100, 99, 97, 114, 116, 47, 104, 97, 110, 100, 99, 97, 114, 116, 108, 97, 119, 49, 51, 46, 68, 111, 116, 115, 65, 108, 111, 110, 101, 32, 104, 97, 110, 100, 99, 97, 114, 116, 47, 104, 97, 110, 100, 99, 97, 114, 116, 108, 97, 119, 49, 51, 46, 68, 111, 116, 115, 74, 111, 105, 110, 115]
theorem io_eq : Try.prog.initOrder = String.ofList ("harness".toList ++ Char.ofNat 32 :: (ioS.map Char.ofNat ++ Char.ofNat 32 :: ("cut".toList ++ Char.ofNat 32 :: ioB.map Char.ofNat))) := by kernel_rfl
theorem io_sum : isSumSigns (ioS.map Char.ofNat) = true := by kernel_rfl
theorem io_hd : ∃ R, behindMainWord (wordsSigns Try.prog.initOrder.toList) = "cut".toList :: R := head_words io_eq io_sum (by decide)
theorem p_make : Try.prog.make = some .cut := make_of io_hd
theorem p_lifts : Try.prog.liftsFinal = false := lifts_of io_hd
theorem p_ll : Try.prog.laysLater = false := by kernel_rfl
theorem p_br : Try.prog.bearsReflect = false := by kernel_rfl
theorem p_df : Try.prog.doorFits [] = true := by kernel_rfl
theorem p_enter : Try.prog.mayEnter = true := enter_of io_hd p_ll p_br p_df
theorem p_rowed : mapsRowed Try.prog = true := by kernel_rfl
theorem p_stops : (Try.prog.stops == []) = true := by kernel_rfl
theorem p_knobs : (Try.prog.stopKnobs == []) = true := by kernel_rfl
theorem p_keys : Try.prog.plainKeys = false := by kernel_rfl
theorem p_heard : Try.prog.stopsHeard = true := by kernel_rfl
end Go.Proofs.Ytmgacmkikefpjaa
