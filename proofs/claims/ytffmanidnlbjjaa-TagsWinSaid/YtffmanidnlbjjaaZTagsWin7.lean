/- Rules, plain words and walks that the claim leans on: Rm, Lzopen, Lzopen4, Tb, Vj, Tc. -/
import Derived.Test.YtffmanidnlbjjaaZTagsWin6
set_option linter.unusedSimpArgs false
set_option linter.unusedVariables false
set_option linter.unusedSimpArgs false
set_option linter.unusedVariables false
set_option maxHeartbeats 3000000
set_option maxRecDepth 100000
namespace Go.Proofs.Ytffmanidnlbjjaa
open Go.RowKit

theorem all_take {ss : List (List Int)} {x y : List Int} {j : Nat} (hj : j < ss.length) (hy : ss.getD j [] = y) : (ss.take (j + 1)).all (fun z => !decide (z = x)) = ((ss.take j).all (fun z => !decide (z = x)) && !decide (y = x)) := by
  rw [take_snoc hj, hy, List.all_append]; simp
theorem uns_take {ks ss : List (List Int)} {x : List Int} {k : Nat} (hk : k < ks.length) (hx : ks.getD k [] = x) : unsP (ks.take (k + 1)) ss = (unsP (ks.take k) ss || ss.all fun z => !decide (z = x)) := by
  rw [unsP, take_snoc hk, hx, List.any_append]; simp [unsP]
theorem addE_right {l : List (List Int)} {it : List Int} (h : ¬ addE l 3 it = 0) : (decide (addE l 3 it = 1) == !nright it) = true := by
  unfold addE at h ⊢
  cases hn : nright it
  · rw [if_pos (.inr rfl)]; rfl
  · rw [hn] at h
    rw [if_neg (by simp)] at h ⊢
    unfold bumpE at h ⊢
    rw [if_neg (by decide)] at h ⊢
    split
    · rfl
    · next q => rw [if_neg q] at h; exact absurd rfl h
theorem c_TagsWin (w0 : World) (A : Option Addr) (c : Nat) (l : List (List Int)) (hr : Rd w0 A 21 l.length (arows l)) (hv : AOks l) (B : Option Addr) (d : Nat) (r : List (List Int)) (hr2 : Rd w0 B 21 r.length (arows r)) (hv2 : AOks r) (hn : l.length + r.length ≤ 900000000000000) (ct : Nat) (hct : ct < 65536) (it : List Int) (h8 : it.length = 8) (hbt : Byt it)  :
    CallR Try.prog 4 #[.slice A l.length c, .slice B r.length d, .agg (KSpot ct it)] w0 fun v w' => v = .bool true ∧ Ext w0 w' := by
 have hS := St.rd2 (S := NoB) hr hr2
 have hspl := spot_len (c := ct) h8
 have hsn := norm_sta hv
 have hno := hsn.ok
 have hnb := norm_len l
 have hnb2 := norm_len r
 obtain ⟨c1, hc1⟩ : ∃ z, z = (ct + 1) % 65536 := ⟨_, rfl⟩
 have hc1b : c1 < 65536 := by omega
 have hcw : IntKind.u16.wrap ((ct : Int) + 1) = (c1 : Int) := by rw [show ((ct : Int) + 1) = ((ct + 1 : Nat) : Int) by omega, cv_u16 (r := ct + 1) rfl, hc1]
 have hcne : ¬ ct = c1 := by omega
 refine c_enter (l := [.slice A l.length c, .slice B r.length d, .agg (KSpot ct it), undef, undef, undef, undef, undef, undef, undef, undef, undef, undef, undef, undef, undef, undef, undef, undef, undef, undef, undef, undef, undef, undef, undef, undef, undef, undef, undef, undef, undef, undef, undef, undef, undef, undef, undef, undef, undef, undef, undef, undef, undef, undef, undef, undef, undef, undef, undef, undef, undef, undef, undef, undef, undef, undef, undef, undef, undef, undef, undef, undef, undef, undef, undef, undef, undef, undef, undef, undef, undef, undef, undef, undef, undef, undef, undef, undef, undef, undef, undef, undef, undef, undef, undef, undef, undef, undef, undef, undef, undef, undef, undef, undef, undef, undef, undef, undef, undef, undef, undef, undef, undef, undef, undef, undef, undef, undef, undef, undef, undef, undef, undef, undef, undef, undef, undef, undef, undef, undef, undef, undef, undef, undef, undef, undef, undef, undef, undef, undef, undef, undef, undef, undef, undef, undef, undef, undef, undef, undef, undef, undef, undef, undef, undef, undef, undef, undef, undef, undef, undef, undef, undef, undef, undef, undef, undef, undef, undef, undef, undef, undef, undef, undef, undef, undef, undef, undef]) Try.func4 rfl (by simp only [Try.ntmps4, List.size_toArray, List.length_cons, List.length_nil, Nat.reduceAdd, Nat.reduceSub, Array.replicate_succ, Array.replicate_zero, List.push_toArray, List.append_toArray, List.nil_append, List.cons_append]) ?_
 refine x_seq fun K1 hK1 => ?_
 refine x_region ?_
 refine m_box hS (fun w1 g1 hS => ?_)
 try simp only [opv, nZ, Value.cells, Array.toArray_toList] at hS ⊢
 obtain ⟨gp, hgp⟩ : ∃ z, z = g1 := ⟨_, rfl⟩
 rw [← hgp] at hS ⊢
 refine s_go (s_assign) ?_
 try simp only [opv, nZ, Value.cells]
 refine x_nil ?_
 refine hK1 _ _ ?_
 refine x_seq fun K2 hK2 => ?_
 refine x_seq fun K3 hK3 => ?_
 refine x_region ?_
 refine s_go (s_move) ?_
 try simp only [opv, nZ, Value.cells]
 refine s_go (s_len_sl Try.underlying22) ?_
 try simp only [opv, nZ, Value.cells]
 refine s_go (s_gtr) ?_
 try simp only [opv, nZ, Value.cells]
 refine s_go (s_move) ?_
 try simp only [opv, nZ, Value.cells]
 refine s_part 24 rfl (fun hp1 => ?_) (fun hp1 => ?_)
 ·
  try simp only [n3, n4]
  try simp only [decide_eq_true_eq, decide_eq_false_iff_not, Bool.not_eq_true', Bool.not_eq_false', Int.not_lt, Int.not_le, ne_eq, Decidable.not_not] at hp1
  first
  | (exfalso; omega)
  | skip
    refine g_off (yi (t := 24) rfl rfl) ?_
    try simp only [opv, nZ, Value.cells]
    refine g_off (yi (t := 24) rfl rfl) ?_
    try simp only [opv, nZ, Value.cells]
    refine g_off (yi (t := 24) rfl rfl) ?_
    try simp only [opv, nZ, Value.cells]
    first | refine s_go (s_pick_t) ?_ | refine s_go (s_pick_f) ?_
    try simp only [opv, nZ, Value.cells]
    refine x_nil ?_
    refine hK3 _ _ ?_
    refine x_cond_t (h := ?_)
    refine x_seq fun K4 hK4 => ?_
    refine x_region ?_
    refine s_call en9 ?_
    try simp only [opv, nZ, Value.cells, List.map_toArray, List.map_cons, List.map_nil, List.append_toArray, List.cons_append, List.nil_append, Array.append_empty]
    refine CallR.mono (c_law14alive _) ?_
    rintro _ w2 ⟨rfl, hE2⟩
    replace hS := hS.ext hE2
    try simp only [opv, nZ, Value.cells]
    refine s_go (s_assign) ?_
    try simp only [opv, nZ, Value.cells]
    refine x_nil ?_
    refine hK4 _ _ ?_
    refine x_ret ?_
    refine r_tmp rfl ?_
    first | exact ⟨rfl, hEE⟩ | exact ⟨rfl, hS.ext_of⟩
 ·
  try simp only [n3, n4]
  try simp only [decide_eq_true_eq, decide_eq_false_iff_not, Bool.not_eq_true', Bool.not_eq_false', Int.not_lt, Int.not_le, ne_eq, Decidable.not_not] at hp1
  first
  | (exfalso; omega)
  | skip
    refine g_on (yi (t := 24) rfl rfl) ?_
    refine s_go (s_move) ?_
    try simp only [opv, nZ, Value.cells]
    refine g_on (yi (t := 24) rfl rfl) ?_
    refine s_go (s_len_sl Try.underlying22) ?_
    try simp only [opv, nZ, Value.cells]
    refine g_on (yi (t := 24) rfl rfl) ?_
    refine s_go (s_gtr) ?_
    try simp only [opv, nZ, Value.cells]
    first | refine s_go (s_pick_t) ?_ | refine s_go (s_pick_f) ?_
    try simp only [opv, nZ, Value.cells]
    refine x_nil ?_
    refine hK3 _ _ ?_
    refine x_cond (ht := fun hc2 => ?_) (hf := fun hc2 => ?_)
    ·
     try simp only [decide_eq_true_eq, decide_eq_false_iff_not, Bool.not_eq_true', Bool.not_eq_false', Int.not_lt, Int.not_le, ne_eq, Decidable.not_not, bne_iff_ne, beq_iff_eq, not_true_eq_false, not_false_eq_true] at hc2
     first
     | (exfalso; omega)
     | skip
       refine x_seq fun K5 hK5 => ?_
       refine x_region ?_
       refine s_call en9 ?_
       try simp only [opv, nZ, Value.cells, List.map_toArray, List.map_cons, List.map_nil, List.append_toArray, List.cons_append, List.nil_append, Array.append_empty]
       refine CallR.mono (c_law14alive _) ?_
       rintro _ w3 ⟨rfl, hE3⟩
       replace hS := hS.ext hE3
       try simp only [opv, nZ, Value.cells]
       refine s_go (s_assign) ?_
       try simp only [opv, nZ, Value.cells]
       refine x_nil ?_
       refine hK5 _ _ ?_
       refine x_ret ?_
       refine r_tmp rfl ?_
       first | exact ⟨rfl, hEE⟩ | exact ⟨rfl, hS.ext_of⟩
    ·
     try simp only [decide_eq_true_eq, decide_eq_false_iff_not, Bool.not_eq_true', Bool.not_eq_false', Int.not_lt, Int.not_le, ne_eq, Decidable.not_not, bne_iff_ne, beq_iff_eq, not_true_eq_false, not_false_eq_true] at hc2
     first
     | (exfalso; omega)
     | skip
       have hln : l.length ≤ 40 := by omega
       have hln2 : r.length ≤ 40 := by omega
       have hdo := drp_ok' hv ct it
       have hdl : (drpS (normP l) ct it).length ≤ (normP l).length := by rw [drpS, List.length_map]; exact tag_len _ _ _ _
       have hgo := (norm_sta (gone_ok hv ct it)).ok
       have hgl := norm_len (l ++ (drpS (normP l) ct it))
       rw [List.length_append] at hgl
       have hjo := (norm_sta (hgo.app hv2)).ok
       have hjl := norm_len ((normP (l ++ (drpS (normP l) ct it))) ++ r)
       rw [List.length_append] at hjl
       have hwm := win_more hv hv2 ct it
       have hio := itm_other hv hdo hcne (drp_cart hsn ct it)
       have hi8 : ∀ x ∈ itmS (normP l) c1, x.length = 8 := ded_eight (nms_eight hno c1)
       have hil : (itmS (normP l) c1).length ≤ (normP l).length := Nat.le_trans (ded_len (nmsS (normP l) c1)) (nms_len (normP l) c1)
       refine x_skip ?_
       refine hK2 _ _ ?_
       refine x_seq fun K6 hK6 => ?_
       refine x_region ?_
       refine s_go (s_move) ?_
       try simp only [opv, nZ, Value.cells]
       first | refine s_go (m_fieldAddr Try.underlying27 (hi := ti23)) ?_ | refine s_go (m_fieldAddr_rd Try.underlying27 (hi := ti23) (hS := hS)) ?_ | refine s_go (m_fieldAddr_vec Try.underlying27 (hi := ti23) (hS := hS)) ?_
       try simp only [opv, nZ, Value.cells, Nat.zero_add, Nat.add_zero, List.getElem_toArray, List.getElem_cons_zero, List.getElem_cons_succ]
       first | refine s_go (m_load_obj Try.underlying23 (hS := hS) (hv := by first | rfl | exact zi_get rfl (by omega) | exact ic_get (by omega) | exact il_get (by omega))) ?_ | refine s_go (m_load_bx Try.underlying23 (hS := hS) (hv := by first | rfl | exact zi_get rfl (by omega) | exact ic_get (by omega) | exact il_get (by omega))) ?_ | refine s_go (m_load_rd Try.underlying23 (hS := hS) (hv := by first | rfl | exact zi_get rfl (by omega) | exact ic_get (by omega) | exact il_get (by omega))) ?_ | refine s_go (m_load_vec Try.underlying23 (hS := hS) (hv := by first | rfl | exact zi_get rfl (by omega) | exact ic_get (by omega) | exact il_get (by omega))) ?_
       try simp only [opv, nZ, Value.cells, List.getElem_toArray, List.getElem_cons_zero, List.getElem_cons_succ]
       try rw [show (spotL ct it).getD 0 0 = (ct : Int) from rfl]
       first | refine s_go (m_fieldAddr Try.underlying27 (hi := ti25)) ?_ | refine s_go (m_fieldAddr_rd Try.underlying27 (hi := ti25) (hS := hS)) ?_ | refine s_go (m_fieldAddr_vec Try.underlying27 (hi := ti25) (hS := hS)) ?_
       try simp only [opv, nZ, Value.cells, Nat.zero_add, Nat.add_zero, List.getElem_toArray, List.getElem_cons_zero, List.getElem_cons_succ]
       first | refine s_go (m_load_row Try.underlying25 (hi := ti25) (hS := hS) (hfit := by first | omega | (rw [zi_size (by omega)]; first | rfl | decide) | (simp only [ic_size, List.length_map, List.size_toArray]; first | omega | decide) | rfl | (simp [*]; done) | (simp [*]; omega))) ?_ | refine s_go (m_loada_obj Try.underlying25 (hi := ti25) (hS := hS) (hfit := by first | omega | (rw [zi_size (by omega)]; first | rfl | decide) | (simp only [ic_size, List.length_map, List.size_toArray]; first | omega | decide) | rfl | (simp [*]; done) | (simp [*]; omega))) ?_ | refine s_go (m_loada_bx Try.underlying25 (hi := ti25) (hS := hS) (hfit := by first | omega | (rw [zi_size (by omega)]; first | rfl | decide) | (simp only [ic_size, List.length_map, List.size_toArray]; first | omega | decide) | rfl | (simp [*]; done) | (simp [*]; omega))) ?_ | refine s_go (m_loada_rd Try.underlying25 (hi := ti25) (hS := hS) (hfit := by first | omega | (rw [zi_size (by omega)]; first | rfl | decide) | (simp only [ic_size, List.length_map, List.size_toArray]; first | omega | decide) | rfl | (simp [*]; done) | (simp [*]; omega))) ?_ | refine s_go (m_loada_vec Try.underlying25 (hi := ti25) (hS := hS) (hfit := by first | omega | (rw [zi_size (by omega)]; first | rfl | decide) | (simp only [ic_size, List.length_map, List.size_toArray]; first | omega | decide) | rfl | (simp [*]; done) | (simp [*]; omega))) ?_
       try simp only [opv, nZ, Value.cells, List.getElem_toArray, List.getElem_cons_zero, List.getElem_cons_succ]
       rw [spot_text h8]
       refine s_call en15 ?_
       try simp only [opv, nZ, Value.cells, List.map_toArray, List.map_cons, List.map_nil, List.append_toArray, List.cons_append, List.nil_append, Array.append_empty]
       refine CallR.mono (c_tagsDrop _ A c l (hS.hasRd (by repeat (first | exact Has.head | apply Has.tail))) hv (by omega) ct hct it h8) ?_
       rintro _ w4 ⟨Dd, ed, rfl, hC4⟩
       replace hS := hS.call hC4
       simp only [List.cons_append, List.nil_append] at hS
       try simp only [opv, nZ, Value.cells]
       refine s_go (s_assign) ?_
       try simp only [opv, nZ, Value.cells]
       refine x_nil ?_
       refine hK6 _ _ ?_
       refine x_seq fun K7 hK7 => ?_
       refine x_region ?_
       refine s_go (s_move) ?_
       try simp only [opv, nZ, Value.cells]
       refine s_go (s_move) ?_
       try simp only [opv, nZ, Value.cells]
       refine s_call en17 ?_
       try simp only [opv, nZ, Value.cells, List.map_toArray, List.map_cons, List.map_nil, List.append_toArray, List.cons_append, List.nil_append, Array.append_empty]
       refine CallR.mono (c_ref10Join _ A c l (hS.hasRd (by repeat (first | exact Has.head | apply Has.tail))) hv Dd ed (drpS (normP l) ct it) (hS.vecRd (by repeat (first | exact Has.head | apply Has.tail))) hdo (by omega)) ?_
       rintro _ w5 ⟨Ag, cg, rfl, hC5⟩
       replace hS := hS.call hC5
       simp only [List.cons_append, List.nil_append] at hS
       try simp only [opv, nZ, Value.cells]
       refine s_go (s_assign) ?_
       try simp only [opv, nZ, Value.cells]
       refine x_nil ?_
       refine hK7 _ _ ?_
       refine x_seq fun K8 hK8 => ?_
       refine x_seq fun K9 hK9 => ?_
       refine x_region ?_
       refine s_go (s_move) ?_
       try simp only [opv, nZ, Value.cells]
       first | refine s_go (m_fieldAddr Try.underlying27 (hi := ti23)) ?_ | refine s_go (m_fieldAddr_rd Try.underlying27 (hi := ti23) (hS := hS)) ?_ | refine s_go (m_fieldAddr_vec Try.underlying27 (hi := ti23) (hS := hS)) ?_
       try simp only [opv, nZ, Value.cells, Nat.zero_add, Nat.add_zero, List.getElem_toArray, List.getElem_cons_zero, List.getElem_cons_succ]
       first | refine s_go (m_load_obj Try.underlying23 (hS := hS) (hv := by first | rfl | exact zi_get rfl (by omega) | exact ic_get (by omega) | exact il_get (by omega))) ?_ | refine s_go (m_load_bx Try.underlying23 (hS := hS) (hv := by first | rfl | exact zi_get rfl (by omega) | exact ic_get (by omega) | exact il_get (by omega))) ?_ | refine s_go (m_load_rd Try.underlying23 (hS := hS) (hv := by first | rfl | exact zi_get rfl (by omega) | exact ic_get (by omega) | exact il_get (by omega))) ?_ | refine s_go (m_load_vec Try.underlying23 (hS := hS) (hv := by first | rfl | exact zi_get rfl (by omega) | exact ic_get (by omega) | exact il_get (by omega))) ?_
       try simp only [opv, nZ, Value.cells, List.getElem_toArray, List.getElem_cons_zero, List.getElem_cons_succ]
       try rw [show (spotL ct it).getD 0 0 = (ct : Int) from rfl]
       first | refine s_go (m_fieldAddr Try.underlying27 (hi := ti25)) ?_ | refine s_go (m_fieldAddr_rd Try.underlying27 (hi := ti25) (hS := hS)) ?_ | refine s_go (m_fieldAddr_vec Try.underlying27 (hi := ti25) (hS := hS)) ?_
       try simp only [opv, nZ, Value.cells, Nat.zero_add, Nat.add_zero, List.getElem_toArray, List.getElem_cons_zero, List.getElem_cons_succ]
       first | refine s_go (m_load_row Try.underlying25 (hi := ti25) (hS := hS) (hfit := by first | omega | (rw [zi_size (by omega)]; first | rfl | decide) | (simp only [ic_size, List.length_map, List.size_toArray]; first | omega | decide) | rfl | (simp [*]; done) | (simp [*]; omega))) ?_ | refine s_go (m_loada_obj Try.underlying25 (hi := ti25) (hS := hS) (hfit := by first | omega | (rw [zi_size (by omega)]; first | rfl | decide) | (simp only [ic_size, List.length_map, List.size_toArray]; first | omega | decide) | rfl | (simp [*]; done) | (simp [*]; omega))) ?_ | refine s_go (m_loada_bx Try.underlying25 (hi := ti25) (hS := hS) (hfit := by first | omega | (rw [zi_size (by omega)]; first | rfl | decide) | (simp only [ic_size, List.length_map, List.size_toArray]; first | omega | decide) | rfl | (simp [*]; done) | (simp [*]; omega))) ?_ | refine s_go (m_loada_rd Try.underlying25 (hi := ti25) (hS := hS) (hfit := by first | omega | (rw [zi_size (by omega)]; first | rfl | decide) | (simp only [ic_size, List.length_map, List.size_toArray]; first | omega | decide) | rfl | (simp [*]; done) | (simp [*]; omega))) ?_ | refine s_go (m_loada_vec Try.underlying25 (hi := ti25) (hS := hS) (hfit := by first | omega | (rw [zi_size (by omega)]; first | rfl | decide) | (simp only [ic_size, List.length_map, List.size_toArray]; first | omega | decide) | rfl | (simp [*]; done) | (simp [*]; omega))) ?_
       try simp only [opv, nZ, Value.cells, List.getElem_toArray, List.getElem_cons_zero, List.getElem_cons_succ]
       rw [spot_text h8]
       refine s_call en18 ?_
       try simp only [opv, nZ, Value.cells, List.map_toArray, List.map_cons, List.map_nil, List.append_toArray, List.cons_append, List.nil_append, Array.append_empty]
       refine CallR.mono (c_tagsPresent _ Ag cg (normP (l ++ (drpS (normP l) ct it))) (hS.vecRd (by repeat (first | exact Has.head | apply Has.tail))) hgo (by omega) ct hct it h8) ?_
       rintro _ w6 ⟨rfl, hE6⟩
       replace hS := hS.ext hE6
       try simp only [opv, nZ, Value.cells]
       rw [win_gone hv ct it, show decide (0 < (((List.map akey ([] : List (List Int))).length : Nat) : Int)) = false from rfl]
       refine x_nil ?_
       refine hK9 _ _ ?_
       refine x_cond_f (h := ?_)
       refine x_skip ?_
       refine hK8 _ _ ?_
       refine x_seq fun K10 hK10 => ?_
       refine x_region ?_
       refine s_go (s_assign) ?_
       try simp only [opv, nZ, Value.cells]
       refine x_nil ?_
       refine hK10 _ _ ?_
       refine x_seq fun K11 hK11 => ?_
       refine x_region ?_
       refine s_go (s_move) ?_
       try simp only [opv, nZ, Value.cells]
       first | refine s_go (m_fieldAddr Try.underlying27 (hi := ti23)) ?_ | refine s_go (m_fieldAddr_rd Try.underlying27 (hi := ti23) (hS := hS)) ?_ | refine s_go (m_fieldAddr_vec Try.underlying27 (hi := ti23) (hS := hS)) ?_
       try simp only [opv, nZ, Value.cells, Nat.zero_add, Nat.add_zero, List.getElem_toArray, List.getElem_cons_zero, List.getElem_cons_succ]
       first | refine s_go (m_load_obj Try.underlying23 (hS := hS) (hv := by first | rfl | exact zi_get rfl (by omega) | exact ic_get (by omega) | exact il_get (by omega))) ?_ | refine s_go (m_load_bx Try.underlying23 (hS := hS) (hv := by first | rfl | exact zi_get rfl (by omega) | exact ic_get (by omega) | exact il_get (by omega))) ?_ | refine s_go (m_load_rd Try.underlying23 (hS := hS) (hv := by first | rfl | exact zi_get rfl (by omega) | exact ic_get (by omega) | exact il_get (by omega))) ?_ | refine s_go (m_load_vec Try.underlying23 (hS := hS) (hv := by first | rfl | exact zi_get rfl (by omega) | exact ic_get (by omega) | exact il_get (by omega))) ?_
       try simp only [opv, nZ, Value.cells, List.getElem_toArray, List.getElem_cons_zero, List.getElem_cons_succ]
       try rw [show (spotL ct it).getD 0 0 = (ct : Int) from rfl]
       first | refine s_go (m_fieldAddr Try.underlying27 (hi := ti25)) ?_ | refine s_go (m_fieldAddr_rd Try.underlying27 (hi := ti25) (hS := hS)) ?_ | refine s_go (m_fieldAddr_vec Try.underlying27 (hi := ti25) (hS := hS)) ?_
       try simp only [opv, nZ, Value.cells, Nat.zero_add, Nat.add_zero, List.getElem_toArray, List.getElem_cons_zero, List.getElem_cons_succ]
       first | refine s_go (m_load_row Try.underlying25 (hi := ti25) (hS := hS) (hfit := by first | omega | (rw [zi_size (by omega)]; first | rfl | decide) | (simp only [ic_size, List.length_map, List.size_toArray]; first | omega | decide) | rfl | (simp [*]; done) | (simp [*]; omega))) ?_ | refine s_go (m_loada_obj Try.underlying25 (hi := ti25) (hS := hS) (hfit := by first | omega | (rw [zi_size (by omega)]; first | rfl | decide) | (simp only [ic_size, List.length_map, List.size_toArray]; first | omega | decide) | rfl | (simp [*]; done) | (simp [*]; omega))) ?_ | refine s_go (m_loada_bx Try.underlying25 (hi := ti25) (hS := hS) (hfit := by first | omega | (rw [zi_size (by omega)]; first | rfl | decide) | (simp only [ic_size, List.length_map, List.size_toArray]; first | omega | decide) | rfl | (simp [*]; done) | (simp [*]; omega))) ?_ | refine s_go (m_loada_rd Try.underlying25 (hi := ti25) (hS := hS) (hfit := by first | omega | (rw [zi_size (by omega)]; first | rfl | decide) | (simp only [ic_size, List.length_map, List.size_toArray]; first | omega | decide) | rfl | (simp [*]; done) | (simp [*]; omega))) ?_ | refine s_go (m_loada_vec Try.underlying25 (hi := ti25) (hS := hS) (hfit := by first | omega | (rw [zi_size (by omega)]; first | rfl | decide) | (simp only [ic_size, List.length_map, List.size_toArray]; first | omega | decide) | rfl | (simp [*]; done) | (simp [*]; omega))) ?_
       try simp only [opv, nZ, Value.cells, List.getElem_toArray, List.getElem_cons_zero, List.getElem_cons_succ]
       rw [spot_text h8]
       refine s_call en19 ?_
       try simp only [opv, nZ, Value.cells, List.map_toArray, List.map_cons, List.map_nil, List.append_toArray, List.cons_append, List.nil_append, Array.append_empty]
       refine CallR.mono (c_tagsLive _ B d r (hS.hasRd (by repeat (first | exact Has.head | apply Has.tail))) hv2 (by omega) ct hct it h8) ?_
       rintro _ w7 ⟨Ok, ock, rfl, hC7⟩
       replace hS := hS.call hC7
       simp only [List.cons_append, List.nil_append] at hS
       have hkso := keys_ok (norm_sta hv2).ok ct it 1
       have hksl := tag_len (normP r) ct it 1
       replace hS := hS.vec_rd (by exact Upd.head)
       try simp only [opv, nZ, Value.cells]
       refine s_go (s_assign) ?_
       try simp only [opv, nZ, Value.cells]
       refine x_nil ?_
       refine hK11 _ _ ?_
       refine x_seq fun K12 hK12 => ?_
       refine x_region ?_
       refine s_go (s_move) ?_
       try simp only [opv, nZ, Value.cells]
       first | refine s_go (m_fieldAddr Try.underlying27 (hi := ti23)) ?_ | refine s_go (m_fieldAddr_rd Try.underlying27 (hi := ti23) (hS := hS)) ?_ | refine s_go (m_fieldAddr_vec Try.underlying27 (hi := ti23) (hS := hS)) ?_
       try simp only [opv, nZ, Value.cells, Nat.zero_add, Nat.add_zero, List.getElem_toArray, List.getElem_cons_zero, List.getElem_cons_succ]
       first | refine s_go (m_load_obj Try.underlying23 (hS := hS) (hv := by first | rfl | exact zi_get rfl (by omega) | exact ic_get (by omega) | exact il_get (by omega))) ?_ | refine s_go (m_load_bx Try.underlying23 (hS := hS) (hv := by first | rfl | exact zi_get rfl (by omega) | exact ic_get (by omega) | exact il_get (by omega))) ?_ | refine s_go (m_load_rd Try.underlying23 (hS := hS) (hv := by first | rfl | exact zi_get rfl (by omega) | exact ic_get (by omega) | exact il_get (by omega))) ?_ | refine s_go (m_load_vec Try.underlying23 (hS := hS) (hv := by first | rfl | exact zi_get rfl (by omega) | exact ic_get (by omega) | exact il_get (by omega))) ?_
       try simp only [opv, nZ, Value.cells, List.getElem_toArray, List.getElem_cons_zero, List.getElem_cons_succ]
       try rw [show (spotL ct it).getD 0 0 = (ct : Int) from rfl]
       first | refine s_go (m_fieldAddr Try.underlying27 (hi := ti25)) ?_ | refine s_go (m_fieldAddr_rd Try.underlying27 (hi := ti25) (hS := hS)) ?_ | refine s_go (m_fieldAddr_vec Try.underlying27 (hi := ti25) (hS := hS)) ?_
       try simp only [opv, nZ, Value.cells, Nat.zero_add, Nat.add_zero, List.getElem_toArray, List.getElem_cons_zero, List.getElem_cons_succ]
       first | refine s_go (m_load_row Try.underlying25 (hi := ti25) (hS := hS) (hfit := by first | omega | (rw [zi_size (by omega)]; first | rfl | decide) | (simp only [ic_size, List.length_map, List.size_toArray]; first | omega | decide) | rfl | (simp [*]; done) | (simp [*]; omega))) ?_ | refine s_go (m_loada_obj Try.underlying25 (hi := ti25) (hS := hS) (hfit := by first | omega | (rw [zi_size (by omega)]; first | rfl | decide) | (simp only [ic_size, List.length_map, List.size_toArray]; first | omega | decide) | rfl | (simp [*]; done) | (simp [*]; omega))) ?_ | refine s_go (m_loada_bx Try.underlying25 (hi := ti25) (hS := hS) (hfit := by first | omega | (rw [zi_size (by omega)]; first | rfl | decide) | (simp only [ic_size, List.length_map, List.size_toArray]; first | omega | decide) | rfl | (simp [*]; done) | (simp [*]; omega))) ?_ | refine s_go (m_loada_rd Try.underlying25 (hi := ti25) (hS := hS) (hfit := by first | omega | (rw [zi_size (by omega)]; first | rfl | decide) | (simp only [ic_size, List.length_map, List.size_toArray]; first | omega | decide) | rfl | (simp [*]; done) | (simp [*]; omega))) ?_ | refine s_go (m_loada_vec Try.underlying25 (hi := ti25) (hS := hS) (hfit := by first | omega | (rw [zi_size (by omega)]; first | rfl | decide) | (simp only [ic_size, List.length_map, List.size_toArray]; first | omega | decide) | rfl | (simp [*]; done) | (simp [*]; omega))) ?_
       try simp only [opv, nZ, Value.cells, List.getElem_toArray, List.getElem_cons_zero, List.getElem_cons_succ]
       rw [spot_text h8]
       refine s_call en20 ?_
       try simp only [opv, nZ, Value.cells, List.map_toArray, List.map_cons, List.map_nil, List.append_toArray, List.cons_append, List.nil_append, Array.append_empty]
       refine CallR.mono (c_tagsSeen _ A c l (hS.hasRd (by repeat (first | exact Has.head | apply Has.tail))) hv (by omega) ct hct it h8) ?_
       rintro _ w8 ⟨Os, ocs, rfl, hC8⟩
       replace hS := hS.call hC8
       simp only [List.cons_append, List.nil_append] at hS
       have hsso := keys_ok hno ct it 0
       have hssl := tag_len (normP l) ct it 0
       replace hS := hS.vec_rd (by exact Upd.head)
       obtain ⟨ks, hks⟩ : ∃ z, (tagS (normP r) ct it 1).map akey = z := ⟨_, rfl⟩
       obtain ⟨ss, hss⟩ : ∃ z, (tagS (normP l) ct it 0).map akey = z := ⟨_, rfl⟩
       rw [hks] at hkso
       rw [hss] at hsso
       rw [hks, hss] at hwm
       simp only [hks, hss] at hS ⊢
       have hkl : ks.length ≤ 40 := by rw [← hks, List.length_map]; omega
       have hsl : ss.length ≤ 40 := by rw [← hss, List.length_map]; omega
       try simp only [opv, nZ, Value.cells]
       refine s_go (s_assign) ?_
       try simp only [opv, nZ, Value.cells]
       refine x_nil ?_
       refine hK12 _ _ ?_
       refine x_seq fun K13 hK13 => ?_
       refine x_seq fun K14 hK14 => ?_
       refine x_region ?_
       refine s_go (s_assign) ?_
       try simp only [opv, nZ, Value.cells]
       refine x_nil ?_
       refine hK14 _ _ ?_
       refine x_block ?_
       refine x_loop [9, 12, 13, 14, 57, 58, 59, 60, 61, 62, 63, 64, 65, 66, 67, 68, 69, 70, 71, 72, 73, 74, 75, 76, 77, 78, 79, 80, 81, 82, 83, 84] (fun m f w => ∃ k : Nat, k ≤ ks.length ∧ m = ks.length - k ∧ f 12 = .int .i64 (k : Int) ∧ f 9 = .bool (unsP (ks.take k) ss) ∧ St NoB w0 w [.rd Ok 12 (ks).length (krows (ks)), .rd Os 12 (ss).length (krows (ss)), .obj gp (.cells (KSpot ct it) 27 (0, 0)), .rd A 21 (l).length (arows (l)), .rd B 21 (r).length (arows (r)), .vec Ag cg 54 21 ((normP (l ++ (drpS (normP l) ct it)))).length (arows ((normP (l ++ (drpS (normP l) ct it)))))]) (ks.length) ?init1 (fun m1 f1 wl1 hI => ?_)
       case init1 =>
        try simp only [opv, nZ, Value.cells]
        exact ⟨0, by omega, rfl, rfl, rfl, hS.selA⟩
       obtain ⟨k, hk, hm, h12, h9, hS⟩ := hI
       simp only [clob, List.foldl, n3, n4, h12, h9]
       obtain ⟨x, hx⟩ : ∃ x, ks.getD k [] = x := ⟨_, rfl⟩
       have hkrl := krows_len ks
       have hsrl := krows_len ss
       refine x_seq fun K15 hK15 => ?_
       refine x_seq fun K16 hK16 => ?_
       refine x_region ?_
       refine s_go (s_move) ?_
       try simp only [opv, nZ, Value.cells]
       refine s_go (s_move) ?_
       try simp only [opv, nZ, Value.cells]
       refine s_go (s_len_sl Try.underlying40) ?_
       try simp only [opv, nZ, Value.cells]
       refine s_go (s_lss) ?_
       try simp only [opv, nZ, Value.cells]
       refine x_nil ?_
       refine hK16 _ _ ?_
       refine x_cond (ht := fun hc4 => ?_) (hf := fun hc4 => ?_)
       ·
        try simp only [decide_eq_true_eq, decide_eq_false_iff_not, Bool.not_eq_true', Bool.not_eq_false', Int.not_lt, Int.not_le, ne_eq, Decidable.not_not, bne_iff_ne, beq_iff_eq, not_true_eq_false, not_false_eq_true] at hc4
        first
        | (exfalso; omega)
        | skip
          have hx12 : x.length = 12 := by rw [← hx]; exact (hkso _ (getD_mem' (by omega))).len
          refine x_skip ?_
          refine hK15 _ _ ?_
          refine x_seq fun K17 hK17 => ?_
          refine x_block ?_
          refine x_seq fun K18 hK18 => ?_
          refine x_region ?_
          refine s_go (s_assign) ?_
          try simp only [opv, nZ, Value.cells]
          refine x_nil ?_
          refine hK18 _ _ ?_
          refine x_seq fun K19 hK19 => ?_
          refine x_seq fun K20 hK20 => ?_
          refine x_region ?_
          refine s_go (s_assign) ?_
          try simp only [opv, nZ, Value.cells]
          refine x_nil ?_
          refine hK20 _ _ ?_
          refine x_block ?_
          refine x_loop [13, 14, 63, 64, 65, 66, 67, 68, 69, 70, 71, 72, 73, 74, 75, 76, 77, 78, 79, 80] (fun m f w => ∃ j : Nat, j ≤ ss.length ∧ m = ss.length - j ∧ f 14 = .int .i64 (j : Int) ∧ f 13 = .bool ((ss.take j).all fun z => !decide (z = x)) ∧ St NoB w0 w [.rd Ok 12 (ks).length (krows (ks)), .rd Os 12 (ss).length (krows (ss)), .obj gp (.cells (KSpot ct it) 27 (0, 0)), .rd A 21 (l).length (arows (l)), .rd B 21 (r).length (arows (r)), .vec Ag cg 54 21 ((normP (l ++ (drpS (normP l) ct it)))).length (arows ((normP (l ++ (drpS (normP l) ct it)))))]) (ss.length) ?init2 (fun m2 f2 wl2 hI => ?_)
          case init2 =>
           try simp only [opv, nZ, Value.cells]
           exact ⟨0, by omega, rfl, rfl, rfl, hS.selA⟩
          obtain ⟨j, hj, hmj, h14, h13, hS⟩ := hI
          simp only [clob, List.foldl, n3, n4, h14, h13]
          obtain ⟨y, hy⟩ : ∃ y, ss.getD j [] = y := ⟨_, rfl⟩
          refine x_seq fun K21 hK21 => ?_
          refine x_seq fun K22 hK22 => ?_
          refine x_region ?_
          refine s_go (s_move) ?_
          try simp only [opv, nZ, Value.cells]
          refine s_go (s_move) ?_
          try simp only [opv, nZ, Value.cells]
          refine s_go (s_len_sl Try.underlying40) ?_
          try simp only [opv, nZ, Value.cells]
          refine s_go (s_lss) ?_
          try simp only [opv, nZ, Value.cells]
          refine x_nil ?_
          refine hK22 _ _ ?_
          refine x_cond (ht := fun hc5 => ?_) (hf := fun hc5 => ?_)
          ·
           try simp only [decide_eq_true_eq, decide_eq_false_iff_not, Bool.not_eq_true', Bool.not_eq_false', Int.not_lt, Int.not_le, ne_eq, Decidable.not_not, bne_iff_ne, beq_iff_eq, not_true_eq_false, not_false_eq_true] at hc5
           first
           | (exfalso; omega)
           | skip
             have hy12 : y.length = 12 := by rw [← hy]; exact (hsso _ (getD_mem' (by omega))).len
             refine x_skip ?_
             refine hK21 _ _ ?_
             refine x_seq fun K23 hK23 => ?_
             refine x_block ?_
             refine x_quiet (by kernel_rfl) (by kernel_rfl) hS ?_
             refine q_go (fun w hS => s_move) ?_
             try simp only [opv, nZ, Value.cells]
             refine q_go (fun w hS => s_move) ?_
             try simp only [opv, nZ, Value.cells]
             refine q_part 70 rfl (fun hp2 => ?_) (fun hp2 => ?_)
             ·
              try simp only [n3, n4]
              try simp only [decide_eq_true_eq, decide_eq_false_iff_not, Bool.not_eq_true', Bool.not_eq_false', Int.not_lt, Int.not_le, ne_eq, Decidable.not_not] at hp2
              first
              | (exfalso; omega)
              | skip
                have hab : ((ss.take j).all fun z => !decide (z = x)) = true := by simpa using hp2
                refine q_on (yi (t := 70) rfl rfl) ?_
                refine q_go (fun w hS => s_move) ?_
                try simp only [opv, nZ, Value.cells]
                refine q_on (yi (t := 70) rfl rfl) ?_
                refine q_go (fun w hS => s_move) ?_
                try simp only [opv, nZ, Value.cells]
                refine q_on (yi (t := 70) rfl rfl) ?_
                first | refine q_go (fun w hS => m_indexAddr_rd Try.underlying40 ti43 (hS := hS)) ?_ | refine q_go (fun w hS => m_indexAddr_vec Try.underlying40 ti43 (hS := hS)) ?_
                try simp only [opv, nZ, Value.cells, Nat.mul_one, Nat.zero_add, Int.toNat_natCast, Int.reduceToNat]
                refine q_on (yi (t := 70) rfl rfl) ?_
                first | refine q_go (fun w hS => m_load_row Try.underlying43 (hi := ti43) (hS := hS) (hfit := by rw [krows_len]; omega)) ?_ | refine q_go (fun w hS => m_loada_obj Try.underlying43 (hi := ti43) (hS := hS) (hfit := by rw [krows_len]; omega)) ?_ | refine q_go (fun w hS => m_loada_bx Try.underlying43 (hi := ti43) (hS := hS) (hfit := by rw [krows_len]; omega)) ?_ | refine q_go (fun w hS => m_loada_rd Try.underlying43 (hi := ti43) (hS := hS) (hfit := by rw [krows_len]; omega)) ?_ | refine q_go (fun w hS => m_loada_vec Try.underlying43 (hi := ti43) (hS := hS) (hfit := by rw [krows_len]; omega)) ?_
                try simp only [opv, nZ, Value.cells, List.getElem_toArray, List.getElem_cons_zero, List.getElem_cons_succ]
                rw [krow_get (by omega) hsso, hy]
                refine q_on (yi (t := 70) rfl rfl) ?_
                refine q_go (fun w hS => s_move) ?_
                try simp only [opv, nZ, Value.cells]
                refine q_on (yi (t := 70) rfl rfl) ?_
                refine q_go (fun w hS => s_move) ?_
                try simp only [opv, nZ, Value.cells]
                refine q_on (yi (t := 70) rfl rfl) ?_
                first | refine q_go (fun w hS => m_indexAddr_rd Try.underlying40 ti43 (hS := hS)) ?_ | refine q_go (fun w hS => m_indexAddr_vec Try.underlying40 ti43 (hS := hS)) ?_
                try simp only [opv, nZ, Value.cells, Nat.mul_one, Nat.zero_add, Int.toNat_natCast, Int.reduceToNat]
                refine q_on (yi (t := 70) rfl rfl) ?_
                first | refine q_go (fun w hS => m_load_row Try.underlying43 (hi := ti43) (hS := hS) (hfit := by rw [krows_len]; omega)) ?_ | refine q_go (fun w hS => m_loada_obj Try.underlying43 (hi := ti43) (hS := hS) (hfit := by rw [krows_len]; omega)) ?_ | refine q_go (fun w hS => m_loada_bx Try.underlying43 (hi := ti43) (hS := hS) (hfit := by rw [krows_len]; omega)) ?_ | refine q_go (fun w hS => m_loada_rd Try.underlying43 (hi := ti43) (hS := hS) (hfit := by rw [krows_len]; omega)) ?_ | refine q_go (fun w hS => m_loada_vec Try.underlying43 (hi := ti43) (hS := hS) (hfit := by rw [krows_len]; omega)) ?_
                try simp only [opv, nZ, Value.cells, List.getElem_toArray, List.getElem_cons_zero, List.getElem_cons_succ]
                rw [krow_get (by omega) hkso, hx]
                refine q_on (yi (t := 70) rfl rfl) ?_
                refine q_go (fun w hS => s_neq_agg eqv43 (hg := eg43) (hX := rfl) (hY := rfl) (h1 := by assumption) (h2 := by assumption)) ?_
                try simp only [opv, nZ, Value.cells]
                first | refine q_go (fun w hS => s_pick_t) ?_ | refine q_go (fun w hS => s_pick_f) ?_
                try simp only [opv, nZ, Value.cells]
                refine q_go (fun w hS => s_assign) ?_
                try simp only [opv, nZ, Value.cells]
                clear hS
                refine q_nil fun w9 hS => ?_
                refine hK23 _ _ ?_
                refine x_region ?_
                refine s_go (s_move) ?_
                try simp only [opv, nZ, Value.cells]
                refine s_go (s_add (hc := by first | exact wr_i64 (by omega) (by omega) | rfl)) ?_
                try simp only [opv, nZ, Value.cells]
                refine s_go (s_assign) ?_
                try simp only [opv, nZ, Value.cells]
                refine x_nil ?_
                refine loop_back (m' := ss.length - (j + 1)) (by simp only [clob, List.foldl, nZ]) ?_ ?_
                · try simp only [opv, nZ, Value.cells]
                  exact ⟨j + 1, by omega, by omega, by rfl, congrArg Value.bool (by rw [all_take (by omega) hy, hab]; simp), hS.selA⟩
                · omega
             ·
              try simp only [n3, n4]
              try simp only [decide_eq_true_eq, decide_eq_false_iff_not, Bool.not_eq_true', Bool.not_eq_false', Int.not_lt, Int.not_le, ne_eq, Decidable.not_not] at hp2
              first
              | (exfalso; omega)
              | skip
                have hab : ((ss.take j).all fun z => !decide (z = x)) = false := by simpa using hp2
                refine q_off (yi (t := 70) rfl rfl) ?_
                try simp only [opv, nZ, Value.cells]
                refine q_off (yi (t := 70) rfl rfl) ?_
                try simp only [opv, nZ, Value.cells]
                refine q_off (yi (t := 70) rfl rfl) ?_
                try simp only [opv, nZ, Value.cells]
                refine q_off (yi (t := 70) rfl rfl) ?_
                try simp only [opv, nZ, Value.cells]
                refine q_off (yi (t := 70) rfl rfl) ?_
                try simp only [opv, nZ, Value.cells]
                refine q_off (yi (t := 70) rfl rfl) ?_
                try simp only [opv, nZ, Value.cells]
                refine q_off (yi (t := 70) rfl rfl) ?_
                try simp only [opv, nZ, Value.cells]
                refine q_off (yi (t := 70) rfl rfl) ?_
                try simp only [opv, nZ, Value.cells]
                refine q_off (yi (t := 70) rfl rfl) ?_
                try simp only [opv, nZ, Value.cells]
                first | refine q_go (fun w hS => s_pick_t) ?_ | refine q_go (fun w hS => s_pick_f) ?_
                try simp only [opv, nZ, Value.cells]
                refine q_go (fun w hS => s_assign) ?_
                try simp only [opv, nZ, Value.cells]
                clear hS
                refine q_nil fun w10 hS => ?_
                refine hK23 _ _ ?_
                refine x_region ?_
                refine s_go (s_move) ?_
                try simp only [opv, nZ, Value.cells]
                refine s_go (s_add (hc := by first | exact wr_i64 (by omega) (by omega) | rfl)) ?_
                try simp only [opv, nZ, Value.cells]
                refine s_go (s_assign) ?_
                try simp only [opv, nZ, Value.cells]
                refine x_nil ?_
                refine loop_back (m' := ss.length - (j + 1)) (by simp only [clob, List.foldl, nZ]) ?_ ?_
                · try simp only [opv, nZ, Value.cells]
                  exact ⟨j + 1, by omega, by omega, by rfl, congrArg Value.bool (by rw [all_take (by omega) hy, hab]; simp), hS.selA⟩
                · omega
          ·
           try simp only [decide_eq_true_eq, decide_eq_false_iff_not, Bool.not_eq_true', Bool.not_eq_false', Int.not_lt, Int.not_le, ne_eq, Decidable.not_not, bne_iff_ne, beq_iff_eq, not_true_eq_false, not_false_eq_true] at hc5
           first
           | (exfalso; omega)
           | skip
             obtain rfl : j = ss.length := by omega
             rw [List.take_of_length_le (Nat.le_refl _)]
             refine x_exit (look_here ?_)
             refine hK19 _ _ ?_
             refine x_region ?_
             refine s_go (s_move) ?_
             try simp only [opv, nZ, Value.cells]
             refine s_go (s_move) ?_
             try simp only [opv, nZ, Value.cells]
             refine s_part 82 rfl (fun hp3 => ?_) (fun hp3 => ?_)
             ·
              try simp only [n3, n4]
              try simp only [decide_eq_true_eq, decide_eq_false_iff_not, Bool.not_eq_true', Bool.not_eq_false', Int.not_lt, Int.not_le, ne_eq, Decidable.not_not] at hp3
              first
              | (exfalso; omega)
              | skip
                have hub : unsP (ks.take k) ss = true := by simpa using hp3
                refine g_off (yi (t := 82) rfl rfl) ?_
                try simp only [opv, nZ, Value.cells]
                first | refine s_go (s_pick_t) ?_ | refine s_go (s_pick_f) ?_
                try simp only [opv, nZ, Value.cells]
                refine s_go (s_assign) ?_
                try simp only [opv, nZ, Value.cells]
                refine x_nil ?_
                refine hK17 _ _ ?_
                refine x_region ?_
                refine s_go (s_move) ?_
                try simp only [opv, nZ, Value.cells]
                refine s_go (s_add (hc := by first | exact wr_i64 (by omega) (by omega) | rfl)) ?_
                try simp only [opv, nZ, Value.cells]
                refine s_go (s_assign) ?_
                try simp only [opv, nZ, Value.cells]
                refine x_nil ?_
                refine loop_back (m' := ks.length - (k + 1)) (by simp only [clob, List.foldl, nZ]) ?_ ?_
                · try simp only [opv, nZ, Value.cells]
                  first
                  | exact ⟨k + 1, by omega, by omega, by rfl, congrArg Value.bool (by rw [uns_take (by omega) hx, hub]; rfl), hS.selA⟩
                  | exact ⟨k + 1, by omega, by omega, by rfl, congrArg Value.bool (by rw [uns_take (by omega) hx, hub]; simp), hS.selA⟩
                · omega
             ·
              try simp only [n3, n4]
              try simp only [decide_eq_true_eq, decide_eq_false_iff_not, Bool.not_eq_true', Bool.not_eq_false', Int.not_lt, Int.not_le, ne_eq, Decidable.not_not] at hp3
              first
              | (exfalso; omega)
              | skip
                have hub : unsP (ks.take k) ss = false := by simpa using hp3
                refine g_on (yi (t := 82) rfl rfl) ?_
                refine s_go (s_move) ?_
                try simp only [opv, nZ, Value.cells]
                first | refine s_go (s_pick_t) ?_ | refine s_go (s_pick_f) ?_
                try simp only [opv, nZ, Value.cells]
                refine s_go (s_assign) ?_
                try simp only [opv, nZ, Value.cells]
                refine x_nil ?_
                refine hK17 _ _ ?_
                refine x_region ?_
                refine s_go (s_move) ?_
                try simp only [opv, nZ, Value.cells]
                refine s_go (s_add (hc := by first | exact wr_i64 (by omega) (by omega) | rfl)) ?_
                try simp only [opv, nZ, Value.cells]
                refine s_go (s_assign) ?_
                try simp only [opv, nZ, Value.cells]
                refine x_nil ?_
                refine loop_back (m' := ks.length - (k + 1)) (by simp only [clob, List.foldl, nZ]) ?_ ?_
                · try simp only [opv, nZ, Value.cells]
                  first
                  | exact ⟨k + 1, by omega, by omega, by rfl, congrArg Value.bool (by rw [uns_take (by omega) hx, hub]; rfl), hS.selA⟩
                  | exact ⟨k + 1, by omega, by omega, by rfl, congrArg Value.bool (by rw [uns_take (by omega) hx, hub]; simp), hS.selA⟩
                · omega
       ·
        try simp only [decide_eq_true_eq, decide_eq_false_iff_not, Bool.not_eq_true', Bool.not_eq_false', Int.not_lt, Int.not_le, ne_eq, Decidable.not_not, bne_iff_ne, beq_iff_eq, not_true_eq_false, not_false_eq_true] at hc4
        first
        | (exfalso; omega)
        | skip
          obtain rfl : k = ks.length := by omega
          rw [List.take_of_length_le (Nat.le_refl _)]
          refine x_exit (look_here ?_)
          refine hK13 _ _ ?_
          refine x_seq fun K24 hK24 => ?_
          refine x_seq fun K25 hK25 => ?_
          refine x_mixed_c (Lc := [.obj gp (.cells (KSpot ct it) 27 (0, 0)), .rd A 21 (l).length (arows (l)), .rd B 21 (r).length (arows (r)), .vec Ag cg 54 21 ((normP (l ++ (drpS (normP l) ct it)))).length (arows ((normP (l ++ (drpS (normP l) ct it)))))]) [] 0 [85, 86, 87, 88, 89, 90, 91, 92, 93, 94] (fun f w => f 94 = .bool false ∧ St NoB w0 w [.obj gp (.cells (KSpot ct it) 27 (0, 0)), .rd A 21 (l).length (arows (l)), .rd B 21 (r).length (arows (r)), .vec Ag cg 54 21 ((normP (l ++ (drpS (normP l) ct it)))).length (arows ((normP (l ++ (drpS (normP l) ct it)))))]) (by kernel_rfl) (by kernel_rfl) (by kernel_rfl) (by decide) hS (fun w11 hS => ?mixpre1901) ?mixrest1901
          case mixpre1901 =>
           refine p_nil ?_
           simp only [List.length_cons, List.length_nil, Nat.reduceAdd, Nat.reduceSub]
           refine any_go (i := 0) (by rfl) (by decide +kernel) (by decide +kernel) noLate_nil (go_yields w_none (fun w hS => s_move)) ?_
           try simp only [opv, nZ, Value.cells]
           refine any_go (i := 1) (by rfl) (by decide +kernel) (by decide +kernel) noLate_nil (go_yields w_none (fun w hS => s_move)) ?_
           try simp only [opv, nZ, Value.cells]
           first | refine any_go (i := 3) (by rfl) (by decide +kernel) (by decide +kernel) noLate_nil (go_yields w_none (fun w hS => m_fieldAddr Try.underlying27 (hi := ti23))) ?_ | refine any_go (i := 3) (by rfl) (by decide +kernel) (by decide +kernel) noLate_nil (go_yields w_none (fun w hS => m_fieldAddr_rd Try.underlying27 (hi := ti23) (hS := hS))) ?_ | refine any_go (i := 3) (by rfl) (by decide +kernel) (by decide +kernel) noLate_nil (go_yields w_none (fun w hS => m_fieldAddr_vec Try.underlying27 (hi := ti23) (hS := hS))) ?_
           try simp only [opv, nZ, Value.cells, Nat.zero_add, Nat.add_zero, List.getElem_toArray, List.getElem_cons_zero, List.getElem_cons_succ]
           first | refine any_go (i := 4) (by rfl) (by decide +kernel) (by decide +kernel) noLate_nil (go_yields w_none (fun w hS => m_load_obj Try.underlying23 (hS := hS) (hv := by first | rfl | exact zi_get rfl (by omega) | exact ic_get (by omega) | exact il_get (by omega)))) ?_ | refine any_go (i := 4) (by rfl) (by decide +kernel) (by decide +kernel) noLate_nil (go_yields w_none (fun w hS => m_load_bx Try.underlying23 (hS := hS) (hv := by first | rfl | exact zi_get rfl (by omega) | exact ic_get (by omega) | exact il_get (by omega)))) ?_ | refine any_go (i := 4) (by rfl) (by decide +kernel) (by decide +kernel) noLate_nil (go_yields w_none (fun w hS => m_load_rd Try.underlying23 (hS := hS) (hv := by first | rfl | exact zi_get rfl (by omega) | exact ic_get (by omega) | exact il_get (by omega)))) ?_ | refine any_go (i := 4) (by rfl) (by decide +kernel) (by decide +kernel) noLate_nil (go_yields w_none (fun w hS => m_load_vec Try.underlying23 (hS := hS) (hv := by first | rfl | exact zi_get rfl (by omega) | exact ic_get (by omega) | exact il_get (by omega)))) ?_
           try simp only [opv, nZ, Value.cells, List.getElem_toArray, List.getElem_cons_zero, List.getElem_cons_succ]
           try rw [show (spotL ct it).getD 0 0 = (ct : Int) from rfl]
           first | refine any_go (i := 5) (by rfl) (by decide +kernel) (by decide +kernel) noLate_nil (go_yields w_none (fun w hS => m_fieldAddr Try.underlying27 (hi := ti25))) ?_ | refine any_go (i := 5) (by rfl) (by decide +kernel) (by decide +kernel) noLate_nil (go_yields w_none (fun w hS => m_fieldAddr_rd Try.underlying27 (hi := ti25) (hS := hS))) ?_ | refine any_go (i := 5) (by rfl) (by decide +kernel) (by decide +kernel) noLate_nil (go_yields w_none (fun w hS => m_fieldAddr_vec Try.underlying27 (hi := ti25) (hS := hS))) ?_
           try simp only [opv, nZ, Value.cells, Nat.zero_add, Nat.add_zero, List.getElem_toArray, List.getElem_cons_zero, List.getElem_cons_succ]
           first | refine any_go (i := 6) (by rfl) (by decide +kernel) (by decide +kernel) noLate_nil (go_yields w_none (fun w hS => m_load_row Try.underlying25 (hi := ti25) (hS := hS) (hfit := by first | omega | (rw [zi_size (by omega)]; first | rfl | decide) | (simp only [ic_size, List.length_map, List.size_toArray]; first | omega | decide) | rfl | (simp [*]; done) | (simp [*]; omega)))) ?_ | refine any_go (i := 6) (by rfl) (by decide +kernel) (by decide +kernel) noLate_nil (go_yields w_none (fun w hS => m_loada_obj Try.underlying25 (hi := ti25) (hS := hS) (hfit := by first | omega | (rw [zi_size (by omega)]; first | rfl | decide) | (simp only [ic_size, List.length_map, List.size_toArray]; first | omega | decide) | rfl | (simp [*]; done) | (simp [*]; omega)))) ?_ | refine any_go (i := 6) (by rfl) (by decide +kernel) (by decide +kernel) noLate_nil (go_yields w_none (fun w hS => m_loada_bx Try.underlying25 (hi := ti25) (hS := hS) (hfit := by first | omega | (rw [zi_size (by omega)]; first | rfl | decide) | (simp only [ic_size, List.length_map, List.size_toArray]; first | omega | decide) | rfl | (simp [*]; done) | (simp [*]; omega)))) ?_ | refine any_go (i := 6) (by rfl) (by decide +kernel) (by decide +kernel) noLate_nil (go_yields w_none (fun w hS => m_loada_rd Try.underlying25 (hi := ti25) (hS := hS) (hfit := by first | omega | (rw [zi_size (by omega)]; first | rfl | decide) | (simp only [ic_size, List.length_map, List.size_toArray]; first | omega | decide) | rfl | (simp [*]; done) | (simp [*]; omega)))) ?_ | refine any_go (i := 6) (by rfl) (by decide +kernel) (by decide +kernel) noLate_nil (go_yields w_none (fun w hS => m_loada_vec Try.underlying25 (hi := ti25) (hS := hS) (hfit := by first | omega | (rw [zi_size (by omega)]; first | rfl | decide) | (simp only [ic_size, List.length_map, List.size_toArray]; first | omega | decide) | rfl | (simp [*]; done) | (simp [*]; omega)))) ?_
           try simp only [opv, nZ, Value.cells, List.getElem_toArray, List.getElem_cons_zero, List.getElem_cons_succ]
           rw [spot_text h8]
           refine any_go (i := 8) (by rfl) (by decide +kernel) (by decide +kernel) noLate_nil (go_yields w_none (fun w hS => s_move)) ?_
           try simp only [opv, nZ, Value.cells]
           refine any_step [2] (by kernel_rfl) (by decide) (fun w12 hE => ⟨fun _ => (hS.ext hE).sel (by repeat (first | exact Sel.nil | (refine Sel.cons (by repeat (first | exact Del.head | apply Del.tail)) ?_))), ?_⟩)
           replace hS := hS.ext hE
           intro i hi
           simp only [List.mem_cons, List.not_mem_nil, or_false] at hi
           subst hi
           ·
            refine any_op (by rfl) ?_
            refine s_call en17 ?_
            try simp only [opv, nZ, Value.cells, List.map_toArray, List.map_cons, List.map_nil, List.append_toArray, List.cons_append, List.nil_append, Array.append_empty]
            refine CallR.mono (c_ref10Join _ Ag cg (normP (l ++ (drpS (normP l) ct it))) (hS.vecRd (by repeat (first | exact Has.head | apply Has.tail))) hgo B d r (hS.hasRd (by repeat (first | exact Has.head | apply Has.tail))) hv2 (by omega)) ?_
            rintro _ w13 ⟨Aj, cj, rfl, hC13⟩
            replace hS := hS.call hC13
            simp only [List.cons_append, List.nil_append] at hS
            try simp only [opv, nZ, Value.cells]
            refine x_nil ?_
            refine any_step [7] (by kernel_rfl) (by decide) (fun w14 hE => ⟨fun _ => (hS.ext hE).sel (by repeat (first | exact Sel.nil | (refine Sel.cons (by repeat (first | exact Del.head | apply Del.tail)) ?_))), ?_⟩)
            replace hS := hS.ext hE
            intro i hi
            simp only [List.mem_cons, List.not_mem_nil, or_false] at hi
            subst hi
            ·
             refine any_op (by rfl) ?_
             refine s_call en18 ?_
             try simp only [opv, nZ, Value.cells, List.map_toArray, List.map_cons, List.map_nil, List.append_toArray, List.cons_append, List.nil_append, Array.append_empty]
             refine CallR.mono (c_tagsPresent _ Aj cj (normP ((normP (l ++ (drpS (normP l) ct it))) ++ r)) (hS.vecRd (by repeat (first | exact Has.head | apply Has.tail))) hjo (by omega) ct hct it h8) ?_
             rintro _ w15 ⟨rfl, hE15⟩
             replace hS := hS.ext hE15
             try simp only [opv, nZ, Value.cells]
             rw [hwm]
             refine x_nil ?_
             refine any_go (i := 9) (by rfl) (by decide +kernel) (by decide +kernel) noLate_nil (go_yields w_none (fun w hS => s_neq_bool Try.underlying4)) ?_
             try simp only [opv, nZ, Value.cells]
             rw [show (!(unsP ks ss == unsP ks ss)) = false by rw [beq_self_eq_true]; rfl]
             refine any_nil (by kernel_rfl) (fun w16 hE => ?_)
             replace hS := hS.ext hE
             refine ⟨fun _ => hS.selA, ?_⟩
             refine mix_leaf (by simp only [clob, List.foldl, nZ]) ?_
             try simp only [n1, n2]
             exact ⟨by first | trivial | rfl, hS.selA⟩
          intro fm1 w17 hM
          obtain ⟨h94, hS⟩ := hM
          simp only [clob, List.foldl, n3, n4, h94]
          refine hK25 _ _ ?_
          refine x_cond_f (h := ?_)
          refine x_skip ?_
          refine hK24 _ _ ?_
          refine x_seq fun K26 hK26 => ?_
          refine x_region ?_
          refine s_go (s_move) ?_
          try simp only [opv, nZ, Value.cells]
          first | refine s_go (m_fieldAddr Try.underlying27 (hi := ti23)) ?_ | refine s_go (m_fieldAddr_rd Try.underlying27 (hi := ti23) (hS := hS)) ?_ | refine s_go (m_fieldAddr_vec Try.underlying27 (hi := ti23) (hS := hS)) ?_
          try simp only [opv, nZ, Value.cells, Nat.zero_add, Nat.add_zero, List.getElem_toArray, List.getElem_cons_zero, List.getElem_cons_succ]
          first | refine s_go (m_load_obj Try.underlying23 (hS := hS) (hv := by first | rfl | exact zi_get rfl (by omega) | exact ic_get (by omega) | exact il_get (by omega))) ?_ | refine s_go (m_load_bx Try.underlying23 (hS := hS) (hv := by first | rfl | exact zi_get rfl (by omega) | exact ic_get (by omega) | exact il_get (by omega))) ?_ | refine s_go (m_load_rd Try.underlying23 (hS := hS) (hv := by first | rfl | exact zi_get rfl (by omega) | exact ic_get (by omega) | exact il_get (by omega))) ?_ | refine s_go (m_load_vec Try.underlying23 (hS := hS) (hv := by first | rfl | exact zi_get rfl (by omega) | exact ic_get (by omega) | exact il_get (by omega))) ?_
          try simp only [opv, nZ, Value.cells, List.getElem_toArray, List.getElem_cons_zero, List.getElem_cons_succ]
          try rw [show (spotL ct it).getD 0 0 = (ct : Int) from rfl]
          refine s_go (s_add (hc := hcw)) ?_
          try simp only [opv, nZ, Value.cells]
          refine s_call en21 ?_
          try simp only [opv, nZ, Value.cells, List.map_toArray, List.map_cons, List.map_nil, List.append_toArray, List.cons_append, List.nil_append, Array.append_empty]
          refine CallR.mono (c_tagsItems _ A c l (hS.hasRd (by repeat (first | exact Has.head | apply Has.tail))) hv (by omega) c1 hc1b) ?_
          rintro _ w18 ⟨Oi, oci, rfl, hC18⟩
          replace hS := hS.call hC18
          simp only [List.cons_append, List.nil_append] at hS
          try simp only [opv, nZ, Value.cells]
          refine s_go (s_assign) ?_
          try simp only [opv, nZ, Value.cells]
          refine x_nil ?_
          refine hK26 _ _ ?_
          refine x_seq fun K27 hK27 => ?_
          refine x_seq fun K28 hK28 => ?_
          refine x_region ?_
          refine s_go (s_move) ?_
          try simp only [opv, nZ, Value.cells]
          first | refine s_go (m_fieldAddr Try.underlying27 (hi := ti23)) ?_ | refine s_go (m_fieldAddr_rd Try.underlying27 (hi := ti23) (hS := hS)) ?_ | refine s_go (m_fieldAddr_vec Try.underlying27 (hi := ti23) (hS := hS)) ?_
          try simp only [opv, nZ, Value.cells, Nat.zero_add, Nat.add_zero, List.getElem_toArray, List.getElem_cons_zero, List.getElem_cons_succ]
          first | refine s_go (m_load_obj Try.underlying23 (hS := hS) (hv := by first | rfl | exact zi_get rfl (by omega) | exact ic_get (by omega) | exact il_get (by omega))) ?_ | refine s_go (m_load_bx Try.underlying23 (hS := hS) (hv := by first | rfl | exact zi_get rfl (by omega) | exact ic_get (by omega) | exact il_get (by omega))) ?_ | refine s_go (m_load_rd Try.underlying23 (hS := hS) (hv := by first | rfl | exact zi_get rfl (by omega) | exact ic_get (by omega) | exact il_get (by omega))) ?_ | refine s_go (m_load_vec Try.underlying23 (hS := hS) (hv := by first | rfl | exact zi_get rfl (by omega) | exact ic_get (by omega) | exact il_get (by omega))) ?_
          try simp only [opv, nZ, Value.cells, List.getElem_toArray, List.getElem_cons_zero, List.getElem_cons_succ]
          try rw [show (spotL ct it).getD 0 0 = (ct : Int) from rfl]
          refine s_go (s_add (hc := hcw)) ?_
          try simp only [opv, nZ, Value.cells]
          refine s_call en21 ?_
          try simp only [opv, nZ, Value.cells, List.map_toArray, List.map_cons, List.map_nil, List.append_toArray, List.cons_append, List.nil_append, Array.append_empty]
          refine CallR.mono (c_tagsItems _ Ag cg (normP (l ++ (drpS (normP l) ct it))) (hS.vecRd (by repeat (first | exact Has.head | apply Has.tail))) hgo (by omega) c1 hc1b) ?_
          rintro _ w19 ⟨Oh, och, rfl, hC19⟩
          replace hS := hS.call hC19
          simp only [List.cons_append, List.nil_append] at hS
          rw [hio] at hS ⊢
          try simp only [opv, nZ, Value.cells]
          refine s_go (s_move) ?_
          try simp only [opv, nZ, Value.cells]
          refine s_call en22 ?_
          try simp only [opv, nZ, Value.cells, List.map_toArray, List.map_cons, List.map_nil, List.append_toArray, List.cons_append, List.nil_append, Array.append_empty]
          refine CallR.mono (c_ref14Names _ Oh och (itmS (normP l) c1) (hS.vecRd (by repeat (first | exact Has.head | apply Has.tail))) hi8 Oi oci (itmS (normP l) c1) (hS.vecRd (by repeat (first | exact Has.head | apply Has.tail))) hi8 (by omega)) ?_
          rintro _ w20 ⟨rfl, hE20⟩
          replace hS := hS.ext hE20
          try simp only [opv, nZ, Value.cells]
          try simp only [eq_self, decide_true, beq_self_eq_true, Bool.and_self]
          refine s_go (s_not) ?_
          try simp only [opv, nZ, Value.cells]
          refine x_nil ?_
          refine hK28 _ _ ?_
          refine x_cond_f (h := ?_)
          refine x_skip ?_
          refine hK27 _ _ ?_
          refine x_seq fun K29 hK29 => ?_
          refine x_region ?_
          refine s_go (s_move) ?_
          try simp only [opv, nZ, Value.cells]
          first | refine s_go (m_fieldAddr Try.underlying27 (hi := ti23)) ?_ | refine s_go (m_fieldAddr_rd Try.underlying27 (hi := ti23) (hS := hS)) ?_ | refine s_go (m_fieldAddr_vec Try.underlying27 (hi := ti23) (hS := hS)) ?_
          try simp only [opv, nZ, Value.cells, Nat.zero_add, Nat.add_zero, List.getElem_toArray, List.getElem_cons_zero, List.getElem_cons_succ]
          first | refine s_go (m_load_obj Try.underlying23 (hS := hS) (hv := by first | rfl | exact zi_get rfl (by omega) | exact ic_get (by omega) | exact il_get (by omega))) ?_ | refine s_go (m_load_bx Try.underlying23 (hS := hS) (hv := by first | rfl | exact zi_get rfl (by omega) | exact ic_get (by omega) | exact il_get (by omega))) ?_ | refine s_go (m_load_rd Try.underlying23 (hS := hS) (hv := by first | rfl | exact zi_get rfl (by omega) | exact ic_get (by omega) | exact il_get (by omega))) ?_ | refine s_go (m_load_vec Try.underlying23 (hS := hS) (hv := by first | rfl | exact zi_get rfl (by omega) | exact ic_get (by omega) | exact il_get (by omega))) ?_
          try simp only [opv, nZ, Value.cells, List.getElem_toArray, List.getElem_cons_zero, List.getElem_cons_succ]
          try rw [show (spotL ct it).getD 0 0 = (ct : Int) from rfl]
          first | refine s_go (m_fieldAddr Try.underlying27 (hi := ti25)) ?_ | refine s_go (m_fieldAddr_rd Try.underlying27 (hi := ti25) (hS := hS)) ?_ | refine s_go (m_fieldAddr_vec Try.underlying27 (hi := ti25) (hS := hS)) ?_
          try simp only [opv, nZ, Value.cells, Nat.zero_add, Nat.add_zero, List.getElem_toArray, List.getElem_cons_zero, List.getElem_cons_succ]
          first | refine s_go (m_load_row Try.underlying25 (hi := ti25) (hS := hS) (hfit := by first | omega | (rw [zi_size (by omega)]; first | rfl | decide) | (simp only [ic_size, List.length_map, List.size_toArray]; first | omega | decide) | rfl | (simp [*]; done) | (simp [*]; omega))) ?_ | refine s_go (m_loada_obj Try.underlying25 (hi := ti25) (hS := hS) (hfit := by first | omega | (rw [zi_size (by omega)]; first | rfl | decide) | (simp only [ic_size, List.length_map, List.size_toArray]; first | omega | decide) | rfl | (simp [*]; done) | (simp [*]; omega))) ?_ | refine s_go (m_loada_bx Try.underlying25 (hi := ti25) (hS := hS) (hfit := by first | omega | (rw [zi_size (by omega)]; first | rfl | decide) | (simp only [ic_size, List.length_map, List.size_toArray]; first | omega | decide) | rfl | (simp [*]; done) | (simp [*]; omega))) ?_ | refine s_go (m_loada_rd Try.underlying25 (hi := ti25) (hS := hS) (hfit := by first | omega | (rw [zi_size (by omega)]; first | rfl | decide) | (simp only [ic_size, List.length_map, List.size_toArray]; first | omega | decide) | rfl | (simp [*]; done) | (simp [*]; omega))) ?_ | refine s_go (m_loada_vec Try.underlying25 (hi := ti25) (hS := hS) (hfit := by first | omega | (rw [zi_size (by omega)]; first | rfl | decide) | (simp only [ic_size, List.length_map, List.size_toArray]; first | omega | decide) | rfl | (simp [*]; done) | (simp [*]; omega))) ?_
          try simp only [opv, nZ, Value.cells, List.getElem_toArray, List.getElem_cons_zero, List.getElem_cons_succ]
          rw [spot_text h8]
          refine s_call en12 ?_
          try simp only [opv, nZ, Value.cells, List.map_toArray, List.map_cons, List.map_nil, List.append_toArray, List.cons_append, List.nil_append, Array.append_empty]
          refine CallR.mono (c_tagsAdd _ A c l (hS.hasRd (by repeat (first | exact Has.head | apply Has.tail))) hv (by omega) 3 (by decide) ct hct it h8 hbt) ?_
          rintro _ w21 ⟨Ax, cx, rfl, hC21⟩
          replace hS := hS.call hC21
          simp only [List.cons_append, List.nil_append] at hS
          try simp only [opv, nZ, Value.cells]
          refine s_go (s_move) ?_
          try simp only [opv, nZ, Value.cells]
          refine s_go (s_extract (hv := rfl)) ?_
          try simp only [List.getElem_toArray, List.getElem_cons_zero, List.getElem_cons_succ]
          try simp only [opv, nZ, Value.cells]
          refine s_go (s_extract (hv := rfl)) ?_
          try simp only [List.getElem_toArray, List.getElem_cons_zero, List.getElem_cons_succ]
          try simp only [opv, nZ, Value.cells]
          refine s_go (s_assign) ?_
          try simp only [opv, nZ, Value.cells]
          refine s_go (s_assign) ?_
          try simp only [opv, nZ, Value.cells]
          refine x_nil ?_
          refine hK29 _ _ ?_
          refine x_seq fun K30 hK30 => ?_
          refine x_seq fun K31 hK31 => ?_
          refine x_region ?_
          refine s_go (s_move) ?_
          try simp only [opv, nZ, Value.cells]
          refine s_go (s_neq) ?_
          try simp only [opv, nZ, Value.cells]
          refine x_nil ?_
          refine hK31 _ _ ?_
          refine x_cond (ht := fun hc8 => ?_) (hf := fun hc8 => ?_)
          ·
           try simp only [decide_eq_true_eq, decide_eq_false_iff_not, Bool.not_eq_true', Bool.not_eq_false', Int.not_lt, Int.not_le, ne_eq, Decidable.not_not, bne_iff_ne, beq_iff_eq, not_true_eq_false, not_false_eq_true] at hc8
           first
           | (exfalso; omega)
           | skip
             have hE : ¬ addE l 3 it = 0 := by simpa using hc8
             refine x_seq fun K32 hK32 => ?_
             refine x_region ?_
             refine s_go (s_move) ?_
             try simp only [opv, nZ, Value.cells]
             refine s_go (s_eql) ?_
             try simp only [opv, nZ, Value.cells]
             first | refine s_go (m_fieldAddr Try.underlying27 (hi := ti25)) ?_ | refine s_go (m_fieldAddr_rd Try.underlying27 (hi := ti25) (hS := hS)) ?_ | refine s_go (m_fieldAddr_vec Try.underlying27 (hi := ti25) (hS := hS)) ?_
             try simp only [opv, nZ, Value.cells, Nat.zero_add, Nat.add_zero, List.getElem_toArray, List.getElem_cons_zero, List.getElem_cons_succ]
             first | refine s_go (m_load_row Try.underlying25 (hi := ti25) (hS := hS) (hfit := by first | omega | (rw [zi_size (by omega)]; first | rfl | decide) | (simp only [ic_size, List.length_map, List.size_toArray]; first | omega | decide) | rfl | (simp [*]; done) | (simp [*]; omega))) ?_ | refine s_go (m_loada_obj Try.underlying25 (hi := ti25) (hS := hS) (hfit := by first | omega | (rw [zi_size (by omega)]; first | rfl | decide) | (simp only [ic_size, List.length_map, List.size_toArray]; first | omega | decide) | rfl | (simp [*]; done) | (simp [*]; omega))) ?_ | refine s_go (m_loada_bx Try.underlying25 (hi := ti25) (hS := hS) (hfit := by first | omega | (rw [zi_size (by omega)]; first | rfl | decide) | (simp only [ic_size, List.length_map, List.size_toArray]; first | omega | decide) | rfl | (simp [*]; done) | (simp [*]; omega))) ?_ | refine s_go (m_loada_rd Try.underlying25 (hi := ti25) (hS := hS) (hfit := by first | omega | (rw [zi_size (by omega)]; first | rfl | decide) | (simp only [ic_size, List.length_map, List.size_toArray]; first | omega | decide) | rfl | (simp [*]; done) | (simp [*]; omega))) ?_ | refine s_go (m_loada_vec Try.underlying25 (hi := ti25) (hS := hS) (hfit := by first | omega | (rw [zi_size (by omega)]; first | rfl | decide) | (simp only [ic_size, List.length_map, List.size_toArray]; first | omega | decide) | rfl | (simp [*]; done) | (simp [*]; omega))) ?_
             try simp only [opv, nZ, Value.cells, List.getElem_toArray, List.getElem_cons_zero, List.getElem_cons_succ]
             rw [spot_text h8]
             refine s_call en23 ?_
             try simp only [opv, nZ, Value.cells, List.map_toArray, List.map_cons, List.map_nil, List.append_toArray, List.cons_append, List.nil_append, Array.append_empty]
             refine CallR.mono (c_ref06Right it h8 hbt _) ?_
             rintro _ w22 ⟨rfl, hE22⟩
             replace hS := hS.ext hE22
             try simp only [opv, nZ, Value.cells]
             refine s_go (s_not) ?_
             try simp only [opv, nZ, Value.cells]
             refine s_go (s_eql_bool Try.underlying4) ?_
             try simp only [opv, nZ, Value.cells]
             rw [addE_right hE]
             refine s_go (s_move) ?_
             try simp only [opv, nZ, Value.cells]
             refine g_on (yi (t := 126) rfl rfl) ?_
             refine s_call en9 ?_
             try simp only [opv, nZ, Value.cells, List.map_toArray, List.map_cons, List.map_nil, List.append_toArray, List.cons_append, List.nil_append, Array.append_empty]
             refine CallR.mono (c_law14alive _) ?_
             rintro _ w23 ⟨rfl, hE23⟩
             replace hS := hS.ext hE23
             try simp only [opv, nZ, Value.cells]
             first | refine s_go (s_pick_t) ?_ | refine s_go (s_pick_f) ?_
             try simp only [opv, nZ, Value.cells]
             refine s_go (s_assign) ?_
             try simp only [opv, nZ, Value.cells]
             refine x_nil ?_
             refine hK32 _ _ ?_
             refine x_ret ?_
             refine r_tmp rfl ?_
             first | exact ⟨rfl, hEE⟩ | exact ⟨rfl, hS.ext_of⟩
          ·
           try simp only [decide_eq_true_eq, decide_eq_false_iff_not, Bool.not_eq_true', Bool.not_eq_false', Int.not_lt, Int.not_le, ne_eq, Decidable.not_not, bne_iff_ne, beq_iff_eq, not_true_eq_false, not_false_eq_true] at hc8
           first
           | (exfalso; omega)
           | skip
             have hE : addE l 3 it = 0 := by simpa using hc8
             rw [addP_yes hE] at hS ⊢
             have hao : AtomOk (addA l 3 ct it) := addA_ok hv (by decide) hct h8 hbt
             have hao1 := aok_one hao
             have hone1 : [(addA l 3 ct it)].length = 1 := rfl
             have hal := hao.len
             have hk12 := hao.key.len
             have hio2 := itm_other hv hao1 hcne (fun b hb => by rw [List.mem_singleton] at hb; rw [hb, add_key h8, mk_1])
             have hj2o := (norm_sta (hv.app hao1)).ok
             have hj2l := norm_len (l ++ [(addA l 3 ct it)])
             rw [List.length_append] at hj2l
             have hj3o := (norm_sta (hj2o.app hv2)).ok
             have hj3l := norm_len ((normP (l ++ [(addA l 3 ct it)])) ++ r)
             rw [List.length_append] at hj3l
             simp only [List.length_cons, List.length_nil] at hj2l
             have hfd := fndD_ok (k := akey (addA l 3 ct it)) (norm_sta hv2).ok
             have hfd9 := hfd.len
             refine x_skip ?_
             refine hK30 _ _ ?_
             refine x_seq fun K33 hK33 => ?_
             refine x_seq fun K34 hK34 => ?_
             refine x_region ?_
             refine s_go (s_move) ?_
             try simp only [opv, nZ, Value.cells]
             refine s_go (s_len_sl Try.underlying22) ?_
             try simp only [opv, nZ, Value.cells]
             simp only [List.length_cons, List.length_nil, Nat.zero_add]
             refine s_go (s_neq) ?_
             try simp only [opv, nZ, Value.cells]
             try simp only [ne_eq, not_true_eq_false, decide_false, eq_self, decide_true]
             refine x_nil ?_
             refine hK34 _ _ ?_
             refine x_cond_f (h := ?_)
             refine x_skip ?_
             refine hK33 _ _ ?_
             refine x_seq fun K35 hK35 => ?_
             refine x_region ?_
             refine s_go (s_move) ?_
             try simp only [opv, nZ, Value.cells]
             refine s_go (s_move) ?_
             try simp only [opv, nZ, Value.cells]
             first | refine s_go (m_indexAddr_rd Try.underlying22 ti54 (hS := hS)) ?_ | refine s_go (m_indexAddr_vec Try.underlying22 ti54 (hS := hS)) ?_
             try simp only [opv, nZ, Value.cells, Nat.mul_one, Nat.zero_add, Int.toNat_natCast, Int.reduceToNat]
             first | refine s_go (m_fieldAddr Try.underlying54 (hi := ti43)) ?_ | refine s_go (m_fieldAddr_rd Try.underlying54 (hi := ti43) (hS := hS)) ?_ | refine s_go (m_fieldAddr_vec Try.underlying54 (hi := ti43) (hS := hS)) ?_
             try simp only [opv, nZ, Value.cells, Nat.zero_add, Nat.add_zero, List.getElem_toArray, List.getElem_cons_zero, List.getElem_cons_succ]
             refine s_go (m_loada_vec Try.underlying43 (hi := ti43) (hS := hS) (hfit := by rw [arows_len, hone1]; decide)) ?_
             try simp only [opv, nZ, Value.cells, List.getElem_toArray, List.getElem_cons_zero, List.getElem_cons_succ]
             first | rw [arow_key (l := [(addA l 3 ct it)]) (k := 0) (by simp) hao1] | rw [show (List.take 12 (List.drop 0 (arows [(addA l 3 ct it)]))).toArray = KA (akey (addA l 3 ct it)) from arow_key (l := [(addA l 3 ct it)]) (k := 0) (by simp) hao1]
             refine s_call en24 ?_
             try simp only [opv, nZ, Value.cells, List.map_toArray, List.map_cons, List.map_nil, List.append_toArray, List.cons_append, List.nil_append, Array.append_empty]
             refine CallR.mono (c_ref10Find _ B d r (hS.hasRd (by repeat (first | exact Has.head | apply Has.tail))) hv2 (by omega) (akey (addA l 3 ct it)) hao.key) ?_
             rintro _ w24 ⟨rfl, hE24⟩
             replace hS := hS.ext hE24
             try simp only [opv, nZ, Value.cells]
             refine s_go (s_move) ?_
             try simp only [opv, nZ, Value.cells]
             refine s_go (s_extract (hv := rfl)) ?_
             try simp only [List.getElem_toArray, List.getElem_cons_zero, List.getElem_cons_succ]
             try simp only [opv, nZ, Value.cells]
             refine s_go (s_extract (hv := rfl)) ?_
             try simp only [List.getElem_toArray, List.getElem_cons_zero, List.getElem_cons_succ]
             try simp only [opv, nZ, Value.cells]
             refine m_alloc ti50 hS (fun w25 g25 hS => ?_)
             try simp only [opv, nZ, Value.cells, Array.toArray_toList] at hS ⊢
             first | refine m_store_obj ti50 (hS := hS) (hc := by first | exact zi_set rfl (by omega) | exact zi_whole (by omega) (by omega) | (first | exact splice_ic (by first | omega | (simp [*]; done) | (simp [*]; omega)) | exact splice_il (by first | omega | (simp [*]; done) | (simp [*]; omega)) | exact splice_whole (by first | (simp [opv, Value.cells, *]; done) | rfl) | (simp only [opv, n1, n2, Value.cells, splice, List.take_succ_cons, List.take_zero, List.drop_succ_cons, List.drop_zero, List.length_cons, List.length_nil, Nat.zero_add, Nat.reduceAdd, List.append_assoc, List.cons_append, List.nil_append]; rfl))) (hv := by first | rfl | (show (zi _ _).toArray.size = _; rw [zi_size (by omega)]; rfl) | (simp [opv, Value.cells, *]; done)) (hfit := by first | omega | (rw [zi_size (by omega)]; first | rfl | decide) | (simp only [ic_size, List.length_map, List.size_toArray]; first | omega | decide) | rfl | (simp [*]; done) | (simp [*]; omega)) (h1 := by first | exact zi_one _ _ | exact ic_one _ _ | simp [opv, Value.cells, Value.oneCell']) (h := fun w26 hS => ?_) | refine m_store_vec ti50 (hS := hS) (hc := by first | exact zi_set rfl (by omega) | exact zi_whole (by omega) (by omega) | (first | exact splice_ic (by first | omega | (simp [*]; done) | (simp [*]; omega)) | exact splice_il (by first | omega | (simp [*]; done) | (simp [*]; omega)) | exact splice_whole (by first | (simp [opv, Value.cells, *]; done) | rfl) | (simp only [opv, n1, n2, Value.cells, splice, List.take_succ_cons, List.take_zero, List.drop_succ_cons, List.drop_zero, List.length_cons, List.length_nil, Nat.zero_add, Nat.reduceAdd, List.append_assoc, List.cons_append, List.nil_append]; rfl))) (hv := by first | rfl | (show (zi _ _).toArray.size = _; rw [zi_size (by omega)]; rfl) | (simp [opv, Value.cells, *]; done)) (hfit := by first | omega | (rw [zi_size (by omega)]; first | rfl | decide) | (simp only [ic_size, List.length_map, List.size_toArray]; first | omega | decide) | rfl | (simp [*]; done) | (simp [*]; omega)) (h1 := by first | exact zi_one _ _ | exact ic_one _ _ | simp [opv, Value.cells, Value.oneCell']) (h := fun w26 hS => ?_)
             try simp only [opv, nZ, Value.cells, Array.toArray_toList] at hS ⊢
             refine s_go (s_assign) ?_
             try simp only [opv, nZ, Value.cells]
             refine x_nil ?_
             refine hK35 _ _ ?_
             refine x_seq fun K36 hK36 => ?_
             refine x_region ?_
             refine s_go (s_move) ?_
             try simp only [opv, nZ, Value.cells]
             refine s_go (s_move) ?_
             try simp only [opv, nZ, Value.cells]
             refine s_call en17 ?_
             try simp only [opv, nZ, Value.cells, List.map_toArray, List.map_cons, List.map_nil, List.append_toArray, List.cons_append, List.nil_append, Array.append_empty]
             refine CallR.mono (c_ref10Join _ A c l (hS.hasRd (by repeat (first | exact Has.head | apply Has.tail))) hv Ax cx [(addA l 3 ct it)] (hS.vecRd (by repeat (first | exact Has.head | apply Has.tail))) hao1 (by simp; omega)) ?_
             rintro _ w27 ⟨A2, c2, rfl, hC27⟩
             replace hS := hS.call hC27
             simp only [List.cons_append, List.nil_append] at hS
             try simp only [opv, nZ, Value.cells]
             refine s_go (s_move) ?_
             try simp only [opv, nZ, Value.cells]
             refine s_call en17 ?_
             try simp only [opv, nZ, Value.cells, List.map_toArray, List.map_cons, List.map_nil, List.append_toArray, List.cons_append, List.nil_append, Array.append_empty]
             refine CallR.mono (c_ref10Join _ A2 c2 (normP (l ++ [(addA l 3 ct it)])) (hS.vecRd (by repeat (first | exact Has.head | apply Has.tail))) hj2o B d r (hS.hasRd (by repeat (first | exact Has.head | apply Has.tail))) hv2 (by omega)) ?_
             rintro _ w28 ⟨A3, c3, rfl, hC28⟩
             replace hS := hS.call hC28
             simp only [List.cons_append, List.nil_append] at hS
             try simp only [opv, nZ, Value.cells]
             refine s_go (s_assign) ?_
             try simp only [opv, nZ, Value.cells]
             refine x_nil ?_
             refine hK36 _ _ ?_
             refine x_seq fun K37 hK37 => ?_
             refine x_mixed_c (Lc := [.obj gp (.cells (KSpot ct it) 27 (0, 0)), .rd A 21 (l).length (arows (l)), .vec Ax cx 54 21 ([(addA l 3 ct it)]).length (arows ([(addA l 3 ct it)])), .vec A3 c3 54 21 ((normP ((normP (l ++ [(addA l 3 ct it)])) ++ r))).length (arows ((normP ((normP (l ++ [(addA l 3 ct it)])) ++ r)))), .vec Oi oci 25 8 (itmS (normP l) c1).length (nrows (itmS (normP l) c1))]) [] 0 [6, 146, 147, 148, 149, 150, 151, 152, 153, 154, 155, 156, 157, 158, 159, 160, 161, 162, 163, 164, 165, 166, 167, 168] (fun f w => f 6 = .bool true ∧ Ext w0 w) (by kernel_rfl) (by kernel_rfl) (by kernel_rfl) (by decide) hS (fun w29 hS => ?mixpre3102) ?mixrest3102
             case mixpre3102 =>
              refine p_nil ?_
              simp only [List.length_cons, List.length_nil, Nat.reduceAdd, Nat.reduceSub]
              refine any_go (i := 0) (by rfl) (by decide +kernel) (by decide +kernel) noLate_nil (go_yields w_none (fun w hS => s_move)) ?_
              try simp only [opv, nZ, Value.cells]
              refine any_go (i := 1) (by rfl) (by decide +kernel) (by decide +kernel) noLate_nil (go_yields w_none (fun w hS => s_move)) ?_
              try simp only [opv, nZ, Value.cells]
              refine any_part 147 rfl (fun hp4 => ?_) (fun hp4 => ?_)
              ·
               try simp only [n3, n4]
               try simp only [decide_eq_true_eq, decide_eq_false_iff_not, Bool.not_eq_true', Bool.not_eq_false', Int.not_lt, Int.not_le, ne_eq, Decidable.not_not] at hp4
               first
               | (exfalso; omega)
               | skip
                 refine any_go (i := 2) (by rfl) (by decide +kernel) (by decide +kernel) noLate_nil (off_yields (yi (t := 147) rfl rfl)) ?_
                 try simp only [opv, nZ, Value.cells]
                 refine any_go (i := 3) (by rfl) (by decide +kernel) (by decide +kernel) noLate_nil (off_yields (yi (t := 147) rfl rfl)) ?_
                 try simp only [opv, nZ, Value.cells]
                 refine any_go (i := 4) (by rfl) (by decide +kernel) (by decide +kernel) noLate_nil (off_yields (yi (t := 147) rfl rfl)) ?_
                 try simp only [opv, nZ, Value.cells]
                 refine any_go (i := 5) (by rfl) (by decide +kernel) (by decide +kernel) noLate_nil (off_yields (yi (t := 147) rfl rfl)) ?_
                 try simp only [opv, nZ, Value.cells]
                 refine any_go (i := 6) (by rfl) (by decide +kernel) (by decide +kernel) noLate_nil (off_yields (yi (t := 147) rfl rfl)) ?_
                 try simp only [opv, nZ, Value.cells]
                 refine any_go (i := 7) (by rfl) (by decide +kernel) (by decide +kernel) noLate_nil (off_yields (yi (t := 147) rfl rfl)) ?_
                 try simp only [opv, nZ, Value.cells]
                 first | refine any_go (i := 8) (by rfl) (by decide +kernel) (by decide +kernel) noLate_nil (go_yields w_none (fun w hS => s_pick_t)) ?_ | refine any_go (i := 8) (by rfl) (by decide +kernel) (by decide +kernel) noLate_nil (go_yields w_none (fun w hS => s_pick_f)) ?_
                 try simp only [opv, nZ, Value.cells]
                 refine any_go (i := 9) (by rfl) (by decide +kernel) (by decide +kernel) noLate_nil (go_yields w_none (fun w hS => s_move)) ?_
                 try simp only [opv, nZ, Value.cells]
                 refine any_go (i := 10) (by rfl) (by decide +kernel) (by decide +kernel) noLate_nil (go_yields (w_on (yi (t := 155) rfl rfl)) (fun w hS => s_move)) ?_
                 try simp only [opv, nZ, Value.cells]
                 refine any_go (i := 11) (by rfl) (by decide +kernel) (by decide +kernel) noLate_nil (go_yields (w_on (yi (t := 155) rfl rfl)) (fun w hS => s_move)) ?_
                 try simp only [opv, nZ, Value.cells]
                 first | refine any_go (i := 13) (by rfl) (by decide +kernel) (by decide +kernel) noLate_nil (go_yields (w_on (yi (t := 155) rfl rfl)) (fun w hS => m_fieldAddr Try.underlying27 (hi := ti23))) ?_ | refine any_go (i := 13) (by rfl) (by decide +kernel) (by decide +kernel) noLate_nil (go_yields (w_on (yi (t := 155) rfl rfl)) (fun w hS => m_fieldAddr_rd Try.underlying27 (hi := ti23) (hS := hS))) ?_ | refine any_go (i := 13) (by rfl) (by decide +kernel) (by decide +kernel) noLate_nil (go_yields (w_on (yi (t := 155) rfl rfl)) (fun w hS => m_fieldAddr_vec Try.underlying27 (hi := ti23) (hS := hS))) ?_
                 try simp only [opv, nZ, Value.cells, Nat.zero_add, Nat.add_zero, List.getElem_toArray, List.getElem_cons_zero, List.getElem_cons_succ]
                 first | refine any_go (i := 14) (by rfl) (by decide +kernel) (by decide +kernel) noLate_nil (go_yields (w_on (yi (t := 155) rfl rfl)) (fun w hS => m_load_obj Try.underlying23 (hS := hS) (hv := by first | rfl | exact zi_get rfl (by omega) | exact ic_get (by omega) | exact il_get (by omega)))) ?_ | refine any_go (i := 14) (by rfl) (by decide +kernel) (by decide +kernel) noLate_nil (go_yields (w_on (yi (t := 155) rfl rfl)) (fun w hS => m_load_bx Try.underlying23 (hS := hS) (hv := by first | rfl | exact zi_get rfl (by omega) | exact ic_get (by omega) | exact il_get (by omega)))) ?_ | refine any_go (i := 14) (by rfl) (by decide +kernel) (by decide +kernel) noLate_nil (go_yields (w_on (yi (t := 155) rfl rfl)) (fun w hS => m_load_rd Try.underlying23 (hS := hS) (hv := by first | rfl | exact zi_get rfl (by omega) | exact ic_get (by omega) | exact il_get (by omega)))) ?_ | refine any_go (i := 14) (by rfl) (by decide +kernel) (by decide +kernel) noLate_nil (go_yields (w_on (yi (t := 155) rfl rfl)) (fun w hS => m_load_vec Try.underlying23 (hS := hS) (hv := by first | rfl | exact zi_get rfl (by omega) | exact ic_get (by omega) | exact il_get (by omega)))) ?_
                 try simp only [opv, nZ, Value.cells, List.getElem_toArray, List.getElem_cons_zero, List.getElem_cons_succ]
                 try rw [show (spotL ct it).getD 0 0 = (ct : Int) from rfl]
                 refine any_go (i := 15) (by rfl) (by decide +kernel) (by decide +kernel) noLate_nil (go_yields (w_on (yi (t := 155) rfl rfl)) (fun w hS => s_add (hc := hcw))) ?_
                 try simp only [opv, nZ, Value.cells]
                 refine any_go (i := 17) (by rfl) (by decide +kernel) (by decide +kernel) noLate_nil (go_yields (w_on (yi (t := 155) rfl rfl)) (fun w hS => s_move)) ?_
                 try simp only [opv, nZ, Value.cells]
                 refine any_step [12] (by kernel_rfl) (by decide) (fun w30 hE => ⟨fun _ => (hS.ext hE).sel (by repeat (first | exact Sel.nil | (refine Sel.cons (by repeat (first | exact Del.head | apply Del.tail)) ?_))), ?_⟩)
                 replace hS := hS.ext hE
                 intro i hi
                 simp only [List.mem_cons, List.not_mem_nil, or_false] at hi
                 subst hi
                 ·
                  refine any_op (by rfl) ?_
                  refine g_on (yi (t := 155) rfl rfl) ?_
                  refine s_call en17 ?_
                  try simp only [opv, nZ, Value.cells, List.map_toArray, List.map_cons, List.map_nil, List.append_toArray, List.cons_append, List.nil_append, Array.append_empty]
                  refine CallR.mono (c_ref10Join _ A c l (hS.hasRd (by repeat (first | exact Has.head | apply Has.tail))) hv Ax cx [(addA l 3 ct it)] (hS.vecRd (by repeat (first | exact Has.head | apply Has.tail))) hao1 (by simp; omega)) ?_
                  rintro _ w31 ⟨A4, c4, rfl, hC31⟩
                  replace hS := hS.call hC31
                  simp only [List.cons_append, List.nil_append] at hS
                  try simp only [opv, nZ, Value.cells]
                  refine x_nil ?_
                  refine any_step [16] (by kernel_rfl) (by decide) (fun w32 hE => ⟨fun _ => (hS.ext hE).sel (by repeat (first | exact Sel.nil | (refine Sel.cons (by repeat (first | exact Del.head | apply Del.tail)) ?_))), ?_⟩)
                  replace hS := hS.ext hE
                  intro i hi
                  simp only [List.mem_cons, List.not_mem_nil, or_false] at hi
                  subst hi
                  ·
                   refine any_op (by rfl) ?_
                   refine g_on (yi (t := 155) rfl rfl) ?_
                   refine s_call en21 ?_
                   try simp only [opv, nZ, Value.cells, List.map_toArray, List.map_cons, List.map_nil, List.append_toArray, List.cons_append, List.nil_append, Array.append_empty]
                   refine CallR.mono (c_tagsItems _ A4 c4 (normP (l ++ [(addA l 3 ct it)])) (hS.vecRd (by repeat (first | exact Has.head | apply Has.tail))) hj2o (by omega) c1 hc1b) ?_
                   rintro _ w33 ⟨On, ocn, rfl, hC33⟩
                   replace hS := hS.call hC33
                   simp only [List.cons_append, List.nil_append] at hS
                   rw [hio2] at hS ⊢
                   try simp only [opv, nZ, Value.cells]
                   refine x_nil ?_
                   refine any_step [18] (by kernel_rfl) (by decide) (fun w34 hE => ⟨fun _ => (hS.ext hE).sel (by repeat (first | exact Sel.nil | (refine Sel.cons (by repeat (first | exact Del.head | apply Del.tail)) ?_))), ?_⟩)
                   replace hS := hS.ext hE
                   intro i hi
                   simp only [List.mem_cons, List.not_mem_nil, or_false] at hi
                   subst hi
                   ·
                    refine any_op (by rfl) ?_
                    refine g_on (yi (t := 155) rfl rfl) ?_
                    refine s_call en22 ?_
                    try simp only [opv, nZ, Value.cells, List.map_toArray, List.map_cons, List.map_nil, List.append_toArray, List.cons_append, List.nil_append, Array.append_empty]
                    refine CallR.mono (c_ref14Names _ On ocn (itmS (normP l) c1) (hS.vecRd (by repeat (first | exact Has.head | apply Has.tail))) hi8 Oi oci (itmS (normP l) c1) (hS.vecRd (by repeat (first | exact Has.head | apply Has.tail))) hi8 (by omega)) ?_
                    rintro _ w35 ⟨rfl, hE35⟩
                    replace hS := hS.ext hE35
                    try simp only [opv, nZ, Value.cells]
                    try simp only [eq_self, decide_true, beq_self_eq_true, Bool.and_self]
                    refine x_nil ?_
                    first | refine any_go (i := 19) (by rfl) (by decide +kernel) (by decide +kernel) noLate_nil (go_yields w_none (fun w hS => s_pick_t)) ?_ | refine any_go (i := 19) (by rfl) (by decide +kernel) (by decide +kernel) noLate_nil (go_yields w_none (fun w hS => s_pick_f)) ?_
                    try simp only [opv, nZ, Value.cells]
                    refine any_go (i := 20) (by rfl) (by decide +kernel) (by decide +kernel) noLate_nil (go_yields w_none (fun w hS => s_move)) ?_
                    try simp only [opv, nZ, Value.cells]
                    apply any_go (i := 21) (by rfl) (by decide +kernel) (by decide +kernel) noLate_nil (call_yields (w_on (yi (t := 166) rfl rfl)) en9 ?H1) ?K1
                    case H1 =>
                      intro w hS
                      try simp only [opv, nZ, List.map_toArray, List.map_cons, List.map_nil, List.append_toArray, List.cons_append, List.nil_append, Array.append_empty]
                      refine CallR.mono (c_law14alive _) ?_
                      rintro _ w1 ⟨rfl, hE⟩; exact ⟨rfl, hE⟩
                    try simp only [opv, nZ, Value.cells]
                    first | refine any_go (i := 22) (by rfl) (by decide +kernel) (by decide +kernel) noLate_nil (go_yields w_none (fun w hS => s_pick_t)) ?_ | refine any_go (i := 22) (by rfl) (by decide +kernel) (by decide +kernel) noLate_nil (go_yields w_none (fun w hS => s_pick_f)) ?_
                    try simp only [opv, nZ, Value.cells]
                    refine any_go (i := 23) (by rfl) (by decide +kernel) (by decide +kernel) noLate_nil (go_yields w_none (fun w hS => s_assign)) ?_
                    try simp only [opv, nZ, Value.cells]
                    refine any_nil (by kernel_rfl) (fun w36 hE => ?_)
                    replace hS := hS.ext hE
                    refine ⟨fun _ => hS.selA, ?_⟩
                    refine mix_leaf (by simp only [clob, List.foldl, nZ]) ?_
                    try simp only [n1, n2]
                    exact ⟨by first | trivial | rfl, hS.ext_of⟩
              ·
               try simp only [n3, n4]
               try simp only [decide_eq_true_eq, decide_eq_false_iff_not, Bool.not_eq_true', Bool.not_eq_false', Int.not_lt, Int.not_le, ne_eq, Decidable.not_not] at hp4
               first
               | (exfalso; omega)
               | skip
                 have hnf : fnd (akey (addA l 3 ct it)) (normP r) = none := is_none (by simpa using hp4)
                 have hwa := win_add hv hv2 (r := 3) (by decide) hct h8 hbt hE hnf
                 refine any_go (i := 2) (by rfl) (by decide +kernel) (by decide +kernel) noLate_nil (go_yields (w_on (yi (t := 147) rfl rfl)) (fun w hS => s_move)) ?_
                 try simp only [opv, nZ, Value.cells]
                 first | refine any_go (i := 3) (by rfl) (by decide +kernel) (by decide +kernel) noLate_nil (go_yields (w_on (yi (t := 147) rfl rfl)) (fun w hS => m_fieldAddr Try.underlying27 (hi := ti23))) ?_ | refine any_go (i := 3) (by rfl) (by decide +kernel) (by decide +kernel) noLate_nil (go_yields (w_on (yi (t := 147) rfl rfl)) (fun w hS => m_fieldAddr_rd Try.underlying27 (hi := ti23) (hS := hS))) ?_ | refine any_go (i := 3) (by rfl) (by decide +kernel) (by decide +kernel) noLate_nil (go_yields (w_on (yi (t := 147) rfl rfl)) (fun w hS => m_fieldAddr_vec Try.underlying27 (hi := ti23) (hS := hS))) ?_
                 try simp only [opv, nZ, Value.cells, Nat.zero_add, Nat.add_zero, List.getElem_toArray, List.getElem_cons_zero, List.getElem_cons_succ]
                 first | refine any_go (i := 4) (by rfl) (by decide +kernel) (by decide +kernel) noLate_nil (go_yields (w_on (yi (t := 147) rfl rfl)) (fun w hS => m_load_obj Try.underlying23 (hS := hS) (hv := by first | rfl | exact zi_get rfl (by omega) | exact ic_get (by omega) | exact il_get (by omega)))) ?_ | refine any_go (i := 4) (by rfl) (by decide +kernel) (by decide +kernel) noLate_nil (go_yields (w_on (yi (t := 147) rfl rfl)) (fun w hS => m_load_bx Try.underlying23 (hS := hS) (hv := by first | rfl | exact zi_get rfl (by omega) | exact ic_get (by omega) | exact il_get (by omega)))) ?_ | refine any_go (i := 4) (by rfl) (by decide +kernel) (by decide +kernel) noLate_nil (go_yields (w_on (yi (t := 147) rfl rfl)) (fun w hS => m_load_rd Try.underlying23 (hS := hS) (hv := by first | rfl | exact zi_get rfl (by omega) | exact ic_get (by omega) | exact il_get (by omega)))) ?_ | refine any_go (i := 4) (by rfl) (by decide +kernel) (by decide +kernel) noLate_nil (go_yields (w_on (yi (t := 147) rfl rfl)) (fun w hS => m_load_vec Try.underlying23 (hS := hS) (hv := by first | rfl | exact zi_get rfl (by omega) | exact ic_get (by omega) | exact il_get (by omega)))) ?_
                 try simp only [opv, nZ, Value.cells, List.getElem_toArray, List.getElem_cons_zero, List.getElem_cons_succ]
                 try rw [show (spotL ct it).getD 0 0 = (ct : Int) from rfl]
                 first | refine any_go (i := 5) (by rfl) (by decide +kernel) (by decide +kernel) noLate_nil (go_yields (w_on (yi (t := 147) rfl rfl)) (fun w hS => m_fieldAddr Try.underlying27 (hi := ti25))) ?_ | refine any_go (i := 5) (by rfl) (by decide +kernel) (by decide +kernel) noLate_nil (go_yields (w_on (yi (t := 147) rfl rfl)) (fun w hS => m_fieldAddr_rd Try.underlying27 (hi := ti25) (hS := hS))) ?_ | refine any_go (i := 5) (by rfl) (by decide +kernel) (by decide +kernel) noLate_nil (go_yields (w_on (yi (t := 147) rfl rfl)) (fun w hS => m_fieldAddr_vec Try.underlying27 (hi := ti25) (hS := hS))) ?_
                 try simp only [opv, nZ, Value.cells, Nat.zero_add, Nat.add_zero, List.getElem_toArray, List.getElem_cons_zero, List.getElem_cons_succ]
                 first | refine any_go (i := 6) (by rfl) (by decide +kernel) (by decide +kernel) noLate_nil (go_yields (w_on (yi (t := 147) rfl rfl)) (fun w hS => m_load_row Try.underlying25 (hi := ti25) (hS := hS) (hfit := by first | omega | (rw [zi_size (by omega)]; first | rfl | decide) | (simp only [ic_size, List.length_map, List.size_toArray]; first | omega | decide) | rfl | (simp [*]; done) | (simp [*]; omega)))) ?_ | refine any_go (i := 6) (by rfl) (by decide +kernel) (by decide +kernel) noLate_nil (go_yields (w_on (yi (t := 147) rfl rfl)) (fun w hS => m_loada_obj Try.underlying25 (hi := ti25) (hS := hS) (hfit := by first | omega | (rw [zi_size (by omega)]; first | rfl | decide) | (simp only [ic_size, List.length_map, List.size_toArray]; first | omega | decide) | rfl | (simp [*]; done) | (simp [*]; omega)))) ?_ | refine any_go (i := 6) (by rfl) (by decide +kernel) (by decide +kernel) noLate_nil (go_yields (w_on (yi (t := 147) rfl rfl)) (fun w hS => m_loada_bx Try.underlying25 (hi := ti25) (hS := hS) (hfit := by first | omega | (rw [zi_size (by omega)]; first | rfl | decide) | (simp only [ic_size, List.length_map, List.size_toArray]; first | omega | decide) | rfl | (simp [*]; done) | (simp [*]; omega)))) ?_ | refine any_go (i := 6) (by rfl) (by decide +kernel) (by decide +kernel) noLate_nil (go_yields (w_on (yi (t := 147) rfl rfl)) (fun w hS => m_loada_rd Try.underlying25 (hi := ti25) (hS := hS) (hfit := by first | omega | (rw [zi_size (by omega)]; first | rfl | decide) | (simp only [ic_size, List.length_map, List.size_toArray]; first | omega | decide) | rfl | (simp [*]; done) | (simp [*]; omega)))) ?_ | refine any_go (i := 6) (by rfl) (by decide +kernel) (by decide +kernel) noLate_nil (go_yields (w_on (yi (t := 147) rfl rfl)) (fun w hS => m_loada_vec Try.underlying25 (hi := ti25) (hS := hS) (hfit := by first | omega | (rw [zi_size (by omega)]; first | rfl | decide) | (simp only [ic_size, List.length_map, List.size_toArray]; first | omega | decide) | rfl | (simp [*]; done) | (simp [*]; omega)))) ?_
                 try simp only [opv, nZ, Value.cells, List.getElem_toArray, List.getElem_cons_zero, List.getElem_cons_succ]
                 rw [spot_text h8]
                 refine any_step [7] (by kernel_rfl) (by decide) (fun w37 hE => ⟨fun _ => (hS.ext hE).sel (by repeat (first | exact Sel.nil | (refine Sel.cons (by repeat (first | exact Del.head | apply Del.tail)) ?_))), ?_⟩)
                 replace hS := hS.ext hE
                 intro i hi
                 simp only [List.mem_cons, List.not_mem_nil, or_false] at hi
                 subst hi
                 ·
                  refine any_op (by rfl) ?_
                  refine g_on (yi (t := 147) rfl rfl) ?_
                  refine s_call en18 ?_
                  try simp only [opv, nZ, Value.cells, List.map_toArray, List.map_cons, List.map_nil, List.append_toArray, List.cons_append, List.nil_append, Array.append_empty]
                  refine CallR.mono (c_tagsPresent _ A3 c3 (normP ((normP (l ++ [(addA l 3 ct it)])) ++ r)) (hS.vecRd (by repeat (first | exact Has.head | apply Has.tail))) hj3o (by omega) ct hct it h8) ?_
                  rintro _ w38 ⟨rfl, hE38⟩
                  replace hS := hS.ext hE38
                  try simp only [opv, nZ, Value.cells]
                  rw [hwa]
                  refine x_nil ?_
                  first | refine any_go (i := 8) (by rfl) (by decide +kernel) (by decide +kernel) noLate_nil (go_yields w_none (fun w hS => s_pick_t)) ?_ | refine any_go (i := 8) (by rfl) (by decide +kernel) (by decide +kernel) noLate_nil (go_yields w_none (fun w hS => s_pick_f)) ?_
                  try simp only [opv, nZ, Value.cells]
                  refine any_go (i := 9) (by rfl) (by decide +kernel) (by decide +kernel) noLate_nil (go_yields w_none (fun w hS => s_move)) ?_
                  try simp only [opv, nZ, Value.cells]
                  refine any_go (i := 10) (by rfl) (by decide +kernel) (by decide +kernel) noLate_nil (go_yields (w_on (yi (t := 155) rfl rfl)) (fun w hS => s_move)) ?_
                  try simp only [opv, nZ, Value.cells]
                  refine any_go (i := 11) (by rfl) (by decide +kernel) (by decide +kernel) noLate_nil (go_yields (w_on (yi (t := 155) rfl rfl)) (fun w hS => s_move)) ?_
                  try simp only [opv, nZ, Value.cells]
                  first | refine any_go (i := 13) (by rfl) (by decide +kernel) (by decide +kernel) noLate_nil (go_yields (w_on (yi (t := 155) rfl rfl)) (fun w hS => m_fieldAddr Try.underlying27 (hi := ti23))) ?_ | refine any_go (i := 13) (by rfl) (by decide +kernel) (by decide +kernel) noLate_nil (go_yields (w_on (yi (t := 155) rfl rfl)) (fun w hS => m_fieldAddr_rd Try.underlying27 (hi := ti23) (hS := hS))) ?_ | refine any_go (i := 13) (by rfl) (by decide +kernel) (by decide +kernel) noLate_nil (go_yields (w_on (yi (t := 155) rfl rfl)) (fun w hS => m_fieldAddr_vec Try.underlying27 (hi := ti23) (hS := hS))) ?_
                  try simp only [opv, nZ, Value.cells, Nat.zero_add, Nat.add_zero, List.getElem_toArray, List.getElem_cons_zero, List.getElem_cons_succ]
                  first | refine any_go (i := 14) (by rfl) (by decide +kernel) (by decide +kernel) noLate_nil (go_yields (w_on (yi (t := 155) rfl rfl)) (fun w hS => m_load_obj Try.underlying23 (hS := hS) (hv := by first | rfl | exact zi_get rfl (by omega) | exact ic_get (by omega) | exact il_get (by omega)))) ?_ | refine any_go (i := 14) (by rfl) (by decide +kernel) (by decide +kernel) noLate_nil (go_yields (w_on (yi (t := 155) rfl rfl)) (fun w hS => m_load_bx Try.underlying23 (hS := hS) (hv := by first | rfl | exact zi_get rfl (by omega) | exact ic_get (by omega) | exact il_get (by omega)))) ?_ | refine any_go (i := 14) (by rfl) (by decide +kernel) (by decide +kernel) noLate_nil (go_yields (w_on (yi (t := 155) rfl rfl)) (fun w hS => m_load_rd Try.underlying23 (hS := hS) (hv := by first | rfl | exact zi_get rfl (by omega) | exact ic_get (by omega) | exact il_get (by omega)))) ?_ | refine any_go (i := 14) (by rfl) (by decide +kernel) (by decide +kernel) noLate_nil (go_yields (w_on (yi (t := 155) rfl rfl)) (fun w hS => m_load_vec Try.underlying23 (hS := hS) (hv := by first | rfl | exact zi_get rfl (by omega) | exact ic_get (by omega) | exact il_get (by omega)))) ?_
                  try simp only [opv, nZ, Value.cells, List.getElem_toArray, List.getElem_cons_zero, List.getElem_cons_succ]
                  try rw [show (spotL ct it).getD 0 0 = (ct : Int) from rfl]
                  refine any_go (i := 15) (by rfl) (by decide +kernel) (by decide +kernel) noLate_nil (go_yields (w_on (yi (t := 155) rfl rfl)) (fun w hS => s_add (hc := hcw))) ?_
                  try simp only [opv, nZ, Value.cells]
                  refine any_go (i := 17) (by rfl) (by decide +kernel) (by decide +kernel) noLate_nil (go_yields (w_on (yi (t := 155) rfl rfl)) (fun w hS => s_move)) ?_
                  try simp only [opv, nZ, Value.cells]
                  refine any_step [12] (by kernel_rfl) (by decide) (fun w39 hE => ⟨fun _ => (hS.ext hE).sel (by repeat (first | exact Sel.nil | (refine Sel.cons (by repeat (first | exact Del.head | apply Del.tail)) ?_))), ?_⟩)
                  replace hS := hS.ext hE
                  intro i hi
                  simp only [List.mem_cons, List.not_mem_nil, or_false] at hi
                  subst hi
                  ·
                   refine any_op (by rfl) ?_
                   refine g_on (yi (t := 155) rfl rfl) ?_
                   refine s_call en17 ?_
                   try simp only [opv, nZ, Value.cells, List.map_toArray, List.map_cons, List.map_nil, List.append_toArray, List.cons_append, List.nil_append, Array.append_empty]
                   refine CallR.mono (c_ref10Join _ A c l (hS.hasRd (by repeat (first | exact Has.head | apply Has.tail))) hv Ax cx [(addA l 3 ct it)] (hS.vecRd (by repeat (first | exact Has.head | apply Has.tail))) hao1 (by simp; omega)) ?_
                   rintro _ w40 ⟨A4, c4, rfl, hC40⟩
                   replace hS := hS.call hC40
                   simp only [List.cons_append, List.nil_append] at hS
                   try simp only [opv, nZ, Value.cells]
                   refine x_nil ?_
                   refine any_step [16] (by kernel_rfl) (by decide) (fun w41 hE => ⟨fun _ => (hS.ext hE).sel (by repeat (first | exact Sel.nil | (refine Sel.cons (by repeat (first | exact Del.head | apply Del.tail)) ?_))), ?_⟩)
                   replace hS := hS.ext hE
                   intro i hi
                   simp only [List.mem_cons, List.not_mem_nil, or_false] at hi
                   subst hi
                   ·
                    refine any_op (by rfl) ?_
                    refine g_on (yi (t := 155) rfl rfl) ?_
                    refine s_call en21 ?_
                    try simp only [opv, nZ, Value.cells, List.map_toArray, List.map_cons, List.map_nil, List.append_toArray, List.cons_append, List.nil_append, Array.append_empty]
                    refine CallR.mono (c_tagsItems _ A4 c4 (normP (l ++ [(addA l 3 ct it)])) (hS.vecRd (by repeat (first | exact Has.head | apply Has.tail))) hj2o (by omega) c1 hc1b) ?_
                    rintro _ w42 ⟨On, ocn, rfl, hC42⟩
                    replace hS := hS.call hC42
                    simp only [List.cons_append, List.nil_append] at hS
                    rw [hio2] at hS ⊢
                    try simp only [opv, nZ, Value.cells]
                    refine x_nil ?_
                    refine any_step [18] (by kernel_rfl) (by decide) (fun w43 hE => ⟨fun _ => (hS.ext hE).sel (by repeat (first | exact Sel.nil | (refine Sel.cons (by repeat (first | exact Del.head | apply Del.tail)) ?_))), ?_⟩)
                    replace hS := hS.ext hE
                    intro i hi
                    simp only [List.mem_cons, List.not_mem_nil, or_false] at hi
                    subst hi
                    ·
                     refine any_op (by rfl) ?_
                     refine g_on (yi (t := 155) rfl rfl) ?_
                     refine s_call en22 ?_
                     try simp only [opv, nZ, Value.cells, List.map_toArray, List.map_cons, List.map_nil, List.append_toArray, List.cons_append, List.nil_append, Array.append_empty]
                     refine CallR.mono (c_ref14Names _ On ocn (itmS (normP l) c1) (hS.vecRd (by repeat (first | exact Has.head | apply Has.tail))) hi8 Oi oci (itmS (normP l) c1) (hS.vecRd (by repeat (first | exact Has.head | apply Has.tail))) hi8 (by omega)) ?_
                     rintro _ w44 ⟨rfl, hE44⟩
                     replace hS := hS.ext hE44
                     try simp only [opv, nZ, Value.cells]
                     try simp only [eq_self, decide_true, beq_self_eq_true, Bool.and_self]
                     refine x_nil ?_
                     first | refine any_go (i := 19) (by rfl) (by decide +kernel) (by decide +kernel) noLate_nil (go_yields w_none (fun w hS => s_pick_t)) ?_ | refine any_go (i := 19) (by rfl) (by decide +kernel) (by decide +kernel) noLate_nil (go_yields w_none (fun w hS => s_pick_f)) ?_
                     try simp only [opv, nZ, Value.cells]
                     refine any_go (i := 20) (by rfl) (by decide +kernel) (by decide +kernel) noLate_nil (go_yields w_none (fun w hS => s_move)) ?_
                     try simp only [opv, nZ, Value.cells]
                     apply any_go (i := 21) (by rfl) (by decide +kernel) (by decide +kernel) noLate_nil (call_yields (w_on (yi (t := 166) rfl rfl)) en9 ?H2) ?K2
                     case H2 =>
                       intro w hS
                       try simp only [opv, nZ, List.map_toArray, List.map_cons, List.map_nil, List.append_toArray, List.cons_append, List.nil_append, Array.append_empty]
                       refine CallR.mono (c_law14alive _) ?_
                       rintro _ w1 ⟨rfl, hE⟩; exact ⟨rfl, hE⟩
                     try simp only [opv, nZ, Value.cells]
                     first | refine any_go (i := 22) (by rfl) (by decide +kernel) (by decide +kernel) noLate_nil (go_yields w_none (fun w hS => s_pick_t)) ?_ | refine any_go (i := 22) (by rfl) (by decide +kernel) (by decide +kernel) noLate_nil (go_yields w_none (fun w hS => s_pick_f)) ?_
                     try simp only [opv, nZ, Value.cells]
                     refine any_go (i := 23) (by rfl) (by decide +kernel) (by decide +kernel) noLate_nil (go_yields w_none (fun w hS => s_assign)) ?_
                     try simp only [opv, nZ, Value.cells]
                     refine any_nil (by kernel_rfl) (fun w45 hE => ?_)
                     replace hS := hS.ext hE
                     refine ⟨fun _ => hS.selA, ?_⟩
                     refine mix_leaf (by simp only [clob, List.foldl, nZ]) ?_
                     try simp only [n1, n2]
                     exact ⟨by first | trivial | rfl, hS.ext_of⟩
             intro fm2 w46 hM
             obtain ⟨h6, hEE⟩ := hM
             simp only [clob, List.foldl, n3, n4, h6]
             refine hK37 _ _ ?_
             refine x_ret ?_
             refine r_tmp rfl ?_
             first | exact ⟨rfl, hEE⟩ | exact ⟨rfl, hS.ext_of⟩
end Go.Proofs.Ytffmanidnlbjjaa
set_option linter.unusedSimpArgs false
set_option linter.unusedVariables false
set_option maxHeartbeats 800000
set_option maxRecDepth 100000
namespace Go.Proofs.Ytffmanidnlbjjaa
open Go.ChangeShapes Go.WideShapes Go.ChangeAt Go.RowKit

theorem rows_aok {l : List (List Int)} (h : ∀ x ∈ l, x.length = atomKs.length ∧ ∀ i k, atomKs[i]? = some k → (Lit.int k (x.getD i 0)).wf = true) : AOks l := fun x hx => by
  obtain ⟨h1, h2⟩ := h x hx
  have W : World := { heap := #[], tape := fun _ _ => 0, drawn := 0, os := default, output := #[] }
  obtain ⟨a, e, ha⟩ := atom_open (w := W) (allOk_of h1 h2)
  rw [zi_inj h1 (by simpa using ha.len) e]; exact ha
theorem open_rows {w : World} {n : Nat} {xs : List Value} {A : Option Addr} (hr : Rd w A 21 n xs) (h : ∀ i, i < n → AllOk w (atomKs.map LK.int) ((xs.drop (i * 21)).take 21)) : ∃ l : List (List Int), l.length = n ∧ xs = arows l ∧ AOks l := by
  obtain ⟨l, hl, e, hok⟩ := rowsZ_open (w := w) (ks := atomKs) (n := n) (xs := xs) hr.1 h
  exact ⟨l, hl, e, rows_aok hok⟩
end Go.Proofs.Ytffmanidnlbjjaa
set_option linter.unusedSimpArgs false
set_option linter.unusedVariables false
set_option maxHeartbeats 800000
set_option maxRecDepth 100000
namespace Go.Proofs.Ytffmanidnlbjjaa
open Go.ChangeShapes Go.WideShapes Go.ChangeAt Go.RowKit

theorem spot_open {w : World} {cs : List Value} (h : AllOk w (spotKs.map LK.int) cs) : ∃ (c : Nat) (tx : List Int), cs = zi spotKs (spotL c tx) ∧ c < 65536 ∧ tx.length = 8 ∧ Byt tx := by
  obtain ⟨x, rfl, hl, hx⟩ := allOk_zi h
  have hl : x.length = 9 := hl
  have h0 := wf_u16 (hx 0 _ rfl)
  have hb : Byt (x.drop 1) := by
    intro y hy
    obtain ⟨j, hj, rfl⟩ := List.getElem_of_mem hy
    have hj2 : j < 8 ∧ 1 + j < x.length := by rw [List.length_drop] at hj; omega
    have hk : spotKs[1 + j]? = some .u8 := by
      have : j = 0 ∨ j = 1 ∨ j = 2 ∨ j = 3 ∨ j = 4 ∨ j = 5 ∨ j = 6 ∨ j = 7 := by omega
      rcases this with rfl | rfl | rfl | rfl | rfl | rfl | rfl | rfl <;> rfl
    have := bounds_u8 (hx (1 + j) _ hk)
    rw [List.getD_eq_getElem?_getD, List.getElem?_eq_getElem hj2.2] at this
    rw [List.getElem_drop]
    exact this
  refine ⟨(x.getD 0 0).toNat, x.drop 1, ?_, h0.2, by simp [hl], hb⟩
  match x, hl with
  | [a, b, c, d, e, f, g, i, j], _ =>
    simp only [List.getD_cons_zero, List.getD_cons_succ] at h0
    show zi spotKs [a, b, c, d, e, f, g, i, j] = zi spotKs [((a.toNat : Nat) : Int), b, c, d, e, f, g, i, j]
    rw [← h0.1]
end Go.Proofs.Ytffmanidnlbjjaa
namespace Go.Proofs.Ytffmanidnlbjjaa
open Go.ChangeShapes Go.WideShapes Go.ChangeAt Go.RowKit
theorem own0 : ownKnob Try.prog.godebug = none := by kernel_rfl
theorem laidOut0 : laidOutB Try.prog = true := by kernel_rfl
theorem fl5 : Flat Try.prog 5 [LK.int .u8] := flat_int Try.underlying5
theorem fl23 : Flat Try.prog 23 [LK.int .u16] := flat_int Try.underlying23
theorem fl25 : Flat Try.prog 25 (List.replicate 8 [LK.int .u8]).flatten := flat_arr Try.underlying25 fl5 rfl (by kernel_rfl) (by kernel_rfl)
theorem fl29 : Flat Try.prog 29 [LK.int .u32] := flat_int Try.underlying29
theorem fl43 : Flat Try.prog 43 ([LK.int .u8] ++ ([LK.int .u16] ++ ((List.replicate 8 [LK.int .u8]).flatten ++ ([LK.int .u8] ++ ([LK.int .u32] ++ ([])))))) := flat_struct Try.underlying43 (.cons rfl fl5 rfl (by kernel_rfl) (.cons rfl fl23 rfl (by kernel_rfl) (.cons rfl fl25 rfl (by kernel_rfl) (.cons rfl fl5 rfl (by kernel_rfl) (.cons rfl fl29 rfl (by kernel_rfl) (.nil)))))) (by kernel_rfl)
theorem fl48 : Flat Try.prog 48 [LK.int .u64] := flat_int Try.underlying48
theorem fl50 : Flat Try.prog 50 ([LK.int .u64] ++ ((List.replicate 8 [LK.int .u8]).flatten ++ ([]))) := flat_struct Try.underlying50 (.cons rfl fl48 rfl (by kernel_rfl) (.cons rfl fl25 rfl (by kernel_rfl) (.nil))) (by kernel_rfl)
theorem fl54 : Flat Try.prog 54 (([LK.int .u8] ++ ([LK.int .u16] ++ ((List.replicate 8 [LK.int .u8]).flatten ++ ([LK.int .u8] ++ ([LK.int .u32] ++ ([])))))) ++ (([LK.int .u64] ++ ((List.replicate 8 [LK.int .u8]).flatten ++ ([]))) ++ ([]))) := flat_struct Try.underlying54 (.cons rfl fl43 rfl (by kernel_rfl) (.cons rfl fl50 rfl (by kernel_rfl) (.nil))) (by kernel_rfl)
theorem fl27 : Flat Try.prog 27 ([LK.int .u16] ++ ((List.replicate 8 [LK.int .u8]).flatten ++ ([]))) := flat_struct Try.underlying27 (.cons rfl fl23 rfl (by kernel_rfl) (.cons rfl fl25 rfl (by kernel_rfl) (.nil))) (by kernel_rfl)
end Go.Proofs.Ytffmanidnlbjjaa
namespace Go.Proofs.Ytffmanidnlbjjaa
theorem ws_cons {c : Char} (h : c ≠ Char.ofNat 32) (x : List Char) : wordsSigns (c :: x) = (match wordsSigns x with | w :: ws => (c :: w) :: ws | [] => [[c]]) := by
  conv => lhs; unfold wordsSigns
  split
  · simp_all
  · next h1 => exact absurd (by simpa using (List.cons.inj h1).1) h
  · next h1 => obtain ⟨rfl, rfl⟩ := List.cons.inj h1; rfl
theorem ws_app (b : List Char) : ∀ (a : List Char), (∀ c ∈ a, c ≠ Char.ofNat 32) → wordsSigns (a ++ Char.ofNat 32 :: b) = a :: wordsSigns b
  | [], _ => rfl
  | c :: r, h => by
    rw [List.cons_append, ws_cons (h c (by simp)), ws_app b r (fun x hx => h x (by simp [hx]))]
/-- the head's words: harness, a sum, cut -/
theorem head_words {P : Program} {s b : List Char} (he : P.initOrder = String.ofList ("harness".toList ++ Char.ofNat 32 :: (s ++ Char.ofNat 32 :: ("cut".toList ++ Char.ofNat 32 :: b)))) (hs : isSumSigns s = true) (hb : ∀ c ∈ s, c ≠ Char.ofNat 32) :
    ∃ R, behindMainWord (wordsSigns P.initOrder.toList) = "cut".toList :: R := by
  refine ⟨wordsSigns b, ?_⟩
  rw [he, String.toList_ofList, ws_app _ _ (by decide), ws_app _ _ hb, ws_app _ _ (by decide)]
  simp only [behindMainWord, hs, beq_self_eq_true, Bool.true_or, Bool.and_self, if_true]
theorem e_gc : ("cut".toList == "gc".toList) = false := by decide
theorem e_spec : ("cut".toList == "spec".toList) = false := by decide
theorem e_car : ("cut".toList == "carried".toList) = false := by decide
theorem e_sl (R : List (List Char)) : stripLifts liftWords ("cut".toList :: R) = ([], "cut".toList :: R) := by
  have h : ∀ (l : List String), (∀ o ∈ l, ("cut".toList == o.toList) = false) → stripLifts l ("cut".toList :: R) = ([], "cut".toList :: R) := by
    intro l
    induction l with
    | nil => intro _; rfl
    | cons o os ih => intro hl; rw [stripLifts, hl o (by simp)]; simp only [Bool.false_eq_true, if_false]; exact ih fun x hx => hl x (by simp [hx])
  exact h liftWords (by decide)
section
variable {P : Program} (h : ∃ R, behindMainWord (wordsSigns P.initOrder.toList) = "cut".toList :: R)
include h
theorem make_of : P.make = some .cut := by
  obtain ⟨R, h⟩ := h
  unfold Program.make
  rw [h]
  simp only [e_gc, e_spec, beq_self_eq_true, Bool.or_self, Bool.true_or, Bool.false_eq_true, if_false, if_true]
theorem lifts_of : P.liftsFinal = false := by
  obtain ⟨R, h⟩ := h
  unfold Program.liftsFinal Program.headLifts
  rw [h, e_sl]
  show (_ || _) = false
  rfl
theorem enter_of (hl : P.laysLater = false) (hr : P.bearsReflect = false) (hd : P.doorFits [] = true) : P.mayEnter = true := by
  obtain ⟨R, h⟩ := h
  unfold Program.mayEnter
  rw [h]
  dsimp only
  rw [e_sl, hl, hr]
  simp only [hd, e_gc, e_spec, e_car, beq_self_eq_true, Bool.or_self, Bool.false_and, Bool.not_false, Bool.or_true, Bool.and_true, List.head?_cons, List.contains_nil]
end
theorem closed_of {P : Program} {f : FuncId} {fn : Func} {s : ChangeSpec} {c : OpenClaim} (hm : P.make = some .cut) (hl : P.liftsFinal = false) (he : P.mayEnter = true) (h2 : laidOutB P = true) (h3 : mapsRowed P = true) (hst : (P.stops == []) = true) (hk : (P.stopKnobs == []) = true)
    (hp : P.plainKeys = c.plainKeys) (hh : P.stopsHeard = true) (i1 : P.inPlace f = c.inPlace) (i2 : P.unfollowed f = c.unfollowed) (i3 : P.recurses f = c.recurses) (i4 : P.varsNamed f = c.named)
    (rest : (c.wf (OpenSpec.ofChange s) && fn.params.all (P.readableRec ·) && namedTie P c.named s.vars && (c.stops == []) && (c.knobs == []) &&
      (c.maps == (fn.params.toList ++ s.plain.varTypes P).any (P.mapsRec ·)) && (c.ifaces == (fn.params.toList ++ s.plain.varTypes P).any (P.ifacesRec ·)) && (c.mapsOut == P.mapsAmong fn.resultTypes.toList) &&
      (c.loops == (fn.params.toList ++ s.plain.varTypes P).any (P.loopsFrom ·)) && (c.wideKeys == (fn.params.toList ++ s.plain.varTypes P ++ fn.resultTypes.toList).any (P.wideKeysFrom ·)) &&
      s.vars.all (P.varReadable ·) && fn.resultTypes.all (fun t => P.readableRec t && decide (t < P.types.size)) && (c.ifacesOut == fn.resultTypes.toList.any (P.ifacesRec ·)) && (c.loopsOut == fn.resultTypes.toList.any (P.loopsFrom ·)) && c.shortTexts.isNone && (c.lifted == false) && (some Make.cut == some c.make) &&
      (c.kinds == (if c.domain.isEmpty then [] else fn.params.toList.map fun t => match P.underlying t with | some (.int k) => some k | _ => none)) && (c.pinned == c.pinnedBy) &&
      (c.veiled == (fn.params.toList ++ s.plain.varTypes P ++ fn.resultTypes.toList).any (P.veiledRec ·)) && c.veiledFits P fn.params.toList (fn.params.toList ++ s.plain.varTypes P ++ fn.resultTypes.toList)) = true) : joinedFacts P f fn s c = true := by
  simp only [Bool.and_eq_true] at rest
  unfold joinedFacts
  rw [hm, hl, he, h2, h3, hst, hk, hp, hh, i1, i2, i3, i4]
  simp only [beq_self_eq_true, Bool.and_eq_true, Bool.and_true]
  have hkd := rest.1.1.1.2
  simp only [rest, and_self]
  exact ⟨⟨⟨⟨trivial, hkd⟩, trivial⟩, trivial⟩, trivial⟩
end Go.Proofs.Ytffmanidnlbjjaa
namespace Go.Proofs.Ytffmanidnlbjjaa
def ioS : List Nat := [55, 54, 99, 48, 99, 99, 57, 102, 100, 49, 97, 101, 97, 50, 102, 51, 48, 57, 100, 51, 52, 54, 49, 98, 100, 54, 53, 102, 53, 50, 100, 102, 100, 100, 102, 97, 52, 53, 48, 97, 50, 97, 99, 48, 98, 101, 98, 53, 51, 53, 49, 102, 53, 48, 57, 99, 101, 49, 57, 56, 57, 50, 48, 49]
def ioB : List Nat := [97, 116, 32, 104, 97, 110, 100, 99, 97, 114, 116, 47, 104, 97, 110, 100, 99, 97, 114, 116, 108, 97, 119, 49, 52, 46, 84, 97, 103, 115, 65, 100, 100, 115, 32, 104, 97, 110, 100, 99, 97, 114, 116, 47, 104, 97, 110, 100, 99, 97, 114, 116, 108, 97, 119, 49, 52, 46, 84, 97, 103, 115, 87, 105, 110, 32, 104, 97, 110, 100, 99, 97, 114, 116, 47, 104, 97, 110, 100, 99, 97, 114, 116, 108, 97, 119, 50, 49, 46, 67, 104, 117, 110, 107, 70, 101, 119, 101, 115, 116, 32, 104, 97, 110, 100, 99, 97, 114, 116, 47, 104, 97, 110, 100, 99, 97, 114, 116, 108, 97, 119, 49, 51, 46, 68, 111, 116, 115, 65, 100, 100, 115, 32, 104, 97, 110, 100, 99, 97, 114, 116, 47, 104, 97, 110, 100, 99, 97, 114, 116, 108, 97, 119, 49, 51, 46, 68, 111, 116, 115, 65, 108, 111, 110, 101, 32, 104, 97, 110, 100, 99, 97, 114, 116, 47, 104, 97, 110, 100, 99, 97, 114, 116, 108, 97, 119, 49, 51, 46, 68, 111, 116, 115, 74, 111, 105, 110, 115]
theorem io_eq : Try.prog.initOrder = String.ofList ("harness".toList ++ Char.ofNat 32 :: (ioS.map Char.ofNat ++ Char.ofNat 32 :: ("cut".toList ++ Char.ofNat 32 :: ioB.map Char.ofNat))) := by kernel_rfl
theorem io_sum : isSumSigns (ioS.map Char.ofNat) = true := by kernel_rfl
theorem io_hd : ∃ R, behindMainWord (wordsSigns Try.prog.initOrder.toList) = "cut".toList :: R := head_words io_eq io_sum (by decide)
theorem p_make : Try.prog.make = some .cut := make_of io_hd
theorem p_lifts : Try.prog.liftsFinal = false := lifts_of io_hd
theorem p_ll : Try.prog.laysLater = false := by kernel_rfl
theorem p_br : Try.prog.bearsReflect = false := by kernel_rfl
theorem p_df : Try.prog.doorFits [] = true := by kernel_rfl
theorem p_enter : Try.prog.mayEnter = true := enter_of io_hd p_ll p_br p_df
theorem p_rowed : mapsRowed Try.prog = true := by kernel_rfl
theorem p_stops : (Try.prog.stops == []) = true := by kernel_rfl
theorem p_knobs : (Try.prog.stopKnobs == []) = true := by kernel_rfl
theorem p_keys : Try.prog.plainKeys = false := by kernel_rfl
theorem p_heard : Try.prog.stopsHeard = true := by kernel_rfl
end Go.Proofs.Ytffmanidnlbjjaa
