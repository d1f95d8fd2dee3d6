/- Rules, plain words and walks that the claim leans on: Pb, Pc, Pu, Pw, Pd, Pe, Gm, Lzopen, Lzopen2, Tb, Vj, Tc. -/
import Derived.Test.YtmgacmkikefpjaaZDeltaStands4
set_option linter.unusedSimpArgs false
set_option linter.unusedVariables false
set_option linter.unusedSimpArgs false
set_option linter.unusedVariables false
set_option maxHeartbeats 2000000
set_option maxRecDepth 100000
namespace Go.Proofs.Ytmgacmkikefpjaa
open Go.RowKit
theorem c_deltaPartsN (w0 : World) (A : Option Addr) (c : Nat) (l : List (List Int)) (hr : Rd w0 A 21 l.length (arows l)) (hv : AOks l) (hn : l.length ≤ 1000000000)  :
    CallR Try.prog 55 #[.slice A l.length c] w0 fun v w' => ∃ B d, v = .slice B (normP l).length d ∧ Ext w0 w' := by
 have hS := St.rd1 (S := NoB) hr
 have hno := (norm_sta hv).ok
 have hkn := (norm_sta hv).knd
 have hnl := arows_len (normP l)
 have hnb := norm_len l
 refine y_enter (l := [.slice A l.length c, undef, undef, undef, undef, undef, undef, undef, undef, undef, undef, undef, undef, undef, undef, undef, undef]) Try.func55 rfl (by simp only [Try.ntmps55, List.size_toArray, List.length_cons, List.length_nil, Nat.reduceAdd, Nat.reduceSub, Array.replicate_succ, Array.replicate_zero, List.push_toArray, List.append_toArray, List.nil_append, List.cons_append]) ?_
 refine y_seq fun K1 hK1 => ?_
 refine y_region (by kernel_rfl) ?_
 refine m_alloc ti22 hS (fun w1 g1 hS => ?_)
 try simp only [opv, n1, n2, n3, n4, Value.cells, Array.toArray_toList] at hS ⊢
 obtain ⟨gp, hgp⟩ : ∃ z, z = g1 := ⟨_, rfl⟩
 rw [← hgp] at hS ⊢
 replace hS := hS.nil_vec 24 1
 refine y_nilf ?_
 refine hK1 _ _ ?_
 refine y_seq fun K2 hK2 => ?_
 refine y_seq fun K3 hK3 => ?_
 refine y_region (by kernel_rfl) ?_
 refine s_go (s_move) ?_
 try simp only [opv, n1, n2, n3, n4, Value.cells]
 refine s_call en23 ?_
 try simp only [opv, n1, n2, n3, n4, Value.cells, List.map_toArray, List.map_cons, List.map_nil, List.append_toArray, List.cons_append, List.nil_append, Array.append_empty]
 refine CallR.mono (c_latEach A c l _) ?_
 rintro _ w2 ⟨b, rfl, hC2⟩
 replace hS := hS.call hC2
 simp only [List.cons_append, List.nil_append] at hS
 try simp only [opv, n1, n2, n3, n4, Value.cells]
 refine y_nilf ?_
 refine hK3 _ _ ?_
 refine y_block ?_
 refine y_range rfl en108 (i_latEach b A c l hv hn) (fun _ => rfl) hS (by repeat (first | exact Spl.nil | (apply Spl.cons (by repeat (first | exact Del.head | apply Del.tail))))) (fun k L => k ≤ (normP l).length ∧ ∃ (Bp : Option Addr) (dp : Nat) (xs : List Value), xs.length = k ∧ L = [.vec Bp dp 24 1 k xs, .obj gp (.cells #[.slice Bp (k : Nat) dp] 22 (0, 0))]) (fun L => False) [] ?rfh1 ?rfr1 (fun D1 T1 w3 R1 hC hS => ?rfd1) (fun D1 T1 w4 R1 hX hS => ?rft1) ?rfe1
 case rfh1 =>
  exact ⟨Nat.zero_le _, none, 0, [], rfl, rfl⟩
 case rfr1 =>
  intro k1 w5 R1 T1 lr1 hk1 hC hS
  obtain ⟨hk0, Bp, dp, xs, hxs, rfl⟩ := hC
  simp only [List.cons_append, List.nil_append] at hS
  simp only [List.toList_toArray, entL, List.zip_cons_cons, List.zip_nil_left, List.foldl_cons, List.foldl_nil, n3, n4]
  obtain ⟨x, hx⟩ : ∃ x, (normP l).getD k1 [] = x := ⟨_, rfl⟩
  have ha : AtomOk x := by rw [← hx]; exact hno.get (by omega)
  have hal := ha.len
  have hk12 := ha.key.len
  have hvx := ha.val
  have hx9 := hvx.len
  simp only [hx]
  refine y_seq fun K4 hK4 => ?_
  refine y_region (by kernel_rfl) ?_
  refine m_alloc ti34 hS (fun w6 g6 hS => ?_)
  try simp only [opv, n1, n2, n3, n4, Value.cells, Array.toArray_toList] at hS ⊢
  have h0l : key0.length = 12 := rfl
  replace hS : St _ _ w6 (.obj g6 (.cells (KA key0) 34 (0, 0)) :: _) := hS
  first | refine m_store_obj ti34 (hS := hS) (hc := by first | exact zi_set rfl (by omega) | exact zi_whole (by omega) (by omega) | (first | exact splice_ic (by first | omega | (simp [*]; done) | (simp [*]; omega)) | exact splice_il (by first | omega | (simp [*]; done) | (simp [*]; omega)) | exact splice_whole (by first | (simp [opv, Value.cells, *]; done) | rfl) | (simp only [opv, n1, n2, Value.cells, splice, List.take_succ_cons, List.take_zero, List.drop_succ_cons, List.drop_zero, List.length_cons, List.length_nil, Nat.zero_add, Nat.reduceAdd, List.append_assoc, List.cons_append, List.nil_append]; rfl))) (hv := by first | rfl | (show (zi _ _).toArray.size = _; rw [zi_size (by omega)]; rfl) | (simp [opv, Value.cells, *]; done)) (hfit := by first | omega | (rw [zi_size (by omega)]; first | rfl | decide) | (simp only [ic_size, List.length_map, List.size_toArray]; first | omega | decide) | rfl | (simp [*]; done) | (simp [*]; omega)) (h1 := by first | exact zi_one _ _ | exact ic_one _ _ | simp [opv, Value.cells, Value.oneCell']) (h := fun w7 hS => ?_) | refine m_store_vec ti34 (hS := hS) (hc := by first | exact zi_set rfl (by omega) | exact zi_whole (by omega) (by omega) | (first | exact splice_ic (by first | omega | (simp [*]; done) | (simp [*]; omega)) | exact splice_il (by first | omega | (simp [*]; done) | (simp [*]; omega)) | exact splice_whole (by first | (simp [opv, Value.cells, *]; done) | rfl) | (simp only [opv, n1, n2, Value.cells, splice, List.take_succ_cons, List.take_zero, List.drop_succ_cons, List.drop_zero, List.length_cons, List.length_nil, Nat.zero_add, Nat.reduceAdd, List.append_assoc, List.cons_append, List.nil_append]; rfl))) (hv := by first | rfl | (show (zi _ _).toArray.size = _; rw [zi_size (by omega)]; rfl) | (simp [opv, Value.cells, *]; done)) (hfit := by first | omega | (rw [zi_size (by omega)]; first | rfl | decide) | (simp only [ic_size, List.length_map, List.size_toArray]; first | omega | decide) | rfl | (simp [*]; done) | (simp [*]; omega)) (h1 := by first | exact zi_one _ _ | exact ic_one _ _ | simp [opv, Value.cells, Value.oneCell']) (h := fun w7 hS => ?_)
  try simp only [opv, n1, n2, n3, n4, Value.cells, Array.toArray_toList] at hS ⊢
  refine y_nilf ?_
  refine hK4 _ _ ?_
  refine y_region (by kernel_rfl) ?_
  refine m_alloc ti37 hS (fun w8 g8 hS => ?_)
  try simp only [opv, n1, n2, n3, n4, Value.cells, Array.toArray_toList] at hS ⊢
  have h9l : v9.length = 9 := rfl
  replace hS : St _ _ w8 (.obj g8 (.cells (VA v9) 37 (0, 0)) :: _) := hS
  first | refine m_store_obj ti37 (hS := hS) (hc := by first | exact zi_set rfl (by omega) | exact zi_whole (by omega) (by omega) | (first | exact splice_ic (by first | omega | (simp [*]; done) | (simp [*]; omega)) | exact splice_il (by first | omega | (simp [*]; done) | (simp [*]; omega)) | exact splice_whole (by first | (simp [opv, Value.cells, *]; done) | rfl) | (simp only [opv, n1, n2, Value.cells, splice, List.take_succ_cons, List.take_zero, List.drop_succ_cons, List.drop_zero, List.length_cons, List.length_nil, Nat.zero_add, Nat.reduceAdd, List.append_assoc, List.cons_append, List.nil_append]; rfl))) (hv := by first | rfl | (show (zi _ _).toArray.size = _; rw [zi_size (by omega)]; rfl) | (simp [opv, Value.cells, *]; done)) (hfit := by first | omega | (rw [zi_size (by omega)]; first | rfl | decide) | (simp only [ic_size, List.length_map, List.size_toArray]; first | omega | decide) | rfl | (simp [*]; done) | (simp [*]; omega)) (h1 := by first | exact zi_one _ _ | exact ic_one _ _ | simp [opv, Value.cells, Value.oneCell']) (h := fun w9 hS => ?_) | refine m_store_vec ti37 (hS := hS) (hc := by first | exact zi_set rfl (by omega) | exact zi_whole (by omega) (by omega) | (first | exact splice_ic (by first | omega | (simp [*]; done) | (simp [*]; omega)) | exact splice_il (by first | omega | (simp [*]; done) | (simp [*]; omega)) | exact splice_whole (by first | (simp [opv, Value.cells, *]; done) | rfl) | (simp only [opv, n1, n2, Value.cells, splice, List.take_succ_cons, List.take_zero, List.drop_succ_cons, List.drop_zero, List.length_cons, List.length_nil, Nat.zero_add, Nat.reduceAdd, List.append_assoc, List.cons_append, List.nil_append]; rfl))) (hv := by first | rfl | (show (zi _ _).toArray.size = _; rw [zi_size (by omega)]; rfl) | (simp [opv, Value.cells, *]; done)) (hfit := by first | omega | (rw [zi_size (by omega)]; first | rfl | decide) | (simp only [ic_size, List.length_map, List.size_toArray]; first | omega | decide) | rfl | (simp [*]; done) | (simp [*]; omega)) (h1 := by first | exact zi_one _ _ | exact ic_one _ _ | simp [opv, Value.cells, Value.oneCell']) (h := fun w9 hS => ?_)
  try simp only [opv, n1, n2, n3, n4, Value.cells, Array.toArray_toList] at hS ⊢
  refine y_nilf ?_
  refine round_open hS (by repeat (first | exact App.nil | apply App.cons)) (fun w10 T2 hS => ?_)
  simp only [List.cons_append, List.nil_append] at hS
  refine y_block ?_
  refine y_region (by kernel_rfl) ?_
  first | refine s_go (m_load_obj Try.underlying22 (hS := hS) (hv := by first | rfl | exact zi_get rfl (by omega) | exact ic_get (by omega) | exact il_get (by omega))) ?_ | refine s_go (m_load_bx Try.underlying22 (hS := hS) (hv := by first | rfl | exact zi_get rfl (by omega) | exact ic_get (by omega) | exact il_get (by omega))) ?_ | refine s_go (m_load_rd Try.underlying22 (hS := hS) (hv := by first | rfl | exact zi_get rfl (by omega) | exact ic_get (by omega) | exact il_get (by omega))) ?_ | refine s_go (m_load_vec Try.underlying22 (hS := hS) (hv := by first | rfl | exact zi_get rfl (by omega) | exact ic_get (by omega) | exact il_get (by omega))) ?_
  try simp only [opv, n1, n2, n3, n4, Value.cells, List.getElem_toArray, List.getElem_cons_zero, List.getElem_cons_succ]
  first | refine s_go (m_load_row Try.underlying34 (hi := ti34) (hS := hS) (hfit := by first | omega | (rw [zi_size (by omega)]; first | rfl | decide) | (simp only [ic_size, List.length_map, List.size_toArray]; first | omega | decide) | rfl | (simp [*]; done) | (simp [*]; omega))) ?_ | refine s_go (m_loada_obj Try.underlying34 (hi := ti34) (hS := hS) (hfit := by first | omega | (rw [zi_size (by omega)]; first | rfl | decide) | (simp only [ic_size, List.length_map, List.size_toArray]; first | omega | decide) | rfl | (simp [*]; done) | (simp [*]; omega))) ?_ | refine s_go (m_loada_bx Try.underlying34 (hi := ti34) (hS := hS) (hfit := by first | omega | (rw [zi_size (by omega)]; first | rfl | decide) | (simp only [ic_size, List.length_map, List.size_toArray]; first | omega | decide) | rfl | (simp [*]; done) | (simp [*]; omega))) ?_ | refine s_go (m_loada_rd Try.underlying34 (hi := ti34) (hS := hS) (hfit := by first | omega | (rw [zi_size (by omega)]; first | rfl | decide) | (simp only [ic_size, List.length_map, List.size_toArray]; first | omega | decide) | rfl | (simp [*]; done) | (simp [*]; omega))) ?_ | refine s_go (m_loada_vec Try.underlying34 (hi := ti34) (hS := hS) (hfit := by first | omega | (rw [zi_size (by omega)]; first | rfl | decide) | (simp only [ic_size, List.length_map, List.size_toArray]; first | omega | decide) | rfl | (simp [*]; done) | (simp [*]; omega))) ?_
  try simp only [opv, n1, n2, n3, n4, Value.cells, List.getElem_toArray, List.getElem_cons_zero, List.getElem_cons_succ]
  first | refine s_go (m_load_row Try.underlying37 (hi := ti37) (hS := hS) (hfit := by first | omega | (rw [zi_size (by omega)]; first | rfl | decide) | (simp only [ic_size, List.length_map, List.size_toArray]; first | omega | decide) | rfl | (simp [*]; done) | (simp [*]; omega))) ?_ | refine s_go (m_loada_obj Try.underlying37 (hi := ti37) (hS := hS) (hfit := by first | omega | (rw [zi_size (by omega)]; first | rfl | decide) | (simp only [ic_size, List.length_map, List.size_toArray]; first | omega | decide) | rfl | (simp [*]; done) | (simp [*]; omega))) ?_ | refine s_go (m_loada_bx Try.underlying37 (hi := ti37) (hS := hS) (hfit := by first | omega | (rw [zi_size (by omega)]; first | rfl | decide) | (simp only [ic_size, List.length_map, List.size_toArray]; first | omega | decide) | rfl | (simp [*]; done) | (simp [*]; omega))) ?_ | refine s_go (m_loada_rd Try.underlying37 (hi := ti37) (hS := hS) (hfit := by first | omega | (rw [zi_size (by omega)]; first | rfl | decide) | (simp only [ic_size, List.length_map, List.size_toArray]; first | omega | decide) | rfl | (simp [*]; done) | (simp [*]; omega))) ?_ | refine s_go (m_loada_vec Try.underlying37 (hi := ti37) (hS := hS) (hfit := by first | omega | (rw [zi_size (by omega)]; first | rfl | decide) | (simp only [ic_size, List.length_map, List.size_toArray]; first | omega | decide) | rfl | (simp [*]; done) | (simp [*]; omega))) ?_
  try simp only [opv, n1, n2, n3, n4, Value.cells, List.getElem_toArray, List.getElem_cons_zero, List.getElem_cons_succ]
  refine s_go (s_build_struct (cells := (AA x)) Try.underlying39 ti39 bp39 (hc := by simp only [List.map_toArray, List.map_cons, List.map_nil, opv, n1, n2, n3, n4, Value.cells, List.toList_toArray]; rw [show AA x = AA (akey x ++ aval x) by rw [kv_atom]]; exact fill_atom (by rfl) (by rfl) (by rfl) hk12 hx9)) ?_
  try simp only [opv, n1, n2, n3, n4, Value.cells]
  refine m_buildRow (cells := (AA x)) Try.underlying24 ti39 (hc := by simp only [List.map_toArray, List.map_cons, List.map_nil, opv, n1, n2, n3, n4, Value.cells, List.toList_toArray]; exact fill_one (by rfl) (zi_size21 hal) (by rfl)) (hS := hS) (h := fun w11 g11 hS => ?_)
  try simp only [opv, n1, n2, n3, n4, Value.cells, Array.toArray_toList] at hS ⊢
  replace hS := hS.obj_rd (sz := 21) (n := 1) (by exact zi_size21 hal) .head
  rw [arow_one hal] at hS
  obtain ⟨gq, hgq⟩ : ∃ z, z = g11 := ⟨_, rfl⟩
  rw [← hgq] at hS ⊢
  refine m_buildRow (cells := #[_]) Try.underlying22 ti24 (hc := by simp only [List.map_toArray, List.map_cons, List.map_nil, opv, n1, n2, n3, n4, Value.cells, List.toList_toArray]; (repeat (refine fill_cons rfl rfl (Nat.le_of_ble_eq_true rfl) ?_)); rfl) (hS := hS) (h := fun w12 g12 hS => ?_)
  try simp only [opv, n1, n2, n3, n4, Value.cells, Array.toArray_toList] at hS ⊢
  replace hS := hS.obj_vec (sz := 1) (n := 1) rfl (by decide) .head
  refine m_append_vec Try.underlying22 ti24 (hS := hS) (h := fun w13 A13 C13 hS => ?_)
  try simp only [← List.map_append, ← List.map_drop, ← List.map_take, Nat.mul_one, Nat.zero_mul, Nat.sub_zero, List.drop_zero, List.nil_append, Nat.zero_add] at hS ⊢
  try simp only [opv, n1, n2, n3, n4, Value.cells, Array.toArray_toList] at hS ⊢
  first | refine m_store_obj ti22 (hS := hS) (hc := by first | exact zi_set rfl (by omega) | exact zi_whole (by omega) (by omega) | (first | exact splice_ic (by first | omega | (simp [*]; done) | (simp [*]; omega)) | exact splice_il (by first | omega | (simp [*]; done) | (simp [*]; omega)) | exact splice_whole (by first | (simp [opv, Value.cells, *]; done) | rfl) | (simp only [opv, n1, n2, Value.cells, splice, List.take_succ_cons, List.take_zero, List.drop_succ_cons, List.drop_zero, List.length_cons, List.length_nil, Nat.zero_add, Nat.reduceAdd, List.append_assoc, List.cons_append, List.nil_append]; rfl))) (hv := by first | rfl | (show (zi _ _).toArray.size = _; rw [zi_size (by omega)]; rfl) | (simp [opv, Value.cells, *]; done)) (hfit := by first | omega | (rw [zi_size (by omega)]; first | rfl | decide) | (simp only [ic_size, List.length_map, List.size_toArray]; first | omega | decide) | rfl | (simp [*]; done) | (simp [*]; omega)) (h1 := by first | exact zi_one _ _ | exact ic_one _ _ | simp [opv, Value.cells, Value.oneCell']) (h := fun w14 hS => ?_) | refine m_store_vec ti22 (hS := hS) (hc := by first | exact zi_set rfl (by omega) | exact zi_whole (by omega) (by omega) | (first | exact splice_ic (by first | omega | (simp [*]; done) | (simp [*]; omega)) | exact splice_il (by first | omega | (simp [*]; done) | (simp [*]; omega)) | exact splice_whole (by first | (simp [opv, Value.cells, *]; done) | rfl) | (simp only [opv, n1, n2, Value.cells, splice, List.take_succ_cons, List.take_zero, List.drop_succ_cons, List.drop_zero, List.length_cons, List.length_nil, Nat.zero_add, Nat.reduceAdd, List.append_assoc, List.cons_append, List.nil_append]; rfl))) (hv := by first | rfl | (show (zi _ _).toArray.size = _; rw [zi_size (by omega)]; rfl) | (simp [opv, Value.cells, *]; done)) (hfit := by first | omega | (rw [zi_size (by omega)]; first | rfl | decide) | (simp only [ic_size, List.length_map, List.size_toArray]; first | omega | decide) | rfl | (simp [*]; done) | (simp [*]; omega)) (h1 := by first | exact zi_one _ _ | exact ic_one _ _ | simp [opv, Value.cells, Value.oneCell']) (h := fun w14 hS => ?_)
  try simp only [opv, n1, n2, n3, n4, Value.cells, Array.toArray_toList] at hS ⊢
  refine y_nilf ?_
  exact ⟨_, ⟨by omega, _, _, xs ++ [Value.slice (some ⟨gq, 0, none⟩) 1 1], by rw [List.length_append, hxs]; rfl, rfl⟩, hS.sel (by repeat (first | exact Sel.self | (refine Sel.cons (by repeat (first | exact Del.head | apply Del.tail)) ?_) | apply Sel.skip))⟩
 case rfd1 =>
  obtain ⟨hk0, Bp, dp, xs, hxs, rfl⟩ := hC
  simp only [List.cons_append, List.nil_append] at hS
  refine hK2 _ _ ?_
  refine y_seq fun K5 hK5 => ?_
  refine y_region (by kernel_rfl) ?_
  first | refine s_go (m_load_obj Try.underlying22 (hS := hS) (hv := by first | rfl | exact zi_get rfl (by omega) | exact ic_get (by omega) | exact il_get (by omega))) ?_ | refine s_go (m_load_bx Try.underlying22 (hS := hS) (hv := by first | rfl | exact zi_get rfl (by omega) | exact ic_get (by omega) | exact il_get (by omega))) ?_ | refine s_go (m_load_rd Try.underlying22 (hS := hS) (hv := by first | rfl | exact zi_get rfl (by omega) | exact ic_get (by omega) | exact il_get (by omega))) ?_ | refine s_go (m_load_vec Try.underlying22 (hS := hS) (hv := by first | rfl | exact zi_get rfl (by omega) | exact ic_get (by omega) | exact il_get (by omega))) ?_
  try simp only [opv, n1, n2, n3, n4, Value.cells, List.getElem_toArray, List.getElem_cons_zero, List.getElem_cons_succ]
  first | refine m_store_obj ti22 (hS := hS) (hc := by first | exact zi_set rfl (by omega) | exact zi_whole (by omega) (by omega) | (first | exact splice_ic (by first | omega | (simp [*]; done) | (simp [*]; omega)) | exact splice_il (by first | omega | (simp [*]; done) | (simp [*]; omega)) | exact splice_whole (by first | (simp [opv, Value.cells, *]; done) | rfl) | (simp only [opv, n1, n2, Value.cells, splice, List.take_succ_cons, List.take_zero, List.drop_succ_cons, List.drop_zero, List.length_cons, List.length_nil, Nat.zero_add, Nat.reduceAdd, List.append_assoc, List.cons_append, List.nil_append]; rfl))) (hv := by first | rfl | (show (zi _ _).toArray.size = _; rw [zi_size (by omega)]; rfl) | (simp [opv, Value.cells, *]; done)) (hfit := by first | omega | (rw [zi_size (by omega)]; first | rfl | decide) | (simp only [ic_size, List.length_map, List.size_toArray]; first | omega | decide) | rfl | (simp [*]; done) | (simp [*]; omega)) (h1 := by first | exact zi_one _ _ | exact ic_one _ _ | simp [opv, Value.cells, Value.oneCell']) (h := fun w15 hS => ?_) | refine m_store_vec ti22 (hS := hS) (hc := by first | exact zi_set rfl (by omega) | exact zi_whole (by omega) (by omega) | (first | exact splice_ic (by first | omega | (simp [*]; done) | (simp [*]; omega)) | exact splice_il (by first | omega | (simp [*]; done) | (simp [*]; omega)) | exact splice_whole (by first | (simp [opv, Value.cells, *]; done) | rfl) | (simp only [opv, n1, n2, Value.cells, splice, List.take_succ_cons, List.take_zero, List.drop_succ_cons, List.drop_zero, List.length_cons, List.length_nil, Nat.zero_add, Nat.reduceAdd, List.append_assoc, List.cons_append, List.nil_append]; rfl))) (hv := by first | rfl | (show (zi _ _).toArray.size = _; rw [zi_size (by omega)]; rfl) | (simp [opv, Value.cells, *]; done)) (hfit := by first | omega | (rw [zi_size (by omega)]; first | rfl | decide) | (simp only [ic_size, List.length_map, List.size_toArray]; first | omega | decide) | rfl | (simp [*]; done) | (simp [*]; omega)) (h1 := by first | exact zi_one _ _ | exact ic_one _ _ | simp [opv, Value.cells, Value.oneCell']) (h := fun w15 hS => ?_)
  try simp only [opv, n1, n2, n3, n4, Value.cells, Array.toArray_toList] at hS ⊢
  refine y_nilf ?_
  refine hK5 _ _ ?_
  refine y_ret ?_
  refine rm_mark hS (by repeat (first | exact Upd.head | apply Upd.tail)) (fun w16 hS => ?_)
  refine rm_nil ?_
  refine r_cell_one rfl Try.underlying22 (hS := hS) (hR := ?_)
  exact ⟨_, _, rfl, hS.ext_of⟩
 case rft1 =>
  exact hX.elim
 case rfe1 =>
  exact y_ex_nil

def da1 : List Int := mkKey 2 1 [97, 0, 0, 0, 0, 0, 0, 0] 0 0 ++ mkV 3 nm0
theorem da1_ok : AOks [da1] := fun a h => by
  rw [List.mem_singleton] at h; rw [h]
  exact kv_ok (mkKey_ok rfl (by unfold Byt; decide) (by decide) (by decide) (by decide) (by decide)) ⟨rfl, by decide, by decide, nm0_byt⟩
theorem da_1 : (difP [da1] [da1]).length = 0 := by decide +kernel
theorem da_2 : difP [da1] [] = [da1] := by decide +kernel
theorem da_3 : (normP [da1]).length = 1 := by decide +kernel

theorem c_law11alive  (w0 : World) :
    CallR Try.prog 47 #[] w0 fun v w' => v = .bool true ∧ Ext w0 w' := by
 have hS : St NoB w0 w0 [] := St.start w0
 have da1_len : da1.length = 21 := rfl
 refine c_enter (l := [undef, undef, undef, undef, undef, undef, undef, undef, undef, undef, undef, undef, undef, undef, undef, undef, undef, undef, undef, undef, undef, undef, undef, undef, undef, undef, undef, undef]) Try.func47 rfl (by simp only [Try.ntmps47, List.size_toArray, List.length_cons, List.length_nil, Nat.reduceAdd, Nat.reduceSub, Array.replicate_succ, Array.replicate_zero, List.push_toArray, List.append_toArray, List.nil_append, List.cons_append]) ?_
 refine x_seq fun K1 hK1 => ?_
 refine x_region ?_
 refine s_go (s_assign) ?_
 try simp only [opv, n1, n2, n3, n4, Value.cells]
 refine x_nil ?_
 refine hK1 _ _ ?_
 refine x_seq fun K2 hK2 => ?_
 refine x_region ?_
 refine s_go (s_build_arr (cells := #[_, .int .u8 0, .int .u8 0, .int .u8 0, .int .u8 0, .int .u8 0, .int .u8 0, .int .u8 0]) Try.underlying31 ti31 ti5 (hc := by simp only [List.map_toArray, List.map_cons, List.map_nil, opv, n1, n2, n3, n4, Value.cells, List.toList_toArray]; (repeat (refine fill_cons rfl rfl (Nat.le_of_ble_eq_true rfl) ?_)); rfl)) ?_
 try simp only [opv, n1, n2, n3, n4, Value.cells]
 refine s_go (s_build_struct (cells := (KA (mkKey 2 1 [97, 0, 0, 0, 0, 0, 0, 0] 0 0))) Try.underlying34 ti34 bp34 (hc := by simp only [List.map_toArray, List.map_cons, List.map_nil, opv, n1, n2, n3, n4, Value.cells, List.toList_toArray]; (repeat (refine fill_cons rfl rfl (Nat.le_of_ble_eq_true rfl) ?_)); rfl)) ?_
 try simp only [opv, n1, n2, n3, n4, Value.cells]
 refine s_go (s_build_struct (cells := (VA (mkV 3 nm0))) Try.underlying37 ti37 bp37 (hc := by simp only [List.map_toArray, List.map_cons, List.map_nil, opv, n1, n2, n3, n4, Value.cells, List.toList_toArray]; (repeat (refine fill_cons rfl rfl (Nat.le_of_ble_eq_true rfl) ?_)); rfl)) ?_
 try simp only [opv, n1, n2, n3, n4, Value.cells]
 refine s_go (s_build_struct (cells := (AA da1)) Try.underlying39 ti39 bp39 (hc := by simp only [List.map_toArray, List.map_cons, List.map_nil, opv, n1, n2, n3, n4, Value.cells, List.toList_toArray]; (repeat (refine fill_cons rfl rfl (Nat.le_of_ble_eq_true rfl) ?_)); rfl)) ?_
 try simp only [opv, n1, n2, n3, n4, Value.cells]
 refine m_buildRow (cells := (AA da1)) Try.underlying24 ti39 (hc := by simp only [List.map_toArray, List.map_cons, List.map_nil, opv, n1, n2, n3, n4, Value.cells, List.toList_toArray]; exact fill_one (by rfl) (zi_size21 da1_len) (by rfl)) (hS := hS) (h := fun w1 g1 hS => ?_)
 try simp only [opv, n1, n2, n3, n4, Value.cells, Array.toArray_toList] at hS ⊢
 replace hS := hS.obj_rd (sz := 21) (n := 1) (by exact zi_size21 da1_len) .head
 rw [arow_one da1_len] at hS
 refine s_go (s_assign) ?_
 try simp only [opv, n1, n2, n3, n4, Value.cells]
 refine x_nil ?_
 refine hK2 _ _ ?_
 refine x_seq fun K3 hK3 => ?_
 refine x_region ?_
 refine s_go (s_move) ?_
 try simp only [opv, n1, n2, n3, n4, Value.cells]
 replace hS := hS.rd_none none 21
 refine s_go (s_move) ?_
 try simp only [opv, n1, n2, n3, n4, Value.cells]
 refine s_call en48 ?_
 try simp only [opv, n1, n2, n3, n4, Value.cells, List.map_toArray, List.map_cons, List.map_nil, List.append_toArray, List.cons_append, List.nil_append, Array.append_empty]
 refine CallR.mono (c_deltaDiff _ _ _ [da1] (hS.hasRd (by repeat (first | exact Has.head | apply Has.tail))) da1_ok _ _ [da1] (hS.hasRd (by repeat (first | exact Has.head | apply Has.tail))) da1_ok (by decide)) ?_
 rintro _ w2 ⟨A2, c2, rfl, hC2⟩
 replace hS := hS.call hC2
 simp only [List.cons_append, List.nil_append] at hS
 rw [da_1]
 try simp only [opv, n1, n2, n3, n4, Value.cells]
 refine s_go (s_len_sl Try.underlying24) ?_
 try simp only [opv, n1, n2, n3, n4, Value.cells]
 refine s_go (s_eql) ?_
 try simp only [opv, n1, n2, n3, n4, Value.cells]
 try simp only [eq_self, decide_true, beq_self_eq_true, Bool.and_self]
 refine s_go (s_move) ?_
 try simp only [opv, n1, n2, n3, n4, Value.cells]
 refine g_on (yi (t := 12) rfl rfl) ?_
 refine s_go (s_move) ?_
 try simp only [opv, n1, n2, n3, n4, Value.cells]
 refine g_on (yi (t := 12) rfl rfl) ?_
 refine s_call en48 ?_
 try simp only [opv, n1, n2, n3, n4, Value.cells, List.map_toArray, List.map_cons, List.map_nil, List.append_toArray, List.cons_append, List.nil_append, Array.append_empty]
 refine CallR.mono (c_deltaDiff _ _ _ [da1] (hS.hasRd (by repeat (first | exact Has.head | apply Has.tail))) da1_ok none 0 [] (hS.hasRd (by repeat (first | exact Has.head | apply Has.tail))) AOks.nil (by decide)) ?_
 rintro _ w3 ⟨A3, c3, rfl, hC3⟩
 replace hS := hS.call hC3
 simp only [List.cons_append, List.nil_append] at hS
 rw [da_2] at hS ⊢
 try simp only [opv, n1, n2, n3, n4, Value.cells]
 refine g_on (yi (t := 12) rfl rfl) ?_
 refine s_go (s_move) ?_
 try simp only [opv, n1, n2, n3, n4, Value.cells]
 refine g_on (yi (t := 12) rfl rfl) ?_
 refine s_call en25 ?_
 try simp only [opv, n1, n2, n3, n4, Value.cells, List.map_toArray, List.map_cons, List.map_nil, List.append_toArray, List.cons_append, List.nil_append, Array.append_empty]
 refine CallR.mono (c_ref10Rows _ _ _ [da1] (hS.vecRd (by repeat (first | exact Has.head | apply Has.tail))) da1_ok _ _ [da1] (hS.hasRd (by repeat (first | exact Has.head | apply Has.tail))) da1_ok (by decide)) ?_
 rintro _ w4 ⟨rfl, hE4⟩
 replace hS := hS.ext hE4
 try simp only [opv, n1, n2, n3, n4, Value.cells]
 try simp only [eq_self, decide_true, beq_self_eq_true, Bool.and_self]
 first | refine s_go (s_pick_t) ?_ | refine s_go (s_pick_f) ?_
 try simp only [opv, n1, n2, n3, n4, Value.cells]
 refine s_go (s_move) ?_
 try simp only [opv, n1, n2, n3, n4, Value.cells]
 refine g_on (yi (t := 18) rfl rfl) ?_
 refine s_go (s_move) ?_
 try simp only [opv, n1, n2, n3, n4, Value.cells]
 refine g_on (yi (t := 18) rfl rfl) ?_
 refine s_call en55 ?_
 try simp only [opv, n1, n2, n3, n4, Value.cells, List.map_toArray, List.map_cons, List.map_nil, List.append_toArray, List.cons_append, List.nil_append, Array.append_empty]
 refine CallR.mono (c_deltaPartsN _ _ _ [da1] (hS.hasRd (by repeat (first | exact Has.head | apply Has.tail))) da1_ok (by decide)) ?_
 rintro _ w5 ⟨A5, c5, rfl, hE5⟩
 replace hS := hS.ext hE5
 rw [da_3]
 try simp only [opv, n1, n2, n3, n4, Value.cells]
 refine g_on (yi (t := 18) rfl rfl) ?_
 refine s_go (s_len_sl Try.underlying22) ?_
 try simp only [opv, n1, n2, n3, n4, Value.cells]
 refine g_on (yi (t := 18) rfl rfl) ?_
 refine s_go (s_eql) ?_
 try simp only [opv, n1, n2, n3, n4, Value.cells]
 try simp only [eq_self, decide_true, beq_self_eq_true, Bool.and_self]
 first | refine s_go (s_pick_t) ?_ | refine s_go (s_pick_f) ?_
 try simp only [opv, n1, n2, n3, n4, Value.cells]
 refine s_go (s_move) ?_
 try simp only [opv, n1, n2, n3, n4, Value.cells]
 refine g_on (yi (t := 24) rfl rfl) ?_
 refine s_go (s_move) ?_
 try simp only [opv, n1, n2, n3, n4, Value.cells]
 refine g_on (yi (t := 24) rfl rfl) ?_
 refine s_call en56 ?_
 try simp only [opv, n1, n2, n3, n4, Value.cells, List.map_toArray, List.map_cons, List.map_nil, List.append_toArray, List.cons_append, List.nil_append, Array.append_empty]
 refine CallR.mono (c_deltaIrr _ _ _ [da1] (hS.hasRd (by repeat (first | exact Has.head | apply Has.tail))) da1_ok (by decide)) ?_
 rintro _ w6 ⟨rfl, hE6⟩
 replace hS := hS.ext hE6
 try simp only [opv, n1, n2, n3, n4, Value.cells]
 rw [da_3]
 first | refine s_go (s_pick_t) ?_ | refine s_go (s_pick_f) ?_
 try simp only [opv, n1, n2, n3, n4, Value.cells]
 refine s_go (s_assign) ?_
 try simp only [opv, n1, n2, n3, n4, Value.cells]
 refine x_nil ?_
 refine hK3 _ _ ?_
 refine x_ret ?_
 refine r_tmp rfl ?_
 exact ⟨by first | rfl | decide, hS.ext_of⟩
end Go.Proofs.Ytmgacmkikefpjaa
set_option linter.unusedSimpArgs false
set_option linter.unusedVariables false
set_option maxHeartbeats 2000000
set_option maxRecDepth 100000
namespace Go.Proofs.Ytmgacmkikefpjaa
open Go.RowKit
theorem c_deltaCmp (w0 : World) (A : Option Addr) (c : Nat) (l : List (List Int)) (hr : Rd w0 A 21 l.length (arows l)) (hv : AOks l) (B : Option Addr) (d : Nat) (r : List (List Int)) (hr2 : Rd w0 B 21 r.length (arows r)) (hv2 : AOks r) (hn : l.length + r.length ≤ 1000000000)  :
    CallR Try.prog 57 #[.slice A l.length c, .slice B r.length d] w0 fun v w' => v = .int .i64 (cmpR l r) ∧ Ext w0 w' := by
 have hS := St.rd2 (S := NoB) hr hr2
 refine c_enter (l := [.slice A l.length c, .slice B r.length d, undef, undef, undef, undef, undef, undef, undef, undef, undef, undef, undef, undef, undef, undef, undef, undef, undef, undef, undef, undef, undef, undef, undef, undef]) Try.func57 rfl (by simp only [Try.ntmps57, List.size_toArray, List.length_cons, List.length_nil, Nat.reduceAdd, Nat.reduceSub, Array.replicate_succ, Array.replicate_zero, List.push_toArray, List.append_toArray, List.nil_append, List.cons_append]) ?_
 refine x_seq fun K1 hK1 => ?_
 refine x_region ?_
 refine s_go (s_assign) ?_
 try simp only [opv, n1, n2, n3, n4, Value.cells]
 refine x_nil ?_
 refine hK1 _ _ ?_
 refine x_seq fun K2 hK2 => ?_
 refine x_region ?_
 refine s_go (s_move) ?_
 try simp only [opv, n1, n2, n3, n4, Value.cells]
 refine s_go (s_move) ?_
 try simp only [opv, n1, n2, n3, n4, Value.cells]
 refine s_call en48 ?_
 try simp only [opv, n1, n2, n3, n4, Value.cells, List.map_toArray, List.map_cons, List.map_nil, List.append_toArray, List.cons_append, List.nil_append, Array.append_empty]
 refine CallR.mono (c_deltaDiff _ B d r (hS.hasRd (by repeat (first | exact Has.head | apply Has.tail))) hv2 A c l (hS.hasRd (by repeat (first | exact Has.head | apply Has.tail))) hv (by omega)) ?_
 rintro _ w1 ⟨D1, e1, rfl, hC1⟩
 replace hS := hS.call hC1
 simp only [List.cons_append, List.nil_append] at hS
 try simp only [opv, n1, n2, n3, n4, Value.cells]
 refine s_go (s_len_sl Try.underlying24) ?_
 try simp only [opv, n1, n2, n3, n4, Value.cells]
 refine s_go (s_gtr) ?_
 try simp only [opv, n1, n2, n3, n4, Value.cells]
 refine s_go (s_move) ?_
 try simp only [opv, n1, n2, n3, n4, Value.cells]
 refine s_go (s_move) ?_
 try simp only [opv, n1, n2, n3, n4, Value.cells]
 refine s_call en48 ?_
 try simp only [opv, n1, n2, n3, n4, Value.cells, List.map_toArray, List.map_cons, List.map_nil, List.append_toArray, List.cons_append, List.nil_append, Array.append_empty]
 refine CallR.mono (c_deltaDiff _ A c l (hS.hasRd (by repeat (first | exact Has.head | apply Has.tail))) hv B d r (hS.hasRd (by repeat (first | exact Has.head | apply Has.tail))) hv2 (by omega)) ?_
 rintro _ w2 ⟨D2, e2, rfl, hC2⟩
 replace hS := hS.call hC2
 simp only [List.cons_append, List.nil_append] at hS
 obtain ⟨za, hza⟩ : ∃ n, (difP r l).length = n := ⟨_, rfl⟩
 obtain ⟨zb, hzb⟩ : ∃ n, (difP l r).length = n := ⟨_, rfl⟩
 have hz1 := dif_zero (t := normP l) (s := normP r)
 have hz2 := dif_zero (t := normP r) (s := normP l)
 rw [hza] at hz1
 rw [hzb] at hz2
 simp only [hza, hzb]
 try simp only [opv, n1, n2, n3, n4, Value.cells]
 refine s_go (s_len_sl Try.underlying24) ?_
 try simp only [opv, n1, n2, n3, n4, Value.cells]
 refine s_go (s_gtr) ?_
 try simp only [opv, n1, n2, n3, n4, Value.cells]
 refine s_go (s_assign) ?_
 try simp only [opv, n1, n2, n3, n4, Value.cells]
 refine s_go (s_assign) ?_
 try simp only [opv, n1, n2, n3, n4, Value.cells]
 refine x_nil ?_
 refine hK2 _ _ ?_
 refine x_seq fun K3 hK3 => ?_
 refine x_block ?_
 refine x_seq fun K4 hK4 => ?_
 refine x_region ?_
 refine s_go (s_move) ?_
 try simp only [opv, n1, n2, n3, n4, Value.cells]
 refine s_go (s_move) ?_
 try simp only [opv, n1, n2, n3, n4, Value.cells]
 refine s_part 19 rfl (fun hp1 => ?_) (fun hp1 => ?_)
 ·
  try simp only [n3, n4]
  try simp only [decide_eq_true_eq, decide_eq_false_iff_not, Bool.not_eq_true', Bool.not_eq_false', Int.not_lt, Int.not_le, ne_eq, Decidable.not_not] at hp1
  first
  | (exfalso; omega)
  | skip
    refine g_on (yi (t := 19) rfl rfl) ?_
    refine s_go (s_move) ?_
    try simp only [opv, n1, n2, n3, n4, Value.cells]
    first | refine s_go (s_pick_t) ?_ | refine s_go (s_pick_f) ?_
    try simp only [opv, n1, n2, n3, n4, Value.cells]
    refine s_go (s_assign) ?_
    try simp only [opv, n1, n2, n3, n4, Value.cells]
    refine x_nil ?_
    refine hK4 _ _ ?_
    refine x_cond (ht := fun hc1 => ?_) (hf := fun hc1 => ?_)
    ·
     try simp only [decide_eq_true_eq, decide_eq_false_iff_not, Bool.not_eq_true', Bool.not_eq_false', Int.not_lt, Int.not_le, ne_eq, Decidable.not_not, bne_iff_ne, beq_iff_eq, not_true_eq_false, not_false_eq_true] at hc1
     first
     | (exfalso; omega)
     | skip
       refine x_seq fun K5 hK5 => ?_
       refine x_region ?_
       refine s_go (s_assign) ?_
       try simp only [opv, n1, n2, n3, n4, Value.cells]
       refine x_nil ?_
       refine hK5 _ _ ?_
       refine x_ret ?_
       refine r_tmp rfl ?_
       exact ⟨by unfold cmpR; cases h1 : leqP (normP l) (normP r) <;> cases h2 : leqP (normP r) (normP l) <;> rw [h1] at hz2 <;> rw [h2] at hz1 <;> first | rfl | (exfalso; simp at hz1 hz2; omega), hS.ext_of⟩
    ·
     try simp only [decide_eq_true_eq, decide_eq_false_iff_not, Bool.not_eq_true', Bool.not_eq_false', Int.not_lt, Int.not_le, ne_eq, Decidable.not_not, bne_iff_ne, beq_iff_eq, not_true_eq_false, not_false_eq_true] at hc1
     first
     | (exfalso; omega)
     | skip
       refine x_seq fun K6 hK6 => ?_
       refine x_region ?_
       refine s_go (s_move) ?_
       try simp only [opv, n1, n2, n3, n4, Value.cells]
       refine s_go (s_assign) ?_
       try simp only [opv, n1, n2, n3, n4, Value.cells]
       refine x_nil ?_
       refine hK6 _ _ ?_
       refine x_cond (ht := fun hc2 => ?_) (hf := fun hc2 => ?_)
       ·
        try simp only [decide_eq_true_eq, decide_eq_false_iff_not, Bool.not_eq_true', Bool.not_eq_false', Int.not_lt, Int.not_le, ne_eq, Decidable.not_not, bne_iff_ne, beq_iff_eq, not_true_eq_false, not_false_eq_true] at hc2
        first
        | (exfalso; omega)
        | skip
          refine x_seq fun K7 hK7 => ?_
          refine x_region ?_
          refine s_go (s_assign) ?_
          try simp only [opv, n1, n2, n3, n4, Value.cells]
          refine x_nil ?_
          refine hK7 _ _ ?_
          refine x_ret ?_
          refine r_tmp rfl ?_
          exact ⟨by unfold cmpR; cases h1 : leqP (normP l) (normP r) <;> cases h2 : leqP (normP r) (normP l) <;> rw [h1] at hz2 <;> rw [h2] at hz1 <;> first | rfl | (exfalso; simp at hz1 hz2; omega), hS.ext_of⟩
       ·
        try simp only [decide_eq_true_eq, decide_eq_false_iff_not, Bool.not_eq_true', Bool.not_eq_false', Int.not_lt, Int.not_le, ne_eq, Decidable.not_not, bne_iff_ne, beq_iff_eq, not_true_eq_false, not_false_eq_true] at hc2
        first
        | (exfalso; omega)
        | skip
          refine x_seq fun K8 hK8 => ?_
          refine x_region ?_
          refine s_go (s_move) ?_
          try simp only [opv, n1, n2, n3, n4, Value.cells]
          refine s_go (s_assign) ?_
          try simp only [opv, n1, n2, n3, n4, Value.cells]
          refine x_nil ?_
          refine hK8 _ _ ?_
          refine x_cond (ht := fun hc3 => ?_) (hf := fun hc3 => ?_)
          ·
           try simp only [decide_eq_true_eq, decide_eq_false_iff_not, Bool.not_eq_true', Bool.not_eq_false', Int.not_lt, Int.not_le, ne_eq, Decidable.not_not, bne_iff_ne, beq_iff_eq, not_true_eq_false, not_false_eq_true] at hc3
           first
           | (exfalso; omega)
           | skip
             refine x_seq fun K9 hK9 => ?_
             refine x_region ?_
             refine s_go (s_assign) ?_
             try simp only [opv, n1, n2, n3, n4, Value.cells]
             refine x_nil ?_
             refine hK9 _ _ ?_
             refine x_ret ?_
             refine r_tmp rfl ?_
             exact ⟨by unfold cmpR; cases h1 : leqP (normP l) (normP r) <;> cases h2 : leqP (normP r) (normP l) <;> rw [h1] at hz2 <;> rw [h2] at hz1 <;> first | rfl | (exfalso; simp at hz1 hz2; omega), hS.ext_of⟩
          ·
           try simp only [decide_eq_true_eq, decide_eq_false_iff_not, Bool.not_eq_true', Bool.not_eq_false', Int.not_lt, Int.not_le, ne_eq, Decidable.not_not, bne_iff_ne, beq_iff_eq, not_true_eq_false, not_false_eq_true] at hc3
           first
           | (exfalso; omega)
           | skip
             refine x_skip ?_
             refine hK3 _ _ ?_
             refine x_seq fun K10 hK10 => ?_
             refine x_region ?_
             refine s_go (s_assign) ?_
             try simp only [opv, n1, n2, n3, n4, Value.cells]
             refine x_nil ?_
             refine hK10 _ _ ?_
             refine x_ret ?_
             refine r_tmp rfl ?_
             exact ⟨by unfold cmpR; cases h1 : leqP (normP l) (normP r) <;> cases h2 : leqP (normP r) (normP l) <;> rw [h1] at hz2 <;> rw [h2] at hz1 <;> first | rfl | (exfalso; simp at hz1 hz2; omega), hS.ext_of⟩
 ·
  try simp only [n3, n4]
  try simp only [decide_eq_true_eq, decide_eq_false_iff_not, Bool.not_eq_true', Bool.not_eq_false', Int.not_lt, Int.not_le, ne_eq, Decidable.not_not] at hp1
  first
  | (exfalso; omega)
  | skip
    refine g_off (yi (t := 19) rfl rfl) ?_
    try simp only [opv, n1, n2, n3, n4, Value.cells]
    first | refine s_go (s_pick_t) ?_ | refine s_go (s_pick_f) ?_
    try simp only [opv, n1, n2, n3, n4, Value.cells]
    refine s_go (s_assign) ?_
    try simp only [opv, n1, n2, n3, n4, Value.cells]
    refine x_nil ?_
    refine hK4 _ _ ?_
    refine x_cond_f (h := ?_)
    refine x_seq fun K11 hK11 => ?_
    refine x_region ?_
    refine s_go (s_move) ?_
    try simp only [opv, n1, n2, n3, n4, Value.cells]
    refine s_go (s_assign) ?_
    try simp only [opv, n1, n2, n3, n4, Value.cells]
    refine x_nil ?_
    refine hK11 _ _ ?_
    refine x_cond (ht := fun hc5 => ?_) (hf := fun hc5 => ?_)
    ·
     try simp only [decide_eq_true_eq, decide_eq_false_iff_not, Bool.not_eq_true', Bool.not_eq_false', Int.not_lt, Int.not_le, ne_eq, Decidable.not_not, bne_iff_ne, beq_iff_eq, not_true_eq_false, not_false_eq_true] at hc5
     first
     | (exfalso; omega)
     | skip
       refine x_seq fun K12 hK12 => ?_
       refine x_region ?_
       refine s_go (s_assign) ?_
       try simp only [opv, n1, n2, n3, n4, Value.cells]
       refine x_nil ?_
       refine hK12 _ _ ?_
       refine x_ret ?_
       refine r_tmp rfl ?_
       exact ⟨by unfold cmpR; cases h1 : leqP (normP l) (normP r) <;> cases h2 : leqP (normP r) (normP l) <;> rw [h1] at hz2 <;> rw [h2] at hz1 <;> first | rfl | (exfalso; simp at hz1 hz2; omega), hS.ext_of⟩
    ·
     try simp only [decide_eq_true_eq, decide_eq_false_iff_not, Bool.not_eq_true', Bool.not_eq_false', Int.not_lt, Int.not_le, ne_eq, Decidable.not_not, bne_iff_ne, beq_iff_eq, not_true_eq_false, not_false_eq_true] at hc5
     first
     | (exfalso; omega)
     | skip
       refine x_seq fun K13 hK13 => ?_
       refine x_region ?_
       refine s_go (s_move) ?_
       try simp only [opv, n1, n2, n3, n4, Value.cells]
       refine s_go (s_assign) ?_
       try simp only [opv, n1, n2, n3, n4, Value.cells]
       refine x_nil ?_
       refine hK13 _ _ ?_
       refine x_cond (ht := fun hc6 => ?_) (hf := fun hc6 => ?_)
       ·
        try simp only [decide_eq_true_eq, decide_eq_false_iff_not, Bool.not_eq_true', Bool.not_eq_false', Int.not_lt, Int.not_le, ne_eq, Decidable.not_not, bne_iff_ne, beq_iff_eq, not_true_eq_false, not_false_eq_true] at hc6
        first
        | (exfalso; omega)
        | skip
          refine x_seq fun K14 hK14 => ?_
          refine x_region ?_
          refine s_go (s_assign) ?_
          try simp only [opv, n1, n2, n3, n4, Value.cells]
          refine x_nil ?_
          refine hK14 _ _ ?_
          refine x_ret ?_
          refine r_tmp rfl ?_
          exact ⟨by unfold cmpR; cases h1 : leqP (normP l) (normP r) <;> cases h2 : leqP (normP r) (normP l) <;> rw [h1] at hz2 <;> rw [h2] at hz1 <;> first | rfl | (exfalso; simp at hz1 hz2; omega), hS.ext_of⟩
       ·
        try simp only [decide_eq_true_eq, decide_eq_false_iff_not, Bool.not_eq_true', Bool.not_eq_false', Int.not_lt, Int.not_le, ne_eq, Decidable.not_not, bne_iff_ne, beq_iff_eq, not_true_eq_false, not_false_eq_true] at hc6
        first
        | (exfalso; omega)
        | skip
          refine x_skip ?_
          refine hK3 _ _ ?_
          refine x_seq fun K15 hK15 => ?_
          refine x_region ?_
          refine s_go (s_assign) ?_
          try simp only [opv, n1, n2, n3, n4, Value.cells]
          refine x_nil ?_
          refine hK15 _ _ ?_
          refine x_ret ?_
          refine r_tmp rfl ?_
          exact ⟨by unfold cmpR; cases h1 : leqP (normP l) (normP r) <;> cases h2 : leqP (normP r) (normP l) <;> rw [h1] at hz2 <;> rw [h2] at hz1 <;> first | rfl | (exfalso; simp at hz1 hz2; omega), hS.ext_of⟩
theorem c_ref11Cmp (w0 : World) (A : Option Addr) (c : Nat) (l : List (List Int)) (hr : Rd w0 A 21 l.length (arows l)) (hv : AOks l) (B : Option Addr) (d : Nat) (r : List (List Int)) (hr2 : Rd w0 B 21 r.length (arows r)) (hv2 : AOks r) (hn : l.length + r.length ≤ 1000000000)  :
    CallR Try.prog 58 #[.slice A l.length c, .slice B r.length d] w0 fun v w' => v = .int .i64 (cmpR l r) ∧ Ext w0 w' := by
 have hS := St.rd2 (S := NoB) hr hr2
 refine c_enter (l := [.slice A l.length c, .slice B r.length d, undef, undef, undef, undef, undef, undef, undef, undef, undef, undef, undef, undef, undef, undef, undef, undef, undef, undef, undef, undef]) Try.func58 rfl (by simp only [Try.ntmps58, List.size_toArray, List.length_cons, List.length_nil, Nat.reduceAdd, Nat.reduceSub, Array.replicate_succ, Array.replicate_zero, List.push_toArray, List.append_toArray, List.nil_append, List.cons_append]) ?_
 refine x_seq fun K1 hK1 => ?_
 refine x_region ?_
 refine s_go (s_assign) ?_
 try simp only [opv, n1, n2, n3, n4, Value.cells]
 refine x_nil ?_
 refine hK1 _ _ ?_
 refine x_seq fun K2 hK2 => ?_
 refine x_region ?_
 refine s_go (s_move) ?_
 try simp only [opv, n1, n2, n3, n4, Value.cells]
 refine s_go (s_move) ?_
 try simp only [opv, n1, n2, n3, n4, Value.cells]
 refine s_call en38 ?_
 try simp only [opv, n1, n2, n3, n4, Value.cells, List.map_toArray, List.map_cons, List.map_nil, List.append_toArray, List.cons_append, List.nil_append, Array.append_empty]
 refine CallR.mono (c_ref10Leq _ A c l (hS.hasRd (by repeat (first | exact Has.head | apply Has.tail))) hv B d r (hS.hasRd (by repeat (first | exact Has.head | apply Has.tail))) hv2 (by omega)) ?_
 rintro _ w1 ⟨rfl, hE1⟩
 replace hS := hS.ext hE1
 try simp only [opv, n1, n2, n3, n4, Value.cells]
 refine s_go (s_move) ?_
 try simp only [opv, n1, n2, n3, n4, Value.cells]
 refine s_go (s_move) ?_
 try simp only [opv, n1, n2, n3, n4, Value.cells]
 refine s_call en38 ?_
 try simp only [opv, n1, n2, n3, n4, Value.cells, List.map_toArray, List.map_cons, List.map_nil, List.append_toArray, List.cons_append, List.nil_append, Array.append_empty]
 refine CallR.mono (c_ref10Leq _ B d r (hS.hasRd (by repeat (first | exact Has.head | apply Has.tail))) hv2 A c l (hS.hasRd (by repeat (first | exact Has.head | apply Has.tail))) hv (by omega)) ?_
 rintro _ w2 ⟨rfl, hE2⟩
 replace hS := hS.ext hE2
 try simp only [opv, n1, n2, n3, n4, Value.cells]
 refine s_go (s_assign) ?_
 try simp only [opv, n1, n2, n3, n4, Value.cells]
 refine s_go (s_assign) ?_
 try simp only [opv, n1, n2, n3, n4, Value.cells]
 refine x_nil ?_
 refine hK2 _ _ ?_
 refine x_seq fun K3 hK3 => ?_
 refine x_block ?_
 refine x_seq fun K4 hK4 => ?_
 refine x_region ?_
 refine s_go (s_move) ?_
 try simp only [opv, n1, n2, n3, n4, Value.cells]
 refine s_go (s_move) ?_
 try simp only [opv, n1, n2, n3, n4, Value.cells]
 refine s_part 15 rfl (fun hp1 => ?_) (fun hp1 => ?_)
 ·
  try simp only [n3, n4]
  try simp only [decide_eq_true_eq, decide_eq_false_iff_not, Bool.not_eq_true', Bool.not_eq_false', Int.not_lt, Int.not_le, ne_eq, Decidable.not_not] at hp1
  first
  | (exfalso; omega)
  | skip
    refine g_on (yi (t := 15) rfl rfl) ?_
    refine s_go (s_move) ?_
    try simp only [opv, n1, n2, n3, n4, Value.cells]
    first | refine s_go (s_pick_t) ?_ | refine s_go (s_pick_f) ?_
    try simp only [opv, n1, n2, n3, n4, Value.cells]
    refine s_go (s_assign) ?_
    try simp only [opv, n1, n2, n3, n4, Value.cells]
    refine x_nil ?_
    refine hK4 _ _ ?_
    refine x_cond (ht := fun hc1 => ?_) (hf := fun hc1 => ?_)
    ·
     try simp only [decide_eq_true_eq, decide_eq_false_iff_not, Bool.not_eq_true', Bool.not_eq_false', Int.not_lt, Int.not_le, ne_eq, Decidable.not_not, bne_iff_ne, beq_iff_eq, not_true_eq_false, not_false_eq_true] at hc1
     first
     | (exfalso; omega)
     | skip
       refine x_seq fun K5 hK5 => ?_
       refine x_region ?_
       refine s_go (s_assign) ?_
       try simp only [opv, n1, n2, n3, n4, Value.cells]
       refine x_nil ?_
       refine hK5 _ _ ?_
       refine x_ret ?_
       refine r_tmp rfl ?_
       exact ⟨by unfold cmpR; cases h1 : leqP (normP l) (normP r) <;> cases h2 : leqP (normP r) (normP l) <;> first | rfl | simp_all, hS.ext_of⟩
    ·
     try simp only [decide_eq_true_eq, decide_eq_false_iff_not, Bool.not_eq_true', Bool.not_eq_false', Int.not_lt, Int.not_le, ne_eq, Decidable.not_not, bne_iff_ne, beq_iff_eq, not_true_eq_false, not_false_eq_true] at hc1
     first
     | (exfalso; omega)
     | skip
       refine x_seq fun K6 hK6 => ?_
       refine x_region ?_
       refine s_go (s_move) ?_
       try simp only [opv, n1, n2, n3, n4, Value.cells]
       refine s_go (s_assign) ?_
       try simp only [opv, n1, n2, n3, n4, Value.cells]
       refine x_nil ?_
       refine hK6 _ _ ?_
       refine x_cond (ht := fun hc2 => ?_) (hf := fun hc2 => ?_)
       ·
        try simp only [decide_eq_true_eq, decide_eq_false_iff_not, Bool.not_eq_true', Bool.not_eq_false', Int.not_lt, Int.not_le, ne_eq, Decidable.not_not, bne_iff_ne, beq_iff_eq, not_true_eq_false, not_false_eq_true] at hc2
        first
        | (exfalso; omega)
        | skip
          refine x_seq fun K7 hK7 => ?_
          refine x_region ?_
          refine s_go (s_assign) ?_
          try simp only [opv, n1, n2, n3, n4, Value.cells]
          refine x_nil ?_
          refine hK7 _ _ ?_
          refine x_ret ?_
          refine r_tmp rfl ?_
          exact ⟨by unfold cmpR; cases h1 : leqP (normP l) (normP r) <;> cases h2 : leqP (normP r) (normP l) <;> first | rfl | simp_all, hS.ext_of⟩
       ·
        try simp only [decide_eq_true_eq, decide_eq_false_iff_not, Bool.not_eq_true', Bool.not_eq_false', Int.not_lt, Int.not_le, ne_eq, Decidable.not_not, bne_iff_ne, beq_iff_eq, not_true_eq_false, not_false_eq_true] at hc2
        first
        | (exfalso; omega)
        | skip
          refine x_seq fun K8 hK8 => ?_
          refine x_region ?_
          refine s_go (s_move) ?_
          try simp only [opv, n1, n2, n3, n4, Value.cells]
          refine s_go (s_assign) ?_
          try simp only [opv, n1, n2, n3, n4, Value.cells]
          refine x_nil ?_
          refine hK8 _ _ ?_
          refine x_cond (ht := fun hc3 => ?_) (hf := fun hc3 => ?_)
          ·
           try simp only [decide_eq_true_eq, decide_eq_false_iff_not, Bool.not_eq_true', Bool.not_eq_false', Int.not_lt, Int.not_le, ne_eq, Decidable.not_not, bne_iff_ne, beq_iff_eq, not_true_eq_false, not_false_eq_true] at hc3
           first
           | (exfalso; omega)
           | skip
             refine x_seq fun K9 hK9 => ?_
             refine x_region ?_
             refine s_go (s_assign) ?_
             try simp only [opv, n1, n2, n3, n4, Value.cells]
             refine x_nil ?_
             refine hK9 _ _ ?_
             refine x_ret ?_
             refine r_tmp rfl ?_
             exact ⟨by unfold cmpR; cases h1 : leqP (normP l) (normP r) <;> cases h2 : leqP (normP r) (normP l) <;> first | rfl | simp_all, hS.ext_of⟩
          ·
           try simp only [decide_eq_true_eq, decide_eq_false_iff_not, Bool.not_eq_true', Bool.not_eq_false', Int.not_lt, Int.not_le, ne_eq, Decidable.not_not, bne_iff_ne, beq_iff_eq, not_true_eq_false, not_false_eq_true] at hc3
           first
           | (exfalso; omega)
           | skip
             refine x_skip ?_
             refine hK3 _ _ ?_
             refine x_seq fun K10 hK10 => ?_
             refine x_region ?_
             refine s_go (s_assign) ?_
             try simp only [opv, n1, n2, n3, n4, Value.cells]
             refine x_nil ?_
             refine hK10 _ _ ?_
             refine x_ret ?_
             refine r_tmp rfl ?_
             exact ⟨by unfold cmpR; cases h1 : leqP (normP l) (normP r) <;> cases h2 : leqP (normP r) (normP l) <;> first | rfl | simp_all, hS.ext_of⟩
 ·
  try simp only [n3, n4]
  try simp only [decide_eq_true_eq, decide_eq_false_iff_not, Bool.not_eq_true', Bool.not_eq_false', Int.not_lt, Int.not_le, ne_eq, Decidable.not_not] at hp1
  first
  | (exfalso; omega)
  | skip
    refine g_off (yi (t := 15) rfl rfl) ?_
    try simp only [opv, n1, n2, n3, n4, Value.cells]
    first | refine s_go (s_pick_t) ?_ | refine s_go (s_pick_f) ?_
    try simp only [opv, n1, n2, n3, n4, Value.cells]
    refine s_go (s_assign) ?_
    try simp only [opv, n1, n2, n3, n4, Value.cells]
    refine x_nil ?_
    refine hK4 _ _ ?_
    refine x_cond_f (h := ?_)
    refine x_seq fun K11 hK11 => ?_
    refine x_region ?_
    refine s_go (s_move) ?_
    try simp only [opv, n1, n2, n3, n4, Value.cells]
    refine s_go (s_assign) ?_
    try simp only [opv, n1, n2, n3, n4, Value.cells]
    refine x_nil ?_
    refine hK11 _ _ ?_
    refine x_cond (ht := fun hc5 => ?_) (hf := fun hc5 => ?_)
    ·
     try simp only [decide_eq_true_eq, decide_eq_false_iff_not, Bool.not_eq_true', Bool.not_eq_false', Int.not_lt, Int.not_le, ne_eq, Decidable.not_not, bne_iff_ne, beq_iff_eq, not_true_eq_false, not_false_eq_true] at hc5
     first
     | (exfalso; omega)
     | skip
       refine x_seq fun K12 hK12 => ?_
       refine x_region ?_
       refine s_go (s_assign) ?_
       try simp only [opv, n1, n2, n3, n4, Value.cells]
       refine x_nil ?_
       refine hK12 _ _ ?_
       refine x_ret ?_
       refine r_tmp rfl ?_
       exact ⟨by unfold cmpR; cases h1 : leqP (normP l) (normP r) <;> cases h2 : leqP (normP r) (normP l) <;> first | rfl | simp_all, hS.ext_of⟩
    ·
     try simp only [decide_eq_true_eq, decide_eq_false_iff_not, Bool.not_eq_true', Bool.not_eq_false', Int.not_lt, Int.not_le, ne_eq, Decidable.not_not, bne_iff_ne, beq_iff_eq, not_true_eq_false, not_false_eq_true] at hc5
     first
     | (exfalso; omega)
     | skip
       refine x_seq fun K13 hK13 => ?_
       refine x_region ?_
       refine s_go (s_move) ?_
       try simp only [opv, n1, n2, n3, n4, Value.cells]
       refine s_go (s_assign) ?_
       try simp only [opv, n1, n2, n3, n4, Value.cells]
       refine x_nil ?_
       refine hK13 _ _ ?_
       refine x_cond (ht := fun hc6 => ?_) (hf := fun hc6 => ?_)
       ·
        try simp only [decide_eq_true_eq, decide_eq_false_iff_not, Bool.not_eq_true', Bool.not_eq_false', Int.not_lt, Int.not_le, ne_eq, Decidable.not_not, bne_iff_ne, beq_iff_eq, not_true_eq_false, not_false_eq_true] at hc6
        first
        | (exfalso; omega)
        | skip
          refine x_seq fun K14 hK14 => ?_
          refine x_region ?_
          refine s_go (s_assign) ?_
          try simp only [opv, n1, n2, n3, n4, Value.cells]
          refine x_nil ?_
          refine hK14 _ _ ?_
          refine x_ret ?_
          refine r_tmp rfl ?_
          exact ⟨by unfold cmpR; cases h1 : leqP (normP l) (normP r) <;> cases h2 : leqP (normP r) (normP l) <;> first | rfl | simp_all, hS.ext_of⟩
       ·
        try simp only [decide_eq_true_eq, decide_eq_false_iff_not, Bool.not_eq_true', Bool.not_eq_false', Int.not_lt, Int.not_le, ne_eq, Decidable.not_not, bne_iff_ne, beq_iff_eq, not_true_eq_false, not_false_eq_true] at hc6
        first
        | (exfalso; omega)
        | skip
          refine x_skip ?_
          refine hK3 _ _ ?_
          refine x_seq fun K15 hK15 => ?_
          refine x_region ?_
          refine s_go (s_assign) ?_
          try simp only [opv, n1, n2, n3, n4, Value.cells]
          refine x_nil ?_
          refine hK15 _ _ ?_
          refine x_ret ?_
          refine r_tmp rfl ?_
          exact ⟨by unfold cmpR; cases h1 : leqP (normP l) (normP r) <;> cases h2 : leqP (normP r) (normP l) <;> first | rfl | simp_all, hS.ext_of⟩
end Go.Proofs.Ytmgacmkikefpjaa
set_option linter.unusedSimpArgs false
set_option linter.unusedVariables false
set_option maxHeartbeats 1000000
set_option maxRecDepth 100000
namespace Go.Proofs.Ytmgacmkikefpjaa
open Go.RowKit

def topQ (x : List (List Int)) (rs : List Rw) : Bool := rs.all fun y => !decide (cmpR x y.l = 1)
def pkQ (rs : List Rw) : Nat → List Int
  | 0 => []
  | k + 1 => if topQ (rs.getD k rw0).l rs = true then pkQ rs k ++ [(k : Int)] else pkQ rs k
theorem pkQ_len (rs : List Rw) : ∀ k, (pkQ rs k).length ≤ k
  | 0 => Nat.le_refl _
  | k + 1 => by have := pkQ_len rs k; rw [pkQ]; split <;> simp <;> omega
theorem rw_here {rs : List Rw} {j : Nat} (hj : j < rs.length) : rs.getD j rw0 = rs[j] := by rw [List.getD_eq_getElem?_getD, List.getElem?_eq_getElem hj]; rfl
theorem topQ_take {x : List (List Int)} {rs : List Rw} {j : Nat} {y : Rw} (hj : j < rs.length) (hy : rs.getD j rw0 = y) : topQ x (rs.take (j + 1)) = (topQ x (rs.take j) && !decide (cmpR x y.l = 1)) := by
  unfold topQ
  rw [List.take_succ_eq_append_getElem hj, List.all_append, ← rw_here hj, hy]
  simp only [List.all_cons, List.all_nil, Bool.and_true]
theorem topQ_no {x : List (List Int)} {rs : List Rw} {j : Nat} {y : Rw} (hj : j < rs.length) (hy : rs.getD j rw0 = y) (h : cmpR x y.l = 1) : topQ x rs = false := by
  unfold topQ
  rw [List.all_eq_false]
  exact ⟨y, rws_mem hj hy, by simp [h]⟩
theorem pkQ_mem {rs : List Rw} {i : Int} : ∀ {k : Nat}, i ∈ pkQ rs k → ∃ n : Nat, n < k ∧ i = n ∧ topQ (rs.getD n rw0).l rs = true
  | 0, h => by cases h
  | k + 1, h => by
    rw [pkQ] at h
    split at h
    · next ht =>
      rcases List.mem_append.1 h with h | h
      · obtain ⟨n, h1, h2⟩ := pkQ_mem h
        exact ⟨n, by omega, h2⟩
      · rw [List.mem_singleton] at h; exact ⟨k, by omega, h, ht⟩
    · obtain ⟨n, h1, h2⟩ := pkQ_mem h
      exact ⟨n, by omega, h2⟩
theorem pkQ_has {rs : List Rw} {n : Nat} (ht : topQ (rs.getD n rw0).l rs = true) : ∀ {k : Nat}, n < k → (n : Int) ∈ pkQ rs k
  | 0, h => by omega
  | k + 1, h => by
    rw [pkQ]
    by_cases e : n = k
    · subst e; rw [if_pos ht]; simp
    · have := pkQ_has ht (k := k) (by omega)
      split
      · exact List.mem_append_left _ this
      · exact this
def chnA (rs : List Rw) (k : Nat) : Bool := decide (k = 0) || !decide (1 < cmpR (rs.getD (k - 1) rw0).l (rs.getD k rw0).l)
def chnP (rs : List Rw) : Nat → Bool
  | 0 => true
  | k + 1 => chnP rs k && chnA rs k
theorem chn_no {rs : List Rw} {k : Nat} (h : chnA rs k = false) : ∀ {n : Nat}, k < n → chnP rs n = false
  | 0, h2 => by omega
  | n + 1, h2 => by
    rw [chnP]
    by_cases e : k = n
    · subst e; rw [h, Bool.and_false]
    · rw [chn_no h (by omega), Bool.false_and]
/-- the rows at those places -/
def highR (rs : List Rw) (p : List Int) : List Rw := p.map fun i => rs.getD i.toNat rw0
theorem fmax_le {l : List Nat} {b : Nat} (h : ∀ x ∈ l, x ≤ b) : l.foldr max 0 ≤ b := by
  induction l with
  | nil => exact Nat.zero_le _
  | cons a l ih => exact Nat.max_le.2 ⟨h a (by simp), ih fun x hx => h x (by simp [hx])⟩
theorem le_fmax {l : List Nat} {x : Nat} (h : x ∈ l) : x ≤ l.foldr max 0 := by
  induction l with
  | nil => cases h
  | cons a l ih =>
    rw [List.foldr_cons]
    rcases List.mem_cons.1 h with rfl | h
    · exact Nat.le_max_left _ _
    · exact Nat.le_trans (ih h) (Nat.le_max_right _ _)
theorem flat_aok : ∀ {rs : List Rw}, (∀ r ∈ rs, AOks r.l) → AOks (flatR rs)
  | [], _ => AOks.nil
  | r :: rs, h => (h r (by simp)).app (flat_aok fun q hq => h q (by simp [hq]))
theorem rnk_flat (k : List Int) : ∀ {rs : List Rw}, (∀ r ∈ rs, AOks r.l) → rnk (fnd k (normP (flatR rs))) = (rs.map fun r => rnk (fnd k (normP r.l))).foldr max 0
  | [], _ => rfl
  | r :: rs, h => by
    have e : flatR (r :: rs) = r.l ++ flatR rs := rfl
    have h2 : ∀ q ∈ rs, AOks q.l := fun q hq => h q (by simp [hq])
    rw [e, val_join (h r (by simp)) (flat_aok h2), rnk_flat k h2]; rfl
theorem cnt_lt {α : Type} {p q : α → Bool} : ∀ {l : List α}, (∀ x ∈ l, p x = true → q x = true) → (∃ x ∈ l, q x = true ∧ p x = false) → (l.filter p).length < (l.filter q).length
  | [], _, ⟨x, hx, _⟩ => by cases hx
  | a :: l, h, ⟨x, hx, h1, h2⟩ => by
    have hle : (l.filter p).length ≤ (l.filter q).length := by
      rw [← List.countP_eq_length_filter, ← List.countP_eq_length_filter]
      exact List.countP_mono_left fun y hy => h y (by simp [hy])
    rcases List.mem_cons.1 hx with rfl | hx
    · rw [List.filter_cons_of_neg (by rw [h2]; decide), List.filter_cons_of_pos h1, List.length_cons]; omega
    · have := cnt_lt (p := p) (q := q) (l := l) (fun y hy => h y (by simp [hy])) ⟨x, hx, h1, h2⟩
      cases hp : p a
      · rw [List.filter_cons_of_neg (by rw [hp]; decide)]
        cases hq : q a
        · rw [List.filter_cons_of_neg (by rw [hq]; decide)]; exact this
        · rw [List.filter_cons_of_pos hq, List.length_cons]; omega
      · rw [List.filter_cons_of_pos hp, List.filter_cons_of_pos (h a (by simp) hp), List.length_cons, List.length_cons]; omega
theorem cmp_one {l r : List (List Int)} : cmpR l r = 1 ↔ leqP (normP l) (normP r) = true ∧ leqP (normP r) (normP l) = false := by
  unfold cmpR
  cases leqP (normP l) (normP r) <;> cases leqP (normP r) (normP l) <;> simp
theorem leqN {l r : List (List Int)} (hl : AOks l) (hr : AOks r) : leqP (normP l) (normP r) = true ↔ ∀ k, rnk (fnd k (normP l)) ≤ rnk (fnd k (normP r)) := leq_iff (norm_sta hl) (norm_sta hr).ok
theorem top_above {rs : List Rw} (hok : ∀ r ∈ rs, AOks r.l) : ∀ (n : Nat) (r : Rw), r ∈ rs → (rs.filter fun q => decide (cmpR r.l q.l = 1)).length ≤ n → ∃ t ∈ rs, topQ t.l rs = true ∧ ∀ k, rnk (fnd k (normP r.l)) ≤ rnk (fnd k (normP t.l)) := by
  intro n
  induction n with
  | zero =>
    intro r hr h
    refine ⟨r, hr, ?_, fun k => Nat.le_refl _⟩
    rw [topQ, List.all_eq_true]
    intro q hq
    have h2 := List.eq_nil_of_length_eq_zero (Nat.le_zero.1 h)
    rw [List.filter_eq_nil_iff] at h2
    simpa using h2 q hq
  | succ n ih =>
    intro r hr h
    cases ht : topQ r.l rs
    · rw [topQ, List.all_eq_false] at ht
      obtain ⟨q, hq, hc⟩ := ht
      have hc : cmpR r.l q.l = 1 := by simpa using hc
      obtain ⟨c1, c2⟩ := cmp_one.1 hc
      have l1 := (leqN (hok r hr) (hok q hq)).1 c1
      have hlt : (rs.filter fun s => decide (cmpR q.l s.l = 1)).length < (rs.filter fun s => decide (cmpR r.l s.l = 1)).length := by
        refine cnt_lt (fun s hs h3 => ?_) ⟨q, hq, decide_eq_true hc, decide_eq_false fun h3 => ?_⟩
        · obtain ⟨d1, d2⟩ := cmp_one.1 (of_decide_eq_true h3)
          have l2 := (leqN (hok q hq) (hok s hs)).1 d1
          refine decide_eq_true (cmp_one.2 ⟨(leqN (hok r hr) (hok s hs)).2 fun k => Nat.le_trans (l1 k) (l2 k), ?_⟩)
          cases h4 : leqP (normP s.l) (normP r.l)
          · rfl
          · have l3 := (leqN (hok s hs) (hok r hr)).1 h4
            rw [(leqN (hok s hs) (hok q hq)).2 fun k => Nat.le_trans (l3 k) (l1 k)] at d2; cases d2
        · obtain ⟨d1, d2⟩ := cmp_one.1 h3
          rw [d1] at d2; cases d2
      obtain ⟨t, t1, t2, t3⟩ := ih q hq (by omega)
      exact ⟨t, t1, t2, fun k => Nat.le_trans (l1 k) (t3 k)⟩
    · exact ⟨r, hr, ht, fun k => Nat.le_refl _⟩
theorem high_mem {rs : List Rw} {r : Rw} : r ∈ highR rs (pkQ rs rs.length) ↔ r ∈ rs ∧ topQ r.l rs = true := by
  rw [highR, List.mem_map]
  constructor
  · rintro ⟨i, hi, rfl⟩
    obtain ⟨n, h1, rfl, h3⟩ := pkQ_mem hi
    exact ⟨rws_mem h1 rfl, h3⟩
  · rintro ⟨hr, ht⟩
    obtain ⟨n, hn, rfl⟩ := List.getElem_of_mem hr
    refine ⟨(n : Int), pkQ_has (by rw [rw_here hn]; exact ht) hn, ?_⟩
    exact rw_here hn
theorem tops_join {rs : List Rw} (hok : ∀ r ∈ rs, AOks r.l) : normP (flatR (highR rs (pkQ rs rs.length))) = normP (flatR rs) := by
  have hok2 : ∀ r ∈ highR rs (pkQ rs rs.length), AOks r.l := fun r hr => hok r (high_mem.1 hr).1
  refine sta_rnk (norm_sta (flat_aok hok2)) (norm_sta (flat_aok hok)) fun k => ?_
  rw [rnk_flat k hok2, rnk_flat k hok]
  refine Nat.le_antisymm (fmax_le fun x hx => ?_) (fmax_le fun x hx => ?_)
  · obtain ⟨r, hr, rfl⟩ := List.mem_map.1 hx
    exact le_fmax (List.mem_map.2 ⟨r, (high_mem.1 hr).1, rfl⟩)
  · obtain ⟨r, hr, rfl⟩ := List.mem_map.1 hx
    obtain ⟨t, t1, t2, t3⟩ := top_above hok _ r hr (Nat.le_refl _)
    exact Nat.le_trans (t3 k) (le_fmax (List.mem_map.2 ⟨t, high_mem.2 ⟨t1, t2⟩, rfl⟩))
theorem high_take {rs : List Rw} {p : List Int} {j : Nat} (hj : j < p.length) : highR rs (p.take (j + 1)) = highR rs (p.take j) ++ [rs.getD (p.getD j 0).toNat rw0] := by
  have e : p.getD j 0 = p[j] := by rw [List.getD_eq_getElem?_getD, List.getElem?_eq_getElem hj]; rfl
  rw [highR, List.take_succ_eq_append_getElem hj, List.map_append, e]; rfl
theorem RwOk.ext {w w' : World} {r : Rw} (h : RwOk w r) (hE : Ext w w') : RwOk w' r := ⟨Res.holds_ext (r := .rd r.A 21 r.l.length (arows r.l)) h.rd hE, h.ok⟩
theorem flat_bnd : ∀ {rs : List Rw} {n : Nat}, (∀ r ∈ rs, r.l.length ≤ n) → (flatR rs).length ≤ n * rs.length
  | [], _, _ => by simp [flatR]
  | r :: rs, n, h => by
    have h1 := flat_bnd fun q hq => h q (List.mem_cons_of_mem r hq)
    have h2 := h r (List.mem_cons_self ..)
    have e : flatR (r :: rs) = r.l ++ flatR rs := rfl
    rw [e, List.length_append, List.length_cons, Nat.mul_succ]; omega
theorem RwOk.at {w0 w : World} {rs : List Rw} {k : Nat} {r : Rw} (h : ∀ r ∈ rs, RwOk w0 r) (hE : Ext w0 w) (hk : k < rs.length) (hr : rs.getD k rw0 = r) : Rd w r.A 21 r.l.length (arows r.l) ∧ AOks r.l :=
  ⟨Res.holds_ext (r := .rd r.A 21 r.l.length (arows r.l)) (h r (rws_mem hk hr)).rd hE, (h r (rws_mem hk hr)).ok⟩
end Go.Proofs.Ytmgacmkikefpjaa
set_option linter.unusedSimpArgs false
set_option linter.unusedVariables false
set_option maxHeartbeats 1000000
set_option maxRecDepth 100000
namespace Go.Proofs.Ytmgacmkikefpjaa
open Go.RowKit
theorem c_ref01Same (w0 : World) (A B : Option Addr) (n m c d : Nat) (a b : List Int) (ha : Rd w0 A 1 n (a.map (Value.int .i64))) (hb : Rd w0 B 1 m (b.map (Value.int .i64))) (hal : a.length = n) (hbl : b.length = m) (hn : n ≤ 140737488355328) :
    CallR Try.prog 53 #[.slice A n c, .slice B m d] w0 fun v w' => v = .bool (decide (a = b)) ∧ Ext w0 w' := by
 have hS := St.rd2 (S := NoB) ha hb
 refine c_enter (l := [.slice A n c, .slice B m d, undef, undef, undef, undef, undef, undef, undef, undef, undef, undef, undef, undef, undef, undef, undef, undef, undef, undef, undef, undef, undef, undef, undef, undef]) Try.func53 rfl (by simp only [Try.ntmps53, List.size_toArray, List.length_cons, List.length_nil, Nat.reduceAdd, Nat.reduceSub, Array.replicate_succ, Array.replicate_zero, List.push_toArray, List.append_toArray, List.nil_append, List.cons_append]) ?_
 refine x_seq fun K1 hK1 => ?_
 refine x_region ?_
 refine s_go (s_assign) ?_
 try simp only [opv, n1, n2, n3, n4, Value.cells]
 refine x_nil ?_
 refine hK1 _ _ ?_
 refine x_seq fun K2 hK2 => ?_
 refine x_seq fun K3 hK3 => ?_
 refine x_region ?_
 refine s_go (s_move) ?_
 try simp only [opv, n1, n2, n3, n4, Value.cells]
 refine s_go (s_len_sl Try.underlying62) ?_
 try simp only [opv, n1, n2, n3, n4, Value.cells]
 refine s_go (s_move) ?_
 try simp only [opv, n1, n2, n3, n4, Value.cells]
 refine s_go (s_len_sl Try.underlying62) ?_
 try simp only [opv, n1, n2, n3, n4, Value.cells]
 refine s_go (s_neq) ?_
 try simp only [opv, n1, n2, n3, n4, Value.cells]
 refine x_nil ?_
 refine hK3 _ _ ?_
 refine x_cond (ht := fun hc1 => ?_) (hf := fun hc1 => ?_)
 ·
  try simp only [decide_eq_true_eq, decide_eq_false_iff_not, Bool.not_eq_true', Bool.not_eq_false', Int.not_lt, Int.not_le, ne_eq, Decidable.not_not, bne_iff_ne, beq_iff_eq, not_true_eq_false, not_false_eq_true] at hc1
  have hne : ¬ a = b := fun h => by subst h; omega
  refine x_seq fun K4 hK4 => ?_
  refine x_region ?_
  refine s_go (s_assign) ?_
  try simp only [opv, n1, n2, n3, n4, Value.cells]
  refine x_nil ?_
  refine hK4 _ _ ?_
  refine x_ret ?_
  refine r_tmp rfl ?_
  exact ⟨by simp [hne], hS.ext_of⟩
 ·
  try simp only [decide_eq_true_eq, decide_eq_false_iff_not, Bool.not_eq_true', Bool.not_eq_false', Int.not_lt, Int.not_le, ne_eq, Decidable.not_not, bne_iff_ne, beq_iff_eq, not_true_eq_false, not_false_eq_true] at hc1
  obtain rfl : n = m := by omega
  refine x_skip ?_
  refine hK2 _ _ ?_
  refine x_seq fun K5 hK5 => ?_
  refine x_seq fun K6 hK6 => ?_
  refine x_region ?_
  refine s_go (s_assign) ?_
  try simp only [opv, n1, n2, n3, n4, Value.cells]
  refine x_nil ?_
  refine hK6 _ _ ?_
  refine x_block ?_
  refine x_loop [4, 5, 11, 12, 13, 14, 15, 16, 17, 18, 19, 20, 21, 22, 23, 24, 25] (fun m f w => ∃ k : Nat, k ≤ n ∧ m = n - k ∧ f 5 = .int .i64 (k : Int) ∧ a.take k = b.take k ∧ St NoB w0 w [.rd A 1 n (a.map (Value.int .i64)), .rd B 1 n (b.map (Value.int .i64))]) (n) ?init1 (fun m1 f1 wl1 hI => ?_)
  case init1 =>
   try simp only [opv, n1, n2, n3, n4, Value.cells]
   exact ⟨0, by omega, rfl, rfl, rfl, hS⟩
  obtain ⟨k, hk, hm, h5, hab, hS⟩ := hI
  simp only [clob, List.foldl, n3, n4, h5]
  refine x_seq fun K7 hK7 => ?_
  refine x_seq fun K8 hK8 => ?_
  refine x_region ?_
  refine s_go (s_move) ?_
  try simp only [opv, n1, n2, n3, n4, Value.cells]
  refine s_go (s_move) ?_
  try simp only [opv, n1, n2, n3, n4, Value.cells]
  refine s_go (s_len_sl Try.underlying62) ?_
  try simp only [opv, n1, n2, n3, n4, Value.cells]
  refine s_go (s_lss) ?_
  try simp only [opv, n1, n2, n3, n4, Value.cells]
  refine x_nil ?_
  refine hK8 _ _ ?_
  refine x_cond (ht := fun hc2 => ?_) (hf := fun hc2 => ?_)
  ·
   try simp only [decide_eq_true_eq, decide_eq_false_iff_not, Bool.not_eq_true', Bool.not_eq_false', Int.not_lt, Int.not_le, ne_eq, Decidable.not_not, bne_iff_ne, beq_iff_eq, not_true_eq_false, not_false_eq_true] at hc2
   refine x_skip ?_
   refine hK7 _ _ ?_
   refine x_seq fun K9 hK9 => ?_
   refine x_block ?_
   refine x_seq fun K10 hK10 => ?_
   refine x_quiet (by kernel_rfl) (by kernel_rfl) hS ?_
   refine q_go (fun w hS => s_move) ?_
   try simp only [opv, n1, n2, n3, n4, Value.cells]
   refine q_go (fun w hS => s_move) ?_
   try simp only [opv, n1, n2, n3, n4, Value.cells]
   first | refine q_go (fun w hS => m_indexAddr_rd Try.underlying62 ti3 (hS := hS)) ?_ | refine q_go (fun w hS => m_indexAddr_vec Try.underlying62 ti3 (hS := hS)) ?_
   try simp only [opv, n1, n2, n3, n4, Value.cells, Nat.mul_one, Nat.zero_add, Int.toNat_natCast, Int.reduceToNat]
   first | refine q_go (fun w hS => m_load_obj Try.underlying3 (hS := hS)) ?_ | refine q_go (fun w hS => m_load_bx Try.underlying3 (hS := hS)) ?_ | refine q_go (fun w hS => m_load_rd Try.underlying3 (hS := hS)) ?_ | refine q_go (fun w hS => m_load_vec Try.underlying3 (hS := hS)) ?_
   try simp only [opv, n1, n2, n3, n4, Value.cells, List.getElem_toArray, List.getElem_cons_zero, List.getElem_cons_succ]
   refine q_go (fun w hS => s_move) ?_
   try simp only [opv, n1, n2, n3, n4, Value.cells]
   refine q_go (fun w hS => s_move) ?_
   try simp only [opv, n1, n2, n3, n4, Value.cells]
   first | refine q_go (fun w hS => m_indexAddr_rd Try.underlying62 ti3 (hS := hS)) ?_ | refine q_go (fun w hS => m_indexAddr_vec Try.underlying62 ti3 (hS := hS)) ?_
   try simp only [opv, n1, n2, n3, n4, Value.cells, Nat.mul_one, Nat.zero_add, Int.toNat_natCast, Int.reduceToNat]
   first | refine q_go (fun w hS => m_load_obj Try.underlying3 (hS := hS)) ?_ | refine q_go (fun w hS => m_load_bx Try.underlying3 (hS := hS)) ?_ | refine q_go (fun w hS => m_load_rd Try.underlying3 (hS := hS)) ?_ | refine q_go (fun w hS => m_load_vec Try.underlying3 (hS := hS)) ?_
   try simp only [opv, n1, n2, n3, n4, Value.cells, List.getElem_toArray, List.getElem_cons_zero, List.getElem_cons_succ]
   refine q_go (fun w hS => s_neq) ?_
   try simp only [opv, n1, n2, n3, n4, Value.cells]
   clear hS
   refine q_nil fun w1 hS => ?_
   refine hK10 _ _ ?_
   refine x_cond (ht := fun hc3 => ?_) (hf := fun hc3 => ?_)
   ·
    try simp only [decide_eq_true_eq, decide_eq_false_iff_not, Bool.not_eq_true', Bool.not_eq_false', Int.not_lt, Int.not_le, ne_eq, Decidable.not_not, bne_iff_ne, beq_iff_eq, not_true_eq_false, not_false_eq_true] at hc3
    have hne : ¬ a = b := fun h => by subst h; exact hc3 rfl
    refine x_seq fun K11 hK11 => ?_
    refine x_region ?_
    refine s_go (s_assign) ?_
    try simp only [opv, n1, n2, n3, n4, Value.cells]
    refine x_nil ?_
    refine hK11 _ _ ?_
    refine x_ret ?_
    refine r_tmp rfl ?_
    exact ⟨by simp [hne], hS.ext_of⟩
   ·
    try simp only [decide_eq_true_eq, decide_eq_false_iff_not, Bool.not_eq_true', Bool.not_eq_false', Int.not_lt, Int.not_le, ne_eq, Decidable.not_not, bne_iff_ne, beq_iff_eq, not_true_eq_false, not_false_eq_true] at hc3
    refine x_skip ?_
    refine hK9 _ _ ?_
    refine x_region ?_
    refine s_go (s_move) ?_
    try simp only [opv, n1, n2, n3, n4, Value.cells]
    refine s_go (s_add (hc := by first | exact wr_i64 (by omega) (by omega) | rfl)) ?_
    try simp only [opv, n1, n2, n3, n4, Value.cells]
    refine s_go (s_assign) ?_
    try simp only [opv, n1, n2, n3, n4, Value.cells]
    refine x_nil ?_
    refine loop_back (m' := n - (k + 1)) (by simp only [clob, List.foldl, n1, n2, n3, n4]) ?_ ?_
    · try simp only [opv, n1, n2, n3, n4, Value.cells]
      exact ⟨k + 1, by omega, by omega, by rfl, by rw [take_succ_getD (by omega), take_succ_getD (by omega), hab, hc3], hS⟩
    · omega
  ·
   try simp only [decide_eq_true_eq, decide_eq_false_iff_not, Bool.not_eq_true', Bool.not_eq_false', Int.not_lt, Int.not_le, ne_eq, Decidable.not_not, bne_iff_ne, beq_iff_eq, not_true_eq_false, not_false_eq_true] at hc2
   obtain rfl : k = n := by omega
   have heq : a = b := by rw [← List.take_length (l := a), ← List.take_length (l := b), hal, hbl]; exact hab
   refine x_exit (look_here ?_)
   refine hK5 _ _ ?_
   refine x_seq fun K12 hK12 => ?_
   refine x_region ?_
   refine s_go (s_assign) ?_
   try simp only [opv, n1, n2, n3, n4, Value.cells]
   refine x_nil ?_
   refine hK12 _ _ ?_
   refine x_ret ?_
   refine r_tmp rfl ?_
   exact ⟨by simp [heq], hS.ext_of⟩
end Go.Proofs.Ytmgacmkikefpjaa
set_option linter.unusedSimpArgs false
set_option linter.unusedVariables false
set_option maxHeartbeats 2000000
set_option maxRecDepth 100000
namespace Go.Proofs.Ytmgacmkikefpjaa
open Go.RowKit
theorem c_ref11Light (w0 : World) (B : Option Addr) (d : Nat) (rs : List Rw) (hB : Rd w0 B 1 rs.length (rs.map rwV)) (hrs : ∀ r ∈ rs, RwOk w0 r) (hm : rs.length ≤ 1000000000000000)  :
    CallR Try.prog 50 #[.slice B rs.length d] w0 fun v w' => (∃ b : Bool, v = .bool b ∧ (b = true → rs.length ≤ 8 ∧ ∀ r ∈ rs, r.l.length ≤ 30)) ∧ Ext w0 w' := by
 have hS := St.rd1 (S := NoB) hB
 have hrl := rws_len rs
 refine c_enter (l := [.slice B rs.length d, undef, undef, undef, undef, undef, undef, undef, undef, undef, undef, undef, undef, undef, undef, undef, undef, undef, undef, undef, undef, undef, undef]) Try.func50 rfl (by simp only [Try.ntmps50, List.size_toArray, List.length_cons, List.length_nil, Nat.reduceAdd, Nat.reduceSub, Array.replicate_succ, Array.replicate_zero, List.push_toArray, List.append_toArray, List.nil_append, List.cons_append]) ?_
 refine x_seq fun K1 hK1 => ?_
 refine x_region ?_
 refine s_go (s_assign) ?_
 try simp only [opv, n1, n2, n3, n4, Value.cells]
 refine x_nil ?_
 refine hK1 _ _ ?_
 refine x_seq fun K2 hK2 => ?_
 refine x_seq fun K3 hK3 => ?_
 refine x_region ?_
 refine s_go (s_assign) ?_
 try simp only [opv, n1, n2, n3, n4, Value.cells]
 refine x_nil ?_
 refine hK3 _ _ ?_
 refine x_block ?_
 refine x_loop [2, 3, 4, 5, 6, 7, 8, 9, 10, 11, 12, 13, 14, 15, 16, 17, 18, 19] (fun m f w => ∃ k : Nat, k ≤ rs.length ∧ m = rs.length - k ∧ f 3 = .int .i64 (k : Int) ∧ (∀ r ∈ rs.take k, r.l.length ≤ 30) ∧ St NoB w0 w [.rd B 1 rs.length (rs.map rwV)]) (rs.length) ?init1 (fun m1 f1 wl1 hI => ?_)
 case init1 =>
  try simp only [opv, n1, n2, n3, n4, Value.cells]
  exact ⟨0, by omega, rfl, rfl, (fun r h => by cases h), hS⟩
 obtain ⟨k, hk0, hmk, h3, ht30, hS⟩ := hI
 simp only [clob, List.foldl, n3, n4, h3]
 obtain ⟨r, hr⟩ : ∃ r, rs.getD k rw0 = r := ⟨_, rfl⟩
 refine x_seq fun K4 hK4 => ?_
 refine x_seq fun K5 hK5 => ?_
 refine x_region ?_
 refine s_go (s_move) ?_
 try simp only [opv, n1, n2, n3, n4, Value.cells]
 refine s_go (s_move) ?_
 try simp only [opv, n1, n2, n3, n4, Value.cells]
 refine s_go (s_len_sl Try.underlying22) ?_
 try simp only [opv, n1, n2, n3, n4, Value.cells]
 refine s_go (s_lss) ?_
 try simp only [opv, n1, n2, n3, n4, Value.cells]
 refine s_go (s_move) ?_
 try simp only [opv, n1, n2, n3, n4, Value.cells]
 refine s_part 8 rfl (fun hp1 => ?_) (fun hp1 => ?_)
 ·
  try simp only [n3, n4]
  try simp only [decide_eq_true_eq, decide_eq_false_iff_not, Bool.not_eq_true', Bool.not_eq_false', Int.not_lt, Int.not_le, ne_eq, Decidable.not_not] at hp1
  refine g_on (yi (t := 8) rfl rfl) ?_
  refine s_go (s_move) ?_
  try simp only [opv, n1, n2, n3, n4, Value.cells]
  refine g_on (yi (t := 8) rfl rfl) ?_
  refine s_go (s_lss) ?_
  try simp only [opv, n1, n2, n3, n4, Value.cells]
  first | refine s_go (s_pick_t) ?_ | refine s_go (s_pick_f) ?_
  try simp only [opv, n1, n2, n3, n4, Value.cells]
  refine x_nil ?_
  refine hK5 _ _ ?_
  refine x_cond (ht := fun hc1 => ?_) (hf := fun hc1 => ?_)
  ·
   try simp only [decide_eq_true_eq, decide_eq_false_iff_not, Bool.not_eq_true', Bool.not_eq_false', Int.not_lt, Int.not_le, ne_eq, Decidable.not_not, bne_iff_ne, beq_iff_eq, not_true_eq_false, not_false_eq_true] at hc1
   refine x_skip ?_
   refine hK4 _ _ ?_
   refine x_seq fun K6 hK6 => ?_
   refine x_block ?_
   refine x_seq fun K7 hK7 => ?_
   refine x_region ?_
   refine s_go (s_move) ?_
   try simp only [opv, n1, n2, n3, n4, Value.cells]
   refine s_go (s_move) ?_
   try simp only [opv, n1, n2, n3, n4, Value.cells]
   first | refine s_go (m_indexAddr_rd Try.underlying22 ti24 (hS := hS)) ?_ | refine s_go (m_indexAddr_vec Try.underlying22 ti24 (hS := hS)) ?_
   try simp only [opv, n1, n2, n3, n4, Value.cells, Nat.mul_one, Nat.zero_add, Int.toNat_natCast, Int.reduceToNat]
   first | refine s_go (m_load_obj Try.underlying24 (hS := hS) (hv := rws_get (by omega) hr)) ?_ | refine s_go (m_load_bx Try.underlying24 (hS := hS) (hv := rws_get (by omega) hr)) ?_ | refine s_go (m_load_rd Try.underlying24 (hS := hS) (hv := rws_get (by omega) hr)) ?_ | refine s_go (m_load_vec Try.underlying24 (hS := hS) (hv := rws_get (by omega) hr)) ?_
   try simp only [opv, n1, n2, n3, n4, Value.cells, List.getElem_toArray, List.getElem_cons_zero, List.getElem_cons_succ]
   refine s_go (s_len_sl Try.underlying24) ?_
   try simp only [opv, n1, n2, n3, n4, Value.cells]
   refine s_go (s_gtr) ?_
   try simp only [opv, n1, n2, n3, n4, Value.cells]
   refine x_nil ?_
   refine hK7 _ _ ?_
   refine x_cond (ht := fun hc2 => ?_) (hf := fun hc2 => ?_)
   ·
    try simp only [decide_eq_true_eq, decide_eq_false_iff_not, Bool.not_eq_true', Bool.not_eq_false', Int.not_lt, Int.not_le, ne_eq, Decidable.not_not, bne_iff_ne, beq_iff_eq, not_true_eq_false, not_false_eq_true] at hc2
    refine x_seq fun K8 hK8 => ?_
    refine x_region ?_
    refine s_go (s_assign) ?_
    try simp only [opv, n1, n2, n3, n4, Value.cells]
    refine x_nil ?_
    refine hK8 _ _ ?_
    refine x_ret ?_
    refine r_tmp rfl ?_
    first | exact ⟨⟨_, rfl, fun hb => by cases hb⟩, hS.ext_of⟩ | exact ⟨⟨_, rfl, fun hb => by have hb2 := of_decide_eq_true hb; have e : k = rs.length := (by omega); rw [e, List.take_of_length_le (Nat.le_refl _)] at ht30; exact ⟨by omega, ht30⟩⟩, hS.ext_of⟩
   ·
    try simp only [decide_eq_true_eq, decide_eq_false_iff_not, Bool.not_eq_true', Bool.not_eq_false', Int.not_lt, Int.not_le, ne_eq, Decidable.not_not, bne_iff_ne, beq_iff_eq, not_true_eq_false, not_false_eq_true] at hc2
    refine x_skip ?_
    refine hK6 _ _ ?_
    refine x_region ?_
    refine s_go (s_move) ?_
    try simp only [opv, n1, n2, n3, n4, Value.cells]
    refine s_go (s_add (hc := by first | exact wr_i64 (by omega) (by omega) | rfl)) ?_
    try simp only [opv, n1, n2, n3, n4, Value.cells]
    refine s_go (s_assign) ?_
    try simp only [opv, n1, n2, n3, n4, Value.cells]
    refine x_nil ?_
    refine loop_back (m' := rs.length - (k + 1)) (by simp only [clob, List.foldl, n1, n2, n3, n4]) ?_ ?_
    · try simp only [opv, n1, n2, n3, n4, Value.cells]
      exact ⟨k + 1, by omega, by omega, by rfl, (fun q hq => by rw [List.take_succ_eq_append_getElem (by omega)] at hq; rcases List.mem_append.1 hq with hq | hq; exact ht30 q hq; rw [List.mem_singleton] at hq; rw [hq, ← rw_here (by omega), hr]; omega), hS⟩
    · omega
  ·
   try simp only [decide_eq_true_eq, decide_eq_false_iff_not, Bool.not_eq_true', Bool.not_eq_false', Int.not_lt, Int.not_le, ne_eq, Decidable.not_not, bne_iff_ne, beq_iff_eq, not_true_eq_false, not_false_eq_true] at hc1
   refine x_exit (look_here ?_)
   refine hK2 _ _ ?_
   refine x_seq fun K9 hK9 => ?_
   refine x_region ?_
   refine s_go (s_move) ?_
   try simp only [opv, n1, n2, n3, n4, Value.cells]
   refine s_go (s_len_sl Try.underlying22) ?_
   try simp only [opv, n1, n2, n3, n4, Value.cells]
   refine s_go (s_leq) ?_
   try simp only [opv, n1, n2, n3, n4, Value.cells]
   refine s_go (s_assign) ?_
   try simp only [opv, n1, n2, n3, n4, Value.cells]
   refine x_nil ?_
   refine hK9 _ _ ?_
   refine x_ret ?_
   refine r_tmp rfl ?_
   first | exact ⟨⟨_, rfl, fun hb => by cases hb⟩, hS.ext_of⟩ | exact ⟨⟨_, rfl, fun hb => by have hb2 := of_decide_eq_true hb; have e : k = rs.length := (by omega); rw [e, List.take_of_length_le (Nat.le_refl _)] at ht30; exact ⟨by omega, ht30⟩⟩, hS.ext_of⟩
 ·
  try simp only [n3, n4]
  try simp only [decide_eq_true_eq, decide_eq_false_iff_not, Bool.not_eq_true', Bool.not_eq_false', Int.not_lt, Int.not_le, ne_eq, Decidable.not_not] at hp1
  refine g_off (yi (t := 8) rfl rfl) ?_
  try simp only [opv, n1, n2, n3, n4, Value.cells]
  refine g_off (yi (t := 8) rfl rfl) ?_
  try simp only [opv, n1, n2, n3, n4, Value.cells]
  first | refine s_go (s_pick_t) ?_ | refine s_go (s_pick_f) ?_
  try simp only [opv, n1, n2, n3, n4, Value.cells]
  refine x_nil ?_
  refine hK5 _ _ ?_
  refine x_cond_f (h := ?_)
  refine x_exit (look_here ?_)
  refine hK2 _ _ ?_
  refine x_seq fun K10 hK10 => ?_
  refine x_region ?_
  refine s_go (s_move) ?_
  try simp only [opv, n1, n2, n3, n4, Value.cells]
  refine s_go (s_len_sl Try.underlying22) ?_
  try simp only [opv, n1, n2, n3, n4, Value.cells]
  refine s_go (s_leq) ?_
  try simp only [opv, n1, n2, n3, n4, Value.cells]
  refine s_go (s_assign) ?_
  try simp only [opv, n1, n2, n3, n4, Value.cells]
  refine x_nil ?_
  refine hK10 _ _ ?_
  refine x_ret ?_
  refine r_tmp rfl ?_
  first | exact ⟨⟨_, rfl, fun hb => by cases hb⟩, hS.ext_of⟩ | exact ⟨⟨_, rfl, fun hb => by have hb2 := of_decide_eq_true hb; have e : k = rs.length := (by omega); rw [e, List.take_of_length_le (Nat.le_refl _)] at ht30; exact ⟨by omega, ht30⟩⟩, hS.ext_of⟩
theorem c_deltaTops (w0 : World) (B : Option Addr) (d : Nat) (rs : List Rw) (hB : Rd w0 B 1 rs.length (rs.map rwV)) (hrs : ∀ r ∈ rs, RwOk w0 r) (hm : rs.length ≤ 8) (h30 : ∀ r ∈ rs, r.l.length ≤ 30)  :
    CallR Try.prog 59 #[.slice B rs.length d] w0 fun v w' => ∃ A c, v = .slice A (pkQ rs rs.length).length c ∧ St NoB w0 w' [.vec A c 3 1 (pkQ rs rs.length).length ((pkQ rs rs.length).map (Value.int .i64))] := by
 have hS := St.rd1 (S := NoB) hB
 have hrl := rws_len rs
 refine c_enter (l := [.slice B rs.length d, undef, undef, undef, undef, undef, undef, undef, undef, undef, undef, undef, undef, undef, undef, undef, undef, undef, undef, undef, undef, undef, undef, undef, undef, undef, undef, undef, undef, undef, undef]) Try.func59 rfl (by simp only [Try.ntmps59, List.size_toArray, List.length_cons, List.length_nil, Nat.reduceAdd, Nat.reduceSub, Array.replicate_succ, Array.replicate_zero, List.push_toArray, List.append_toArray, List.nil_append, List.cons_append]) ?_
 refine x_seq fun K1 hK1 => ?_
 refine x_region ?_
 refine s_go (s_assign) ?_
 try simp only [opv, n1, n2, n3, n4, Value.cells]
 refine x_nil ?_
 refine hK1 _ _ ?_
 refine x_scope ?_
 refine x_seq fun K2 hK2 => ?_
 refine x_label ?_
 refine hK2 _ _ ?_
 refine x_seq fun K3 hK3 => ?_
 refine x_seq fun K4 hK4 => ?_
 refine x_region ?_
 refine s_go (s_move) ?_
 try simp only [opv, n1, n2, n3, n4, Value.cells]
 refine s_go (s_len_sl Try.underlying22) ?_
 try simp only [opv, n1, n2, n3, n4, Value.cells]
 refine s_go (s_move) ?_
 try simp only [opv, n1, n2, n3, n4, Value.cells]
 refine x_nil ?_
 refine hK4 _ _ ?_
 refine x_block ?_
 refine x_loop [2, 3, 4, 6, 9, 10, 11, 12, 13, 14, 15, 16, 17, 18, 19, 20, 21, 22, 23, 24, 25, 26, 27, 28, 29] (fun m f w => ∃ (k : Nat) (D : Option Addr) (e : Nat), k ≤ rs.length ∧ m = rs.length - k ∧ f 9 = .int .i64 (k : Int) ∧ f 2 = .slice D (pkQ rs k).length e ∧ St NoB w0 w [.vec D e 3 1 (pkQ rs k).length ((pkQ rs k).map (Value.int .i64)), .rd B 1 rs.length (rs.map rwV)]) (rs.length) ?init1 (fun m1 f1 wl1 hI => ?_)
 case init1 =>
  try simp only [opv, n1, n2, n3, n4, Value.cells]
  replace hS := hS.nil_vec 3 1
  exact ⟨0, none, 0, by omega, rfl, rfl, rfl, hS.sel (by repeat (first | exact Sel.nil | (refine Sel.cons (by repeat (first | exact Del.head | apply Del.tail)) ?_)))⟩
 obtain ⟨k, D, e, hk0, hmk, h9, h2, hS⟩ := hI
 simp only [clob, List.foldl, n3, n4, h9, h2]
 obtain ⟨x, hx⟩ : ∃ r, rs.getD k rw0 = r := ⟨_, rfl⟩
 have hpl := pkQ_len rs k
 refine x_seq fun K5 hK5 => ?_
 refine x_region ?_
 refine s_go (s_lss) ?_
 try simp only [opv, n1, n2, n3, n4, Value.cells]
 refine x_nil ?_
 refine hK5 _ _ ?_
 refine x_seq fun K6 hK6 => ?_
 refine x_cond (ht := fun hc1 => ?_) (hf := fun hc1 => ?_)
 ·
  try simp only [decide_eq_true_eq, decide_eq_false_iff_not, Bool.not_eq_true', Bool.not_eq_false', Int.not_lt, Int.not_le, ne_eq, Decidable.not_not, bne_iff_ne, beq_iff_eq, not_true_eq_false, not_false_eq_true] at hc1
  have hx3 := h30 _ (rws_mem (by omega) hx)
  refine x_skip ?_
  refine hK6 _ _ ?_
  refine x_seq fun K7 hK7 => ?_
  refine x_block ?_
  refine x_seq fun K8 hK8 => ?_
  refine x_region ?_
  refine s_go (s_move) ?_
  try simp only [opv, n1, n2, n3, n4, Value.cells]
  first | refine s_go (m_indexAddr_rd Try.underlying22 ti24 (hS := hS)) ?_ | refine s_go (m_indexAddr_vec Try.underlying22 ti24 (hS := hS)) ?_
  try simp only [opv, n1, n2, n3, n4, Value.cells, Nat.mul_one, Nat.zero_add, Int.toNat_natCast, Int.reduceToNat]
  first | refine s_go (m_load_obj Try.underlying24 (hS := hS) (hv := rws_get (by omega) hx)) ?_ | refine s_go (m_load_bx Try.underlying24 (hS := hS) (hv := rws_get (by omega) hx)) ?_ | refine s_go (m_load_rd Try.underlying24 (hS := hS) (hv := rws_get (by omega) hx)) ?_ | refine s_go (m_load_vec Try.underlying24 (hS := hS) (hv := rws_get (by omega) hx)) ?_
  try simp only [opv, n1, n2, n3, n4, Value.cells, List.getElem_toArray, List.getElem_cons_zero, List.getElem_cons_succ]
  refine s_go (s_assign) ?_
  try simp only [opv, n1, n2, n3, n4, Value.cells]
  refine s_go (s_assign) ?_
  try simp only [opv, n1, n2, n3, n4, Value.cells]
  refine x_nil ?_
  refine hK8 _ _ ?_
  refine x_seq fun K9 hK9 => ?_
  refine x_seq fun K10 hK10 => ?_
  refine x_region ?_
  refine s_go (s_move) ?_
  try simp only [opv, n1, n2, n3, n4, Value.cells]
  refine s_go (s_len_sl Try.underlying22) ?_
  try simp only [opv, n1, n2, n3, n4, Value.cells]
  refine s_go (s_move) ?_
  try simp only [opv, n1, n2, n3, n4, Value.cells]
  refine x_nil ?_
  refine hK10 _ _ ?_
  refine x_block ?_
  refine x_loop [6, 16, 17, 18, 19, 20, 21, 22, 23, 24] (fun m f w => ∃ j : Nat, j ≤ rs.length ∧ m = rs.length - j ∧ f 16 = .int .i64 (j : Int) ∧ topQ x.l (rs.take j) = true ∧ St NoB w0 w [.vec D e 3 1 (pkQ rs k).length ((pkQ rs k).map (Value.int .i64)), .rd B 1 rs.length (rs.map rwV)]) (rs.length) ?init2 (fun m2 f2 wl2 hI => ?_)
  case init2 =>
   try simp only [opv, n1, n2, n3, n4, Value.cells]
   exact ⟨0, by omega, rfl, rfl, rfl, hS⟩
  obtain ⟨j, hj0, hmj, h16, htq, hS⟩ := hI
  simp only [clob, List.foldl, n3, n4, h16]
  obtain ⟨y, hy⟩ : ∃ r, rs.getD j rw0 = r := ⟨_, rfl⟩
  refine x_seq fun K11 hK11 => ?_
  refine x_region ?_
  refine s_go (s_lss) ?_
  try simp only [opv, n1, n2, n3, n4, Value.cells]
  refine x_nil ?_
  refine hK11 _ _ ?_
  refine x_seq fun K12 hK12 => ?_
  refine x_cond (ht := fun hc2 => ?_) (hf := fun hc2 => ?_)
  ·
   try simp only [decide_eq_true_eq, decide_eq_false_iff_not, Bool.not_eq_true', Bool.not_eq_false', Int.not_lt, Int.not_le, ne_eq, Decidable.not_not, bne_iff_ne, beq_iff_eq, not_true_eq_false, not_false_eq_true] at hc2
   have hy3 := h30 _ (rws_mem (by omega) hy)
   refine x_skip ?_
   refine hK12 _ _ ?_
   refine x_seq fun K13 hK13 => ?_
   refine x_block ?_
   refine x_seq fun K14 hK14 => ?_
   refine x_region ?_
   first | refine s_go (m_indexAddr_rd Try.underlying22 ti24 (hS := hS)) ?_ | refine s_go (m_indexAddr_vec Try.underlying22 ti24 (hS := hS)) ?_
   try simp only [opv, n1, n2, n3, n4, Value.cells, Nat.mul_one, Nat.zero_add, Int.toNat_natCast, Int.reduceToNat]
   first | refine s_go (m_load_obj Try.underlying24 (hS := hS) (hv := rws_get (by omega) hy)) ?_ | refine s_go (m_load_bx Try.underlying24 (hS := hS) (hv := rws_get (by omega) hy)) ?_ | refine s_go (m_load_rd Try.underlying24 (hS := hS) (hv := rws_get (by omega) hy)) ?_ | refine s_go (m_load_vec Try.underlying24 (hS := hS) (hv := rws_get (by omega) hy)) ?_
   try simp only [opv, n1, n2, n3, n4, Value.cells, List.getElem_toArray, List.getElem_cons_zero, List.getElem_cons_succ]
   refine s_go (s_assign) ?_
   try simp only [opv, n1, n2, n3, n4, Value.cells]
   refine x_nil ?_
   refine hK14 _ _ ?_
   refine x_seq fun K15 hK15 => ?_
   refine x_region ?_
   refine s_go (s_move) ?_
   try simp only [opv, n1, n2, n3, n4, Value.cells]
   refine s_go (s_move) ?_
   try simp only [opv, n1, n2, n3, n4, Value.cells]
   refine s_call en57 ?_
   try simp only [opv, n1, n2, n3, n4, Value.cells, List.map_toArray, List.map_cons, List.map_nil, List.append_toArray, List.cons_append, List.nil_append, Array.append_empty]
   refine CallR.mono (c_deltaCmp _ x.A x.c x.l (RwOk.at hrs hS.ext_of (by omega) hx).1 (RwOk.at hrs hS.ext_of (by omega) hx).2 y.A y.c y.l (RwOk.at hrs hS.ext_of (by omega) hy).1 (RwOk.at hrs hS.ext_of (by omega) hy).2 (by omega)) ?_
   rintro _ w1 ⟨rfl, hE1⟩
   replace hS := hS.ext hE1
   try simp only [opv, n1, n2, n3, n4, Value.cells]
   refine s_go (s_eql) ?_
   try simp only [opv, n1, n2, n3, n4, Value.cells]
   refine x_nil ?_
   refine hK15 _ _ ?_
   refine x_cond (ht := fun hc3 => ?_) (hf := fun hc3 => ?_)
   ·
    try simp only [decide_eq_true_eq, decide_eq_false_iff_not, Bool.not_eq_true', Bool.not_eq_false', Int.not_lt, Int.not_le, ne_eq, Decidable.not_not, bne_iff_ne, beq_iff_eq, not_true_eq_false, not_false_eq_true] at hc3
    have htq2 := topQ_no (by omega) hy hc3
    have hst : pkQ rs (k + 1) = pkQ rs k := by rw [pkQ, hx, if_neg (by rw [htq2]; decide)]
    refine x_exit (look_on (by decide) (look_on (by decide) (look_here ?_)))
    refine hK7 _ _ ?_
    refine x_region ?_
    refine s_go (s_add (hc := by first | exact wr_i64 (by omega) (by omega) | rfl)) ?_
    try simp only [opv, n1, n2, n3, n4, Value.cells]
    refine s_go (s_move) ?_
    try simp only [opv, n1, n2, n3, n4, Value.cells]
    refine x_nil ?_
    refine loop_back (m' := rs.length - (k + 1)) (by simp only [clob, List.foldl, n1, n2, n3, n4]) ?_ ?_
    · try simp only [opv, n1, n2, n3, n4, Value.cells]
      first
      | exact ⟨k + 1, _, _, by omega, by omega, by rfl, by rw [hst, List.length_append]; rfl, by rw [hst, List.length_append]; exact hS.sel (by repeat (first | exact Sel.nil | (refine Sel.cons (by repeat (first | exact Del.head | apply Del.tail)) ?_)))⟩
      | exact ⟨k + 1, _, _, by omega, by omega, by rfl, by rw [hst], by rw [hst]; exact hS.sel (by repeat (first | exact Sel.nil | (refine Sel.cons (by repeat (first | exact Del.head | apply Del.tail)) ?_)))⟩
    · omega
   ·
    try simp only [decide_eq_true_eq, decide_eq_false_iff_not, Bool.not_eq_true', Bool.not_eq_false', Int.not_lt, Int.not_le, ne_eq, Decidable.not_not, bne_iff_ne, beq_iff_eq, not_true_eq_false, not_false_eq_true] at hc3
    have hne := hc3
    refine x_skip ?_
    refine hK13 _ _ ?_
    refine x_region ?_
    refine s_go (s_add (hc := by first | exact wr_i64 (by omega) (by omega) | rfl)) ?_
    try simp only [opv, n1, n2, n3, n4, Value.cells]
    refine s_go (s_move) ?_
    try simp only [opv, n1, n2, n3, n4, Value.cells]
    refine x_nil ?_
    refine loop_back (m' := rs.length - (j + 1)) (by simp only [clob, List.foldl, n1, n2, n3, n4]) ?_ ?_
    · try simp only [opv, n1, n2, n3, n4, Value.cells]
      exact ⟨j + 1, by omega, by omega, by rfl, by rw [topQ_take (by omega) hy, htq, decide_eq_false hne]; rfl, hS.sel (by repeat (first | exact Sel.nil | (refine Sel.cons (by repeat (first | exact Del.head | apply Del.tail)) ?_)))⟩
    · omega
  ·
   try simp only [decide_eq_true_eq, decide_eq_false_iff_not, Bool.not_eq_true', Bool.not_eq_false', Int.not_lt, Int.not_le, ne_eq, Decidable.not_not, bne_iff_ne, beq_iff_eq, not_true_eq_false, not_false_eq_true] at hc2
   obtain rfl : j = rs.length := by omega
   rw [List.take_of_length_le (Nat.le_refl _)] at htq
   have hst : pkQ rs (k + 1) = pkQ rs k ++ [(k : Int)] := by rw [pkQ, hx, if_pos htq]
   refine x_exit (look_here ?_)
   refine hK9 _ _ ?_
   refine x_region ?_
   refine s_go (s_move) ?_
   try simp only [opv, n1, n2, n3, n4, Value.cells]
   refine s_go (s_move) ?_
   try simp only [opv, n1, n2, n3, n4, Value.cells]
   refine m_buildRow (cells := #[_]) Try.underlying62 ti3 (hc := by simp only [List.map_toArray, List.map_cons, List.map_nil, opv, n1, n2, n3, n4, Value.cells, List.toList_toArray]; (repeat (refine fill_cons rfl rfl (Nat.le_of_ble_eq_true rfl) ?_)); rfl) (hS := hS) (h := fun w2 g2 hS => ?_)
   try simp only [opv, n1, n2, n3, n4, Value.cells, Array.toArray_toList] at hS ⊢
   replace hS := hS.obj_vec (sz := 1) (n := 1) rfl (by decide) .head
   refine m_append_vec Try.underlying62 ti3 (hS := hS) (news := [(k : Int)].map (Value.int .i64)) (h := fun w3 A3 C3 hS => ?_)
   try simp only [← List.map_append, ← List.map_drop, ← List.map_take, Nat.mul_one, Nat.zero_mul, Nat.sub_zero, List.drop_zero, List.nil_append, Nat.zero_add] at hS ⊢
   try simp only [opv, n1, n2, n3, n4, Value.cells, Array.toArray_toList] at hS ⊢
   refine s_go (s_assign) ?_
   try simp only [opv, n1, n2, n3, n4, Value.cells]
   refine x_nil ?_
   refine hK7 _ _ ?_
   refine x_region ?_
   refine s_go (s_add (hc := by first | exact wr_i64 (by omega) (by omega) | rfl)) ?_
   try simp only [opv, n1, n2, n3, n4, Value.cells]
   refine s_go (s_move) ?_
   try simp only [opv, n1, n2, n3, n4, Value.cells]
   refine x_nil ?_
   refine loop_back (m' := rs.length - (k + 1)) (by simp only [clob, List.foldl, n1, n2, n3, n4]) ?_ ?_
   · try simp only [opv, n1, n2, n3, n4, Value.cells]
     first
     | exact ⟨k + 1, _, _, by omega, by omega, by rfl, by rw [hst, List.length_append]; rfl, by rw [hst, List.length_append]; exact hS.sel (by repeat (first | exact Sel.nil | (refine Sel.cons (by repeat (first | exact Del.head | apply Del.tail)) ?_)))⟩
     | exact ⟨k + 1, _, _, by omega, by omega, by rfl, by rw [hst], by rw [hst]; exact hS.sel (by repeat (first | exact Sel.nil | (refine Sel.cons (by repeat (first | exact Del.head | apply Del.tail)) ?_)))⟩
   · omega
 ·
  try simp only [decide_eq_true_eq, decide_eq_false_iff_not, Bool.not_eq_true', Bool.not_eq_false', Int.not_lt, Int.not_le, ne_eq, Decidable.not_not, bne_iff_ne, beq_iff_eq, not_true_eq_false, not_false_eq_true] at hc1
  obtain rfl : k = rs.length := by omega
  refine x_exit (look_here ?_)
  refine hK3 _ _ ?_
  refine x_seq fun K16 hK16 => ?_
  refine x_region ?_
  refine s_go (s_move) ?_
  try simp only [opv, n1, n2, n3, n4, Value.cells]
  refine s_go (s_assign) ?_
  try simp only [opv, n1, n2, n3, n4, Value.cells]
  refine x_nil ?_
  refine hK16 _ _ ?_
  refine x_ret ?_
  refine r_tmp rfl ?_
  exact ⟨_, _, rfl, hS.sel (by repeat (first | exact Sel.nil | (refine Sel.cons (by repeat (first | exact Del.head | apply Del.tail)) ?_)))⟩
theorem c_ref11Tops (w0 : World) (B : Option Addr) (d : Nat) (rs : List Rw) (hB : Rd w0 B 1 rs.length (rs.map rwV)) (hrs : ∀ r ∈ rs, RwOk w0 r) (hm : rs.length ≤ 8) (h30 : ∀ r ∈ rs, r.l.length ≤ 30)  :
    CallR Try.prog 60 #[.slice B rs.length d] w0 fun v w' => ∃ A c, v = .slice A (pkQ rs rs.length).length c ∧ St NoB w0 w' [.vec A c 3 1 (pkQ rs rs.length).length ((pkQ rs rs.length).map (Value.int .i64))] := by
 have hS := St.rd1 (S := NoB) hB
 have hrl := rws_len rs
 refine c_enter (l := [.slice B rs.length d, undef, undef, undef, undef, undef, undef, undef, undef, undef, undef, undef, undef, undef, undef, undef, undef, undef, undef, undef, undef, undef, undef, undef, undef, undef, undef, undef, undef, undef, undef, undef, undef, undef, undef, undef, undef, undef]) Try.func60 rfl (by simp only [Try.ntmps60, List.size_toArray, List.length_cons, List.length_nil, Nat.reduceAdd, Nat.reduceSub, Array.replicate_succ, Array.replicate_zero, List.push_toArray, List.append_toArray, List.nil_append, List.cons_append]) ?_
 refine x_seq fun K1 hK1 => ?_
 refine x_region ?_
 refine s_go (s_assign) ?_
 try simp only [opv, n1, n2, n3, n4, Value.cells]
 refine x_nil ?_
 refine hK1 _ _ ?_
 refine x_seq fun K2 hK2 => ?_
 refine x_region ?_
 refine s_go (s_assign) ?_
 try simp only [opv, n1, n2, n3, n4, Value.cells]
 refine x_nil ?_
 refine hK2 _ _ ?_
 refine x_seq fun K3 hK3 => ?_
 refine x_seq fun K4 hK4 => ?_
 refine x_region ?_
 refine s_go (s_assign) ?_
 try simp only [opv, n1, n2, n3, n4, Value.cells]
 refine x_nil ?_
 refine hK4 _ _ ?_
 refine x_block ?_
 refine x_loop [3, 4, 5, 6, 7, 8, 9, 10, 11, 12, 13, 14, 15, 16, 17, 18, 19, 20, 21, 22, 23, 24, 25, 26, 27, 28, 29, 30, 31, 32, 33, 34, 35, 36] (fun m f w => ∃ (k : Nat) (D : Option Addr) (e : Nat), k ≤ rs.length ∧ m = rs.length - k ∧ f 4 = .int .i64 (k : Int) ∧ f 3 = .slice D (pkQ rs k).length e ∧ St NoB w0 w [.vec D e 3 1 (pkQ rs k).length ((pkQ rs k).map (Value.int .i64)), .rd B 1 rs.length (rs.map rwV)]) (rs.length) ?init1 (fun m1 f1 wl1 hI => ?_)
 case init1 =>
  try simp only [opv, n1, n2, n3, n4, Value.cells]
  replace hS := hS.nil_vec 3 1
  exact ⟨0, none, 0, by omega, rfl, rfl, rfl, hS.sel (by repeat (first | exact Sel.nil | (refine Sel.cons (by repeat (first | exact Del.head | apply Del.tail)) ?_)))⟩
 obtain ⟨k, D, e, hk0, hmk, h4, h3, hS⟩ := hI
 simp only [clob, List.foldl, n3, n4, h4, h3]
 obtain ⟨x, hx⟩ : ∃ r, rs.getD k rw0 = r := ⟨_, rfl⟩
 have hpl := pkQ_len rs k
 refine x_seq fun K5 hK5 => ?_
 refine x_seq fun K6 hK6 => ?_
 refine x_region ?_
 refine s_go (s_move) ?_
 try simp only [opv, n1, n2, n3, n4, Value.cells]
 refine s_go (s_move) ?_
 try simp only [opv, n1, n2, n3, n4, Value.cells]
 refine s_go (s_len_sl Try.underlying22) ?_
 try simp only [opv, n1, n2, n3, n4, Value.cells]
 refine s_go (s_lss) ?_
 try simp only [opv, n1, n2, n3, n4, Value.cells]
 refine x_nil ?_
 refine hK6 _ _ ?_
 refine x_cond (ht := fun hc1 => ?_) (hf := fun hc1 => ?_)
 ·
  try simp only [decide_eq_true_eq, decide_eq_false_iff_not, Bool.not_eq_true', Bool.not_eq_false', Int.not_lt, Int.not_le, ne_eq, Decidable.not_not, bne_iff_ne, beq_iff_eq, not_true_eq_false, not_false_eq_true] at hc1
  have hx3 := h30 _ (rws_mem (by omega) hx)
  refine x_skip ?_
  refine hK5 _ _ ?_
  refine x_seq fun K7 hK7 => ?_
  refine x_block ?_
  refine x_seq fun K8 hK8 => ?_
  refine x_region ?_
  refine s_go (s_assign) ?_
  try simp only [opv, n1, n2, n3, n4, Value.cells]
  refine x_nil ?_
  refine hK8 _ _ ?_
  refine x_seq fun K9 hK9 => ?_
  refine x_seq fun K10 hK10 => ?_
  refine x_region ?_
  refine s_go (s_assign) ?_
  try simp only [opv, n1, n2, n3, n4, Value.cells]
  refine x_nil ?_
  refine hK10 _ _ ?_
  refine x_block ?_
  refine x_loop [5, 6, 13, 14, 15, 16, 17, 18, 19, 20, 21, 22, 23, 24, 25, 26, 27, 28, 29, 30, 31] (fun m f w => ∃ j : Nat, j ≤ rs.length ∧ m = rs.length - j ∧ f 6 = .int .i64 (j : Int) ∧ f 5 = .bool (topQ x.l (rs.take j)) ∧ St NoB w0 w [.vec D e 3 1 (pkQ rs k).length ((pkQ rs k).map (Value.int .i64)), .rd B 1 rs.length (rs.map rwV)]) (rs.length) ?init2 (fun m2 f2 wl2 hI => ?_)
  case init2 =>
   try simp only [opv, n1, n2, n3, n4, Value.cells]
   exact ⟨0, by omega, rfl, rfl, rfl, hS⟩
  obtain ⟨j, hj0, hmj, h6, h5, hS⟩ := hI
  simp only [clob, List.foldl, n3, n4, h6, h5]
  obtain ⟨y, hy⟩ : ∃ r, rs.getD j rw0 = r := ⟨_, rfl⟩
  refine x_seq fun K11 hK11 => ?_
  refine x_seq fun K12 hK12 => ?_
  refine x_region ?_
  refine s_go (s_move) ?_
  try simp only [opv, n1, n2, n3, n4, Value.cells]
  refine s_go (s_move) ?_
  try simp only [opv, n1, n2, n3, n4, Value.cells]
  refine s_go (s_len_sl Try.underlying22) ?_
  try simp only [opv, n1, n2, n3, n4, Value.cells]
  refine s_go (s_lss) ?_
  try simp only [opv, n1, n2, n3, n4, Value.cells]
  refine x_nil ?_
  refine hK12 _ _ ?_
  refine x_cond (ht := fun hc2 => ?_) (hf := fun hc2 => ?_)
  ·
   try simp only [decide_eq_true_eq, decide_eq_false_iff_not, Bool.not_eq_true', Bool.not_eq_false', Int.not_lt, Int.not_le, ne_eq, Decidable.not_not, bne_iff_ne, beq_iff_eq, not_true_eq_false, not_false_eq_true] at hc2
   have hy3 := h30 _ (rws_mem (by omega) hy)
   refine x_skip ?_
   refine hK11 _ _ ?_
   refine x_seq fun K13 hK13 => ?_
   refine x_block ?_
   refine x_mixed_c (Lc := [.rd B 1 rs.length (rs.map rwV)]) [] 0 [5, 19, 20, 21, 22, 23, 24, 25, 26, 27, 28, 29, 30, 31] (fun f w => f 5 = .bool (topQ x.l (rs.take (j + 1))) ∧ St NoB w0 w [.vec D e 3 1 (pkQ rs k).length ((pkQ rs k).map (Value.int .i64)), .rd B 1 rs.length (rs.map rwV)]) (by kernel_rfl) (by kernel_rfl) (by kernel_rfl) (by decide) hS (fun w1 hS => ?mixpre901) ?mixrest901
   case mixpre901 =>
    refine p_nil ?_
    simp only [List.length_cons, List.length_nil, Nat.reduceAdd, Nat.reduceSub]
    refine any_go (i := 0) (by rfl) (by decide +kernel) (by decide +kernel) noLate_nil (go_yields w_none (fun w hS => s_move)) ?_
    try simp only [opv, n1, n2, n3, n4, Value.cells]
    refine any_go (i := 1) (by rfl) (by decide +kernel) (by decide +kernel) noLate_nil (go_yields w_none (fun w hS => s_move)) ?_
    try simp only [opv, n1, n2, n3, n4, Value.cells]
    refine any_part 20 rfl (fun hp1 => ?_) (fun hp1 => ?_)
    ·
     try simp only [n3, n4]
     try simp only [decide_eq_true_eq, decide_eq_false_iff_not, Bool.not_eq_true', Bool.not_eq_false', Int.not_lt, Int.not_le, ne_eq, Decidable.not_not] at hp1
     have hb : topQ x.l (rs.take j) = true := hp1
     refine any_go (i := 2) (by rfl) (by decide +kernel) (by decide +kernel) noLate_nil (go_yields (w_on (yi (t := 20) rfl rfl)) (fun w hS => s_move)) ?_
     try simp only [opv, n1, n2, n3, n4, Value.cells]
     refine any_go (i := 3) (by rfl) (by decide +kernel) (by decide +kernel) noLate_nil (go_yields (w_on (yi (t := 20) rfl rfl)) (fun w hS => s_move)) ?_
     try simp only [opv, n1, n2, n3, n4, Value.cells]
     first | refine any_go (i := 4) (by rfl) (by decide +kernel) (by decide +kernel) noLate_nil (go_yields (w_on (yi (t := 20) rfl rfl)) (fun w hS => m_indexAddr_rd Try.underlying22 ti24 (hS := hS))) ?_ | refine any_go (i := 4) (by rfl) (by decide +kernel) (by decide +kernel) noLate_nil (go_yields (w_on (yi (t := 20) rfl rfl)) (fun w hS => m_indexAddr_vec Try.underlying22 ti24 (hS := hS))) ?_
     try simp only [opv, n1, n2, n3, n4, Value.cells, Nat.mul_one, Nat.zero_add, Int.toNat_natCast, Int.reduceToNat]
     first | refine any_go (i := 5) (by rfl) (by decide +kernel) (by decide +kernel) noLate_nil (go_yields (w_on (yi (t := 20) rfl rfl)) (fun w hS => m_load_obj Try.underlying24 (hS := hS) (hv := rws_get (by omega) hx))) ?_ | refine any_go (i := 5) (by rfl) (by decide +kernel) (by decide +kernel) noLate_nil (go_yields (w_on (yi (t := 20) rfl rfl)) (fun w hS => m_load_bx Try.underlying24 (hS := hS) (hv := rws_get (by omega) hx))) ?_ | refine any_go (i := 5) (by rfl) (by decide +kernel) (by decide +kernel) noLate_nil (go_yields (w_on (yi (t := 20) rfl rfl)) (fun w hS => m_load_rd Try.underlying24 (hS := hS) (hv := rws_get (by omega) hx))) ?_ | refine any_go (i := 5) (by rfl) (by decide +kernel) (by decide +kernel) noLate_nil (go_yields (w_on (yi (t := 20) rfl rfl)) (fun w hS => m_load_vec Try.underlying24 (hS := hS) (hv := rws_get (by omega) hx))) ?_
     try simp only [opv, n1, n2, n3, n4, Value.cells, List.getElem_toArray, List.getElem_cons_zero, List.getElem_cons_succ]
     refine any_go (i := 6) (by rfl) (by decide +kernel) (by decide +kernel) noLate_nil (go_yields (w_on (yi (t := 20) rfl rfl)) (fun w hS => s_move)) ?_
     try simp only [opv, n1, n2, n3, n4, Value.cells]
     refine any_go (i := 7) (by rfl) (by decide +kernel) (by decide +kernel) noLate_nil (go_yields (w_on (yi (t := 20) rfl rfl)) (fun w hS => s_move)) ?_
     try simp only [opv, n1, n2, n3, n4, Value.cells]
     first | refine any_go (i := 8) (by rfl) (by decide +kernel) (by decide +kernel) noLate_nil (go_yields (w_on (yi (t := 20) rfl rfl)) (fun w hS => m_indexAddr_rd Try.underlying22 ti24 (hS := hS))) ?_ | refine any_go (i := 8) (by rfl) (by decide +kernel) (by decide +kernel) noLate_nil (go_yields (w_on (yi (t := 20) rfl rfl)) (fun w hS => m_indexAddr_vec Try.underlying22 ti24 (hS := hS))) ?_
     try simp only [opv, n1, n2, n3, n4, Value.cells, Nat.mul_one, Nat.zero_add, Int.toNat_natCast, Int.reduceToNat]
     first | refine any_go (i := 9) (by rfl) (by decide +kernel) (by decide +kernel) noLate_nil (go_yields (w_on (yi (t := 20) rfl rfl)) (fun w hS => m_load_obj Try.underlying24 (hS := hS) (hv := rws_get (by omega) hy))) ?_ | refine any_go (i := 9) (by rfl) (by decide +kernel) (by decide +kernel) noLate_nil (go_yields (w_on (yi (t := 20) rfl rfl)) (fun w hS => m_load_bx Try.underlying24 (hS := hS) (hv := rws_get (by omega) hy))) ?_ | refine any_go (i := 9) (by rfl) (by decide +kernel) (by decide +kernel) noLate_nil (go_yields (w_on (yi (t := 20) rfl rfl)) (fun w hS => m_load_rd Try.underlying24 (hS := hS) (hv := rws_get (by omega) hy))) ?_ | refine any_go (i := 9) (by rfl) (by decide +kernel) (by decide +kernel) noLate_nil (go_yields (w_on (yi (t := 20) rfl rfl)) (fun w hS => m_load_vec Try.underlying24 (hS := hS) (hv := rws_get (by omega) hy))) ?_
     try simp only [opv, n1, n2, n3, n4, Value.cells, List.getElem_toArray, List.getElem_cons_zero, List.getElem_cons_succ]
     apply any_go (i := 10) (by rfl) (by decide +kernel) (by decide +kernel) noLate_nil (call_yields (w_on (yi (t := 20) rfl rfl)) en58 ?H1) ?K1
     case H1 =>
       intro w hS
       try simp only [opv, n1, n2, n3, n4, List.map_toArray, List.map_cons, List.map_nil, List.append_toArray, List.cons_append, List.nil_append, Array.append_empty]
       refine CallR.mono (c_ref11Cmp _ x.A x.c x.l (RwOk.at hrs hS.ext_of (by omega) hx).1 (RwOk.at hrs hS.ext_of (by omega) hx).2 y.A y.c y.l (RwOk.at hrs hS.ext_of (by omega) hy).1 (RwOk.at hrs hS.ext_of (by omega) hy).2 (by omega)) ?_
       rintro _ w1 ⟨rfl, hE⟩; exact ⟨rfl, hE⟩
     try simp only [opv, n1, n2, n3, n4, Value.cells]
     refine any_go (i := 11) (by rfl) (by decide +kernel) (by decide +kernel) noLate_nil (go_yields (w_on (yi (t := 20) rfl rfl)) (fun w hS => s_neq)) ?_
     try simp only [opv, n1, n2, n3, n4, Value.cells]
     first | refine any_go (i := 12) (by rfl) (by decide +kernel) (by decide +kernel) noLate_nil (go_yields w_none (fun w hS => s_pick_t)) ?_ | refine any_go (i := 12) (by rfl) (by decide +kernel) (by decide +kernel) noLate_nil (go_yields w_none (fun w hS => s_pick_f)) ?_
     try simp only [opv, n1, n2, n3, n4, Value.cells]
     refine any_go (i := 13) (by rfl) (by decide +kernel) (by decide +kernel) noLate_nil (go_yields w_none (fun w hS => s_assign)) ?_
     try simp only [opv, n1, n2, n3, n4, Value.cells]
     refine any_nil (by kernel_rfl) (fun w2 hE => ?_)
     replace hS := hS.ext hE
     refine ⟨fun _ => hS.sel (by repeat (first | exact Sel.nil | (refine Sel.cons (by repeat (first | exact Del.head | apply Del.tail)) ?_))), ?_⟩
     refine mix_leaf (by simp only [clob, List.foldl, n1, n2, n3, n4]) ?_
     try simp only [n1, n2]
     exact ⟨by first | exact congrArg Value.bool (by rw [topQ_take (by omega) hy, hb]; rfl) | exact congrArg Value.bool (by rw [topQ_take (by omega) hy, hb]; simp), hS.sel (by repeat (first | exact Sel.nil | (refine Sel.cons (by repeat (first | exact Del.head | apply Del.tail)) ?_)))⟩
    ·
     try simp only [n3, n4]
     try simp only [decide_eq_true_eq, decide_eq_false_iff_not, Bool.not_eq_true', Bool.not_eq_false', Int.not_lt, Int.not_le, ne_eq, Decidable.not_not] at hp1
     have hb : topQ x.l (rs.take j) = false := hp1
     refine any_go (i := 2) (by rfl) (by decide +kernel) (by decide +kernel) noLate_nil (off_yields (yi (t := 20) rfl rfl)) ?_
     try simp only [opv, n1, n2, n3, n4, Value.cells]
     refine any_go (i := 3) (by rfl) (by decide +kernel) (by decide +kernel) noLate_nil (off_yields (yi (t := 20) rfl rfl)) ?_
     try simp only [opv, n1, n2, n3, n4, Value.cells]
     refine any_go (i := 4) (by rfl) (by decide +kernel) (by decide +kernel) noLate_nil (off_yields (yi (t := 20) rfl rfl)) ?_
     try simp only [opv, n1, n2, n3, n4, Value.cells]
     refine any_go (i := 5) (by rfl) (by decide +kernel) (by decide +kernel) noLate_nil (off_yields (yi (t := 20) rfl rfl)) ?_
     try simp only [opv, n1, n2, n3, n4, Value.cells]
     refine any_go (i := 6) (by rfl) (by decide +kernel) (by decide +kernel) noLate_nil (off_yields (yi (t := 20) rfl rfl)) ?_
     try simp only [opv, n1, n2, n3, n4, Value.cells]
     refine any_go (i := 7) (by rfl) (by decide +kernel) (by decide +kernel) noLate_nil (off_yields (yi (t := 20) rfl rfl)) ?_
     try simp only [opv, n1, n2, n3, n4, Value.cells]
     refine any_go (i := 8) (by rfl) (by decide +kernel) (by decide +kernel) noLate_nil (off_yields (yi (t := 20) rfl rfl)) ?_
     try simp only [opv, n1, n2, n3, n4, Value.cells]
     refine any_go (i := 9) (by rfl) (by decide +kernel) (by decide +kernel) noLate_nil (off_yields (yi (t := 20) rfl rfl)) ?_
     try simp only [opv, n1, n2, n3, n4, Value.cells]
     refine any_go (i := 10) (by rfl) (by decide +kernel) (by decide +kernel) noLate_nil (off_yields (yi (t := 20) rfl rfl)) ?_
     try simp only [opv, n1, n2, n3, n4, Value.cells]
     refine any_go (i := 11) (by rfl) (by decide +kernel) (by decide +kernel) noLate_nil (off_yields (yi (t := 20) rfl rfl)) ?_
     try simp only [opv, n1, n2, n3, n4, Value.cells]
     first | refine any_go (i := 12) (by rfl) (by decide +kernel) (by decide +kernel) noLate_nil (go_yields w_none (fun w hS => s_pick_t)) ?_ | refine any_go (i := 12) (by rfl) (by decide +kernel) (by decide +kernel) noLate_nil (go_yields w_none (fun w hS => s_pick_f)) ?_
     try simp only [opv, n1, n2, n3, n4, Value.cells]
     refine any_go (i := 13) (by rfl) (by decide +kernel) (by decide +kernel) noLate_nil (go_yields w_none (fun w hS => s_assign)) ?_
     try simp only [opv, n1, n2, n3, n4, Value.cells]
     refine any_nil (by kernel_rfl) (fun w3 hE => ?_)
     replace hS := hS.ext hE
     refine ⟨fun _ => hS.sel (by repeat (first | exact Sel.nil | (refine Sel.cons (by repeat (first | exact Del.head | apply Del.tail)) ?_))), ?_⟩
     refine mix_leaf (by simp only [clob, List.foldl, n1, n2, n3, n4]) ?_
     try simp only [n1, n2]
     exact ⟨by first | exact congrArg Value.bool (by rw [topQ_take (by omega) hy, hb]; rfl) | exact congrArg Value.bool (by rw [topQ_take (by omega) hy, hb]; simp), hS.sel (by repeat (first | exact Sel.nil | (refine Sel.cons (by repeat (first | exact Del.head | apply Del.tail)) ?_)))⟩
   intro fm1 w4 hM
   obtain ⟨h5b, hS⟩ := hM
   simp only [clob, List.foldl, n3, n4, h5b]
   refine hK13 _ _ ?_
   refine x_region ?_
   refine s_go (s_move) ?_
   try simp only [opv, n1, n2, n3, n4, Value.cells]
   refine s_go (s_add (hc := by first | exact wr_i64 (by omega) (by omega) | rfl)) ?_
   try simp only [opv, n1, n2, n3, n4, Value.cells]
   refine s_go (s_assign) ?_
   try simp only [opv, n1, n2, n3, n4, Value.cells]
   refine x_nil ?_
   refine loop_back (m' := rs.length - (j + 1)) (by simp only [clob, List.foldl, n1, n2, n3, n4]) ?_ ?_
   · try simp only [opv, n1, n2, n3, n4, Value.cells]
     exact ⟨j + 1, by omega, by omega, by rfl, by rfl, hS.sel (by repeat (first | exact Sel.nil | (refine Sel.cons (by repeat (first | exact Del.head | apply Del.tail)) ?_)))⟩
   · omega
  ·
   try simp only [decide_eq_true_eq, decide_eq_false_iff_not, Bool.not_eq_true', Bool.not_eq_false', Int.not_lt, Int.not_le, ne_eq, Decidable.not_not, bne_iff_ne, beq_iff_eq, not_true_eq_false, not_false_eq_true] at hc2
   obtain rfl : j = rs.length := by omega
   rw [List.take_of_length_le (Nat.le_refl _)]
   refine x_exit (look_here ?_)
   refine hK9 _ _ ?_
   refine x_seq fun K14 hK14 => ?_
   refine x_region ?_
   refine s_go (s_move) ?_
   try simp only [opv, n1, n2, n3, n4, Value.cells]
   refine x_nil ?_
   refine hK14 _ _ ?_
   refine x_cond (ht := fun hc3 => ?_) (hf := fun hc3 => ?_)
   ·
    try simp only [decide_eq_true_eq, decide_eq_false_iff_not, Bool.not_eq_true', Bool.not_eq_false', Int.not_lt, Int.not_le, ne_eq, Decidable.not_not, bne_iff_ne, beq_iff_eq, not_true_eq_false, not_false_eq_true] at hc3
    have hst : pkQ rs (k + 1) = pkQ rs k ++ [(k : Int)] := by rw [pkQ, hx, if_pos hc3]
    refine x_region ?_
    refine s_go (s_move) ?_
    try simp only [opv, n1, n2, n3, n4, Value.cells]
    refine s_go (s_move) ?_
    try simp only [opv, n1, n2, n3, n4, Value.cells]
    refine m_buildRow (cells := #[_]) Try.underlying62 ti3 (hc := by simp only [List.map_toArray, List.map_cons, List.map_nil, opv, n1, n2, n3, n4, Value.cells, List.toList_toArray]; (repeat (refine fill_cons rfl rfl (Nat.le_of_ble_eq_true rfl) ?_)); rfl) (hS := hS) (h := fun w5 g5 hS => ?_)
    try simp only [opv, n1, n2, n3, n4, Value.cells, Array.toArray_toList] at hS ⊢
    replace hS := hS.obj_vec (sz := 1) (n := 1) rfl (by decide) .head
    refine m_append_vec Try.underlying62 ti3 (hS := hS) (news := [(k : Int)].map (Value.int .i64)) (h := fun w6 A6 C6 hS => ?_)
    try simp only [← List.map_append, ← List.map_drop, ← List.map_take, Nat.mul_one, Nat.zero_mul, Nat.sub_zero, List.drop_zero, List.nil_append, Nat.zero_add] at hS ⊢
    try simp only [opv, n1, n2, n3, n4, Value.cells, Array.toArray_toList] at hS ⊢
    refine s_go (s_assign) ?_
    try simp only [opv, n1, n2, n3, n4, Value.cells]
    refine x_nil ?_
    refine hK7 _ _ ?_
    refine x_region ?_
    refine s_go (s_move) ?_
    try simp only [opv, n1, n2, n3, n4, Value.cells]
    refine s_go (s_add (hc := by first | exact wr_i64 (by omega) (by omega) | rfl)) ?_
    try simp only [opv, n1, n2, n3, n4, Value.cells]
    refine s_go (s_assign) ?_
    try simp only [opv, n1, n2, n3, n4, Value.cells]
    refine x_nil ?_
    refine loop_back (m' := rs.length - (k + 1)) (by simp only [clob, List.foldl, n1, n2, n3, n4]) ?_ ?_
    · try simp only [opv, n1, n2, n3, n4, Value.cells]
      first
      | exact ⟨k + 1, _, _, by omega, by omega, by rfl, by rw [hst, List.length_append]; rfl, by rw [hst, List.length_append]; exact hS.sel (by repeat (first | exact Sel.nil | (refine Sel.cons (by repeat (first | exact Del.head | apply Del.tail)) ?_)))⟩
      | exact ⟨k + 1, _, _, by omega, by omega, by rfl, by rw [hst], by rw [hst]; exact hS.sel (by repeat (first | exact Sel.nil | (refine Sel.cons (by repeat (first | exact Del.head | apply Del.tail)) ?_)))⟩
    · omega
   ·
    try simp only [decide_eq_true_eq, decide_eq_false_iff_not, Bool.not_eq_true', Bool.not_eq_false', Int.not_lt, Int.not_le, ne_eq, Decidable.not_not, bne_iff_ne, beq_iff_eq, not_true_eq_false, not_false_eq_true] at hc3
    have hst : pkQ rs (k + 1) = pkQ rs k := by rw [pkQ, hx, if_neg (by rw [hc3]; decide)]
    refine x_skip ?_
    refine hK7 _ _ ?_
    refine x_region ?_
    refine s_go (s_move) ?_
    try simp only [opv, n1, n2, n3, n4, Value.cells]
    refine s_go (s_add (hc := by first | exact wr_i64 (by omega) (by omega) | rfl)) ?_
    try simp only [opv, n1, n2, n3, n4, Value.cells]
    refine s_go (s_assign) ?_
    try simp only [opv, n1, n2, n3, n4, Value.cells]
    refine x_nil ?_
    refine loop_back (m' := rs.length - (k + 1)) (by simp only [clob, List.foldl, n1, n2, n3, n4]) ?_ ?_
    · try simp only [opv, n1, n2, n3, n4, Value.cells]
      first
      | exact ⟨k + 1, _, _, by omega, by omega, by rfl, by rw [hst, List.length_append]; rfl, by rw [hst, List.length_append]; exact hS.sel (by repeat (first | exact Sel.nil | (refine Sel.cons (by repeat (first | exact Del.head | apply Del.tail)) ?_)))⟩
      | exact ⟨k + 1, _, _, by omega, by omega, by rfl, by rw [hst], by rw [hst]; exact hS.sel (by repeat (first | exact Sel.nil | (refine Sel.cons (by repeat (first | exact Del.head | apply Del.tail)) ?_)))⟩
    · omega
 ·
  try simp only [decide_eq_true_eq, decide_eq_false_iff_not, Bool.not_eq_true', Bool.not_eq_false', Int.not_lt, Int.not_le, ne_eq, Decidable.not_not, bne_iff_ne, beq_iff_eq, not_true_eq_false, not_false_eq_true] at hc1
  obtain rfl : k = rs.length := by omega
  refine x_exit (look_here ?_)
  refine hK3 _ _ ?_
  refine x_seq fun K15 hK15 => ?_
  refine x_region ?_
  refine s_go (s_move) ?_
  try simp only [opv, n1, n2, n3, n4, Value.cells]
  refine s_go (s_assign) ?_
  try simp only [opv, n1, n2, n3, n4, Value.cells]
  refine x_nil ?_
  refine hK15 _ _ ?_
  refine x_ret ?_
  refine r_tmp rfl ?_
  exact ⟨_, _, rfl, hS.sel (by repeat (first | exact Sel.nil | (refine Sel.cons (by repeat (first | exact Del.head | apply Del.tail)) ?_)))⟩
theorem c_deltaChain (w0 : World) (B : Option Addr) (d : Nat) (rs : List Rw) (hB : Rd w0 B 1 rs.length (rs.map rwV)) (hrs : ∀ r ∈ rs, RwOk w0 r) (hm : rs.length ≤ 8) (h30 : ∀ r ∈ rs, r.l.length ≤ 30)  :
    CallR Try.prog 61 #[.slice B rs.length d] w0 fun v w' => v = .bool (chnP rs rs.length) ∧ Ext w0 w' := by
 have hS := St.rd1 (S := NoB) hB
 have hrl := rws_len rs
 refine c_enter (l := [.slice B rs.length d, undef, undef, undef, undef, undef, undef, undef, undef, undef, undef, undef, undef, undef, undef, undef, undef, undef, undef, undef, undef, undef, undef, undef, undef]) Try.func61 rfl (by simp only [Try.ntmps61, List.size_toArray, List.length_cons, List.length_nil, Nat.reduceAdd, Nat.reduceSub, Array.replicate_succ, Array.replicate_zero, List.push_toArray, List.append_toArray, List.nil_append, List.cons_append]) ?_
 refine x_seq fun K1 hK1 => ?_
 refine x_region ?_
 refine s_go (s_assign) ?_
 try simp only [opv, n1, n2, n3, n4, Value.cells]
 refine x_nil ?_
 refine hK1 _ _ ?_
 refine x_seq fun K2 hK2 => ?_
 refine x_seq fun K3 hK3 => ?_
 refine x_region ?_
 refine s_go (s_move) ?_
 try simp only [opv, n1, n2, n3, n4, Value.cells]
 refine s_go (s_len_sl Try.underlying22) ?_
 try simp only [opv, n1, n2, n3, n4, Value.cells]
 refine s_go (s_move) ?_
 try simp only [opv, n1, n2, n3, n4, Value.cells]
 refine x_nil ?_
 refine hK3 _ _ ?_
 refine x_block ?_
 refine x_loop [2, 3, 6, 7, 8, 9, 10, 11, 12, 13, 14, 15, 16, 17, 18, 19, 20, 21, 22, 23, 24] (fun m f w => ∃ k : Nat, k ≤ rs.length ∧ m = rs.length - k ∧ f 6 = .int .i64 (k : Int) ∧ chnP rs k = true ∧ St NoB w0 w [.rd B 1 rs.length (rs.map rwV)]) (rs.length) ?init1 (fun m1 f1 wl1 hI => ?_)
 case init1 =>
  try simp only [opv, n1, n2, n3, n4, Value.cells]
  exact ⟨0, by omega, rfl, rfl, rfl, hS⟩
 obtain ⟨k, hk0, hmk, h6, hch, hS⟩ := hI
 simp only [clob, List.foldl, n3, n4, h6]
 obtain ⟨x, hx⟩ : ∃ r, rs.getD (k - 1) rw0 = r := ⟨_, rfl⟩
 obtain ⟨y, hy⟩ : ∃ r, rs.getD k rw0 = r := ⟨_, rfl⟩
 refine x_seq fun K4 hK4 => ?_
 refine x_region ?_
 refine s_go (s_lss) ?_
 try simp only [opv, n1, n2, n3, n4, Value.cells]
 refine x_nil ?_
 refine hK4 _ _ ?_
 refine x_seq fun K5 hK5 => ?_
 refine x_cond (ht := fun hc1 => ?_) (hf := fun hc1 => ?_)
 ·
  try simp only [decide_eq_true_eq, decide_eq_false_iff_not, Bool.not_eq_true', Bool.not_eq_false', Int.not_lt, Int.not_le, ne_eq, Decidable.not_not, bne_iff_ne, beq_iff_eq, not_true_eq_false, not_false_eq_true] at hc1
  have hy3 := h30 _ (rws_mem (by omega) hy)
  have hx3 := h30 _ (rws_mem (by omega) hx)
  refine x_skip ?_
  refine hK5 _ _ ?_
  refine x_seq fun K6 hK6 => ?_
  refine x_block ?_
  refine x_seq fun K7 hK7 => ?_
  refine x_region ?_
  refine s_go (s_move) ?_
  try simp only [opv, n1, n2, n3, n4, Value.cells]
  refine s_go (s_assign) ?_
  try simp only [opv, n1, n2, n3, n4, Value.cells]
  refine x_nil ?_
  refine hK7 _ _ ?_
  refine x_seq fun K8 hK8 => ?_
  refine x_mixed_c (Lc := [.rd B 1 rs.length (rs.map rwV)]) [] 0 [9, 10, 11, 12, 13, 14, 15, 16, 17, 18, 19, 20, 21, 22, 23] (fun f w => f 23 = .bool (!chnA rs k) ∧ St NoB w0 w [.rd B 1 rs.length (rs.map rwV)]) (by kernel_rfl) (by kernel_rfl) (by kernel_rfl) (by decide) hS (fun w1 hS => ?mixpre401) ?mixrest401
  case mixpre401 =>
   refine p_nil ?_
   simp only [List.length_cons, List.length_nil, Nat.reduceAdd, Nat.reduceSub]
   refine any_go (i := 0) (by rfl) (by decide +kernel) (by decide +kernel) noLate_nil (go_yields w_none (fun w hS => s_move)) ?_
   try simp only [opv, n1, n2, n3, n4, Value.cells]
   refine any_go (i := 1) (by rfl) (by decide +kernel) (by decide +kernel) noLate_nil (go_yields w_none (fun w hS => s_gtr)) ?_
   try simp only [opv, n1, n2, n3, n4, Value.cells]
   refine any_go (i := 2) (by rfl) (by decide +kernel) (by decide +kernel) noLate_nil (go_yields w_none (fun w hS => s_move)) ?_
   try simp only [opv, n1, n2, n3, n4, Value.cells]
   refine any_part 11 rfl (fun hp1 => ?_) (fun hp1 => ?_)
   ·
    try simp only [n3, n4]
    try simp only [decide_eq_true_eq, decide_eq_false_iff_not, Bool.not_eq_true', Bool.not_eq_false', Int.not_lt, Int.not_le, ne_eq, Decidable.not_not] at hp1
    have hk1 : 0 < k := by omega
    refine any_go (i := 3) (by rfl) (by decide +kernel) (by decide +kernel) noLate_nil (go_yields (w_on (yi (t := 11) rfl rfl)) (fun w hS => s_move)) ?_
    try simp only [opv, n1, n2, n3, n4, Value.cells]
    refine any_go (i := 4) (by rfl) (by decide +kernel) (by decide +kernel) noLate_nil (go_yields (w_on (yi (t := 11) rfl rfl)) (fun w hS => s_move)) ?_
    try simp only [opv, n1, n2, n3, n4, Value.cells]
    refine any_go (i := 5) (by rfl) (by decide +kernel) (by decide +kernel) noLate_nil (go_yields (w_on (yi (t := 11) rfl rfl)) (fun w hS => s_sub (hc := by first | exact wr_i64 (by omega) (by omega) | rfl))) ?_
    try simp only [opv, n1, n2, n3, n4, Value.cells]
    rw [show ((k : Int) - 1) = ((k - 1 : Nat) : Int) by omega]
    first | refine any_go (i := 6) (by rfl) (by decide +kernel) (by decide +kernel) noLate_nil (go_yields (w_on (yi (t := 11) rfl rfl)) (fun w hS => m_indexAddr_rd Try.underlying22 ti24 (hS := hS))) ?_ | refine any_go (i := 6) (by rfl) (by decide +kernel) (by decide +kernel) noLate_nil (go_yields (w_on (yi (t := 11) rfl rfl)) (fun w hS => m_indexAddr_vec Try.underlying22 ti24 (hS := hS))) ?_
    try simp only [opv, n1, n2, n3, n4, Value.cells, Nat.mul_one, Nat.zero_add, Int.toNat_natCast, Int.reduceToNat]
    first | refine any_go (i := 7) (by rfl) (by decide +kernel) (by decide +kernel) noLate_nil (go_yields (w_on (yi (t := 11) rfl rfl)) (fun w hS => m_load_obj Try.underlying24 (hS := hS) (hv := rws_get (by omega) hx))) ?_ | refine any_go (i := 7) (by rfl) (by decide +kernel) (by decide +kernel) noLate_nil (go_yields (w_on (yi (t := 11) rfl rfl)) (fun w hS => m_load_bx Try.underlying24 (hS := hS) (hv := rws_get (by omega) hx))) ?_ | refine any_go (i := 7) (by rfl) (by decide +kernel) (by decide +kernel) noLate_nil (go_yields (w_on (yi (t := 11) rfl rfl)) (fun w hS => m_load_rd Try.underlying24 (hS := hS) (hv := rws_get (by omega) hx))) ?_ | refine any_go (i := 7) (by rfl) (by decide +kernel) (by decide +kernel) noLate_nil (go_yields (w_on (yi (t := 11) rfl rfl)) (fun w hS => m_load_vec Try.underlying24 (hS := hS) (hv := rws_get (by omega) hx))) ?_
    try simp only [opv, n1, n2, n3, n4, Value.cells, List.getElem_toArray, List.getElem_cons_zero, List.getElem_cons_succ]
    refine any_go (i := 8) (by rfl) (by decide +kernel) (by decide +kernel) noLate_nil (go_yields (w_on (yi (t := 11) rfl rfl)) (fun w hS => s_move)) ?_
    try simp only [opv, n1, n2, n3, n4, Value.cells]
    refine any_go (i := 9) (by rfl) (by decide +kernel) (by decide +kernel) noLate_nil (go_yields (w_on (yi (t := 11) rfl rfl)) (fun w hS => s_move)) ?_
    try simp only [opv, n1, n2, n3, n4, Value.cells]
    first | refine any_go (i := 10) (by rfl) (by decide +kernel) (by decide +kernel) noLate_nil (go_yields (w_on (yi (t := 11) rfl rfl)) (fun w hS => m_indexAddr_rd Try.underlying22 ti24 (hS := hS))) ?_ | refine any_go (i := 10) (by rfl) (by decide +kernel) (by decide +kernel) noLate_nil (go_yields (w_on (yi (t := 11) rfl rfl)) (fun w hS => m_indexAddr_vec Try.underlying22 ti24 (hS := hS))) ?_
    try simp only [opv, n1, n2, n3, n4, Value.cells, Nat.mul_one, Nat.zero_add, Int.toNat_natCast, Int.reduceToNat]
    first | refine any_go (i := 11) (by rfl) (by decide +kernel) (by decide +kernel) noLate_nil (go_yields (w_on (yi (t := 11) rfl rfl)) (fun w hS => m_load_obj Try.underlying24 (hS := hS) (hv := rws_get (by omega) hy))) ?_ | refine any_go (i := 11) (by rfl) (by decide +kernel) (by decide +kernel) noLate_nil (go_yields (w_on (yi (t := 11) rfl rfl)) (fun w hS => m_load_bx Try.underlying24 (hS := hS) (hv := rws_get (by omega) hy))) ?_ | refine any_go (i := 11) (by rfl) (by decide +kernel) (by decide +kernel) noLate_nil (go_yields (w_on (yi (t := 11) rfl rfl)) (fun w hS => m_load_rd Try.underlying24 (hS := hS) (hv := rws_get (by omega) hy))) ?_ | refine any_go (i := 11) (by rfl) (by decide +kernel) (by decide +kernel) noLate_nil (go_yields (w_on (yi (t := 11) rfl rfl)) (fun w hS => m_load_vec Try.underlying24 (hS := hS) (hv := rws_get (by omega) hy))) ?_
    try simp only [opv, n1, n2, n3, n4, Value.cells, List.getElem_toArray, List.getElem_cons_zero, List.getElem_cons_succ]
    apply any_go (i := 12) (by rfl) (by decide +kernel) (by decide +kernel) noLate_nil (call_yields (w_on (yi (t := 11) rfl rfl)) en57 ?H1) ?K1
    case H1 =>
      intro w hS
      try simp only [opv, n1, n2, n3, n4, List.map_toArray, List.map_cons, List.map_nil, List.append_toArray, List.cons_append, List.nil_append, Array.append_empty]
      refine CallR.mono (c_deltaCmp _ x.A x.c x.l (RwOk.at hrs hS.ext_of (by omega) hx).1 (RwOk.at hrs hS.ext_of (by omega) hx).2 y.A y.c y.l (RwOk.at hrs hS.ext_of (by omega) hy).1 (RwOk.at hrs hS.ext_of (by omega) hy).2 (by omega)) ?_
      rintro _ w1 ⟨rfl, hE⟩; exact ⟨rfl, hE⟩
    try simp only [opv, n1, n2, n3, n4, Value.cells]
    refine any_go (i := 13) (by rfl) (by decide +kernel) (by decide +kernel) noLate_nil (go_yields (w_on (yi (t := 11) rfl rfl)) (fun w hS => s_gtr)) ?_
    try simp only [opv, n1, n2, n3, n4, Value.cells]
    first | refine any_go (i := 14) (by rfl) (by decide +kernel) (by decide +kernel) noLate_nil (go_yields w_none (fun w hS => s_pick_t)) ?_ | refine any_go (i := 14) (by rfl) (by decide +kernel) (by decide +kernel) noLate_nil (go_yields w_none (fun w hS => s_pick_f)) ?_
    try simp only [opv, n1, n2, n3, n4, Value.cells]
    refine any_nil (by kernel_rfl) (fun w2 hE => ?_)
    replace hS := hS.ext hE
    refine ⟨fun _ => hS.sel (by repeat (first | exact Sel.nil | (refine Sel.cons (by repeat (first | exact Del.head | apply Del.tail)) ?_))), ?_⟩
    refine mix_leaf (by simp only [clob, List.foldl, n1, n2, n3, n4]) ?_
    try simp only [n1, n2]
    first
    | exact ⟨congrArg Value.bool (by rw [chnA, hx, hy, decide_eq_false (show ¬ k = 0 by omega), Bool.false_or, Bool.not_not]), hS.sel (by repeat (first | exact Sel.nil | (refine Sel.cons (by repeat (first | exact Del.head | apply Del.tail)) ?_)))⟩
    | exact ⟨congrArg Value.bool (by rw [chnA, decide_eq_true hk1]; rfl), hS.sel (by repeat (first | exact Sel.nil | (refine Sel.cons (by repeat (first | exact Del.head | apply Del.tail)) ?_)))⟩
   ·
    try simp only [n3, n4]
    try simp only [decide_eq_true_eq, decide_eq_false_iff_not, Bool.not_eq_true', Bool.not_eq_false', Int.not_lt, Int.not_le, ne_eq, Decidable.not_not] at hp1
    have hk1 : k = 0 := by omega
    refine any_go (i := 3) (by rfl) (by decide +kernel) (by decide +kernel) noLate_nil (off_yields (yi (t := 11) rfl rfl)) ?_
    try simp only [opv, n1, n2, n3, n4, Value.cells]
    refine any_go (i := 4) (by rfl) (by decide +kernel) (by decide +kernel) noLate_nil (off_yields (yi (t := 11) rfl rfl)) ?_
    try simp only [opv, n1, n2, n3, n4, Value.cells]
    refine any_go (i := 5) (by rfl) (by decide +kernel) (by decide +kernel) noLate_nil (off_yields (yi (t := 11) rfl rfl)) ?_
    try simp only [opv, n1, n2, n3, n4, Value.cells]
    refine any_go (i := 6) (by rfl) (by decide +kernel) (by decide +kernel) noLate_nil (off_yields (yi (t := 11) rfl rfl)) ?_
    try simp only [opv, n1, n2, n3, n4, Value.cells]
    refine any_go (i := 7) (by rfl) (by decide +kernel) (by decide +kernel) noLate_nil (off_yields (yi (t := 11) rfl rfl)) ?_
    try simp only [opv, n1, n2, n3, n4, Value.cells]
    refine any_go (i := 8) (by rfl) (by decide +kernel) (by decide +kernel) noLate_nil (off_yields (yi (t := 11) rfl rfl)) ?_
    try simp only [opv, n1, n2, n3, n4, Value.cells]
    refine any_go (i := 9) (by rfl) (by decide +kernel) (by decide +kernel) noLate_nil (off_yields (yi (t := 11) rfl rfl)) ?_
    try simp only [opv, n1, n2, n3, n4, Value.cells]
    refine any_go (i := 10) (by rfl) (by decide +kernel) (by decide +kernel) noLate_nil (off_yields (yi (t := 11) rfl rfl)) ?_
    try simp only [opv, n1, n2, n3, n4, Value.cells]
    refine any_go (i := 11) (by rfl) (by decide +kernel) (by decide +kernel) noLate_nil (off_yields (yi (t := 11) rfl rfl)) ?_
    try simp only [opv, n1, n2, n3, n4, Value.cells]
    refine any_go (i := 12) (by rfl) (by decide +kernel) (by decide +kernel) noLate_nil (off_yields (yi (t := 11) rfl rfl)) ?_
    try simp only [opv, n1, n2, n3, n4, Value.cells]
    refine any_go (i := 13) (by rfl) (by decide +kernel) (by decide +kernel) noLate_nil (off_yields (yi (t := 11) rfl rfl)) ?_
    try simp only [opv, n1, n2, n3, n4, Value.cells]
    first | refine any_go (i := 14) (by rfl) (by decide +kernel) (by decide +kernel) noLate_nil (go_yields w_none (fun w hS => s_pick_t)) ?_ | refine any_go (i := 14) (by rfl) (by decide +kernel) (by decide +kernel) noLate_nil (go_yields w_none (fun w hS => s_pick_f)) ?_
    try simp only [opv, n1, n2, n3, n4, Value.cells]
    refine any_nil (by kernel_rfl) (fun w3 hE => ?_)
    replace hS := hS.ext hE
    refine ⟨fun _ => hS.sel (by repeat (first | exact Sel.nil | (refine Sel.cons (by repeat (first | exact Del.head | apply Del.tail)) ?_))), ?_⟩
    refine mix_leaf (by simp only [clob, List.foldl, n1, n2, n3, n4]) ?_
    try simp only [n1, n2]
    first
    | exact ⟨congrArg Value.bool (by rw [chnA, hx, hy, decide_eq_false (show ¬ k = 0 by omega), Bool.false_or, Bool.not_not]), hS.sel (by repeat (first | exact Sel.nil | (refine Sel.cons (by repeat (first | exact Del.head | apply Del.tail)) ?_)))⟩
    | exact ⟨congrArg Value.bool (by rw [chnA, decide_eq_true hk1]; rfl), hS.sel (by repeat (first | exact Sel.nil | (refine Sel.cons (by repeat (first | exact Del.head | apply Del.tail)) ?_)))⟩
  intro fm1 w4 hM
  obtain ⟨h23, hS⟩ := hM
  simp only [clob, List.foldl, n3, n4, h23]
  refine hK8 _ _ ?_
  refine x_cond (ht := fun hc2 => ?_) (hf := fun hc2 => ?_)
  ·
   try simp only [decide_eq_true_eq, decide_eq_false_iff_not, Bool.not_eq_true', Bool.not_eq_false', Int.not_lt, Int.not_le, ne_eq, Decidable.not_not, bne_iff_ne, beq_iff_eq, not_true_eq_false, not_false_eq_true] at hc2
   have hca : chnA rs k = false := by simpa using hc2
   have hcn := chn_no hca (n := rs.length) (by omega)
   refine x_seq fun K9 hK9 => ?_
   refine x_region ?_
   refine s_go (s_assign) ?_
   try simp only [opv, n1, n2, n3, n4, Value.cells]
   refine x_nil ?_
   refine hK9 _ _ ?_
   refine x_ret ?_
   refine r_tmp rfl ?_
   first | exact ⟨by rw [hcn]; rfl, hS.ext_of⟩ | exact ⟨by rw [hch]; rfl, hS.ext_of⟩
  ·
   try simp only [decide_eq_true_eq, decide_eq_false_iff_not, Bool.not_eq_true', Bool.not_eq_false', Int.not_lt, Int.not_le, ne_eq, Decidable.not_not, bne_iff_ne, beq_iff_eq, not_true_eq_false, not_false_eq_true] at hc2
   have hca : chnA rs k = true := by simpa using hc2
   refine x_skip ?_
   refine hK6 _ _ ?_
   refine x_region ?_
   refine s_go (s_add (hc := by first | exact wr_i64 (by omega) (by omega) | rfl)) ?_
   try simp only [opv, n1, n2, n3, n4, Value.cells]
   refine s_go (s_move) ?_
   try simp only [opv, n1, n2, n3, n4, Value.cells]
   refine x_nil ?_
   refine loop_back (m' := rs.length - (k + 1)) (by simp only [clob, List.foldl, n1, n2, n3, n4]) ?_ ?_
   · try simp only [opv, n1, n2, n3, n4, Value.cells]
     exact ⟨k + 1, by omega, by omega, by rfl, by rw [chnP, hch, hca]; rfl, hS⟩
   · omega
 ·
  try simp only [decide_eq_true_eq, decide_eq_false_iff_not, Bool.not_eq_true', Bool.not_eq_false', Int.not_lt, Int.not_le, ne_eq, Decidable.not_not, bne_iff_ne, beq_iff_eq, not_true_eq_false, not_false_eq_true] at hc1
  obtain rfl : k = rs.length := by omega
  refine x_exit (look_here ?_)
  refine hK2 _ _ ?_
  refine x_seq fun K10 hK10 => ?_
  refine x_region ?_
  refine s_go (s_assign) ?_
  try simp only [opv, n1, n2, n3, n4, Value.cells]
  refine x_nil ?_
  refine hK10 _ _ ?_
  refine x_ret ?_
  refine r_tmp rfl ?_
  first | exact ⟨by rw [hcn]; rfl, hS.ext_of⟩ | exact ⟨by rw [hch]; rfl, hS.ext_of⟩
theorem c_ref11Chain (w0 : World) (B : Option Addr) (d : Nat) (rs : List Rw) (hB : Rd w0 B 1 rs.length (rs.map rwV)) (hrs : ∀ r ∈ rs, RwOk w0 r) (hm : rs.length ≤ 8) (h30 : ∀ r ∈ rs, r.l.length ≤ 30)  :
    CallR Try.prog 62 #[.slice B rs.length d] w0 fun v w' => v = .bool (chnP rs rs.length) ∧ Ext w0 w' := by
 have hS := St.rd1 (S := NoB) hB
 have hrl := rws_len rs
 refine c_enter (l := [.slice B rs.length d, undef, undef, undef, undef, undef, undef, undef, undef, undef, undef, undef, undef, undef, undef, undef, undef, undef, undef, undef, undef]) Try.func62 rfl (by simp only [Try.ntmps62, List.size_toArray, List.length_cons, List.length_nil, Nat.reduceAdd, Nat.reduceSub, Array.replicate_succ, Array.replicate_zero, List.push_toArray, List.append_toArray, List.nil_append, List.cons_append]) ?_
 refine x_seq fun K1 hK1 => ?_
 refine x_region ?_
 refine s_go (s_assign) ?_
 try simp only [opv, n1, n2, n3, n4, Value.cells]
 refine x_nil ?_
 refine hK1 _ _ ?_
 refine x_seq fun K2 hK2 => ?_
 refine x_seq fun K3 hK3 => ?_
 refine x_region ?_
 refine s_go (s_assign) ?_
 try simp only [opv, n1, n2, n3, n4, Value.cells]
 refine x_nil ?_
 refine hK3 _ _ ?_
 refine x_block ?_
 refine x_loop [2, 3, 4, 5, 6, 7, 8, 9, 10, 11, 12, 13, 14, 15, 16, 17, 18, 19, 20] (fun m f w => ∃ k : Nat, 1 ≤ k ∧ (k ≤ rs.length ∨ k = 1) ∧ m = rs.length + 1 - k ∧ f 3 = .int .i64 (k : Int) ∧ chnP rs k = true ∧ St NoB w0 w [.rd B 1 rs.length (rs.map rwV)]) (rs.length) ?init1 (fun m1 f1 wl1 hI => ?_)
 case init1 =>
  try simp only [opv, n1, n2, n3, n4, Value.cells]
  exact ⟨1, by omega, .inr rfl, by omega, rfl, rfl, hS⟩
 obtain ⟨k, hk1, hk0, hmk, h3, hch, hS⟩ := hI
 simp only [clob, List.foldl, n3, n4, h3]
 obtain ⟨x, hx⟩ : ∃ r, rs.getD (k - 1) rw0 = r := ⟨_, rfl⟩
 obtain ⟨y, hy⟩ : ∃ r, rs.getD k rw0 = r := ⟨_, rfl⟩
 refine x_seq fun K4 hK4 => ?_
 refine x_seq fun K5 hK5 => ?_
 refine x_region ?_
 refine s_go (s_move) ?_
 try simp only [opv, n1, n2, n3, n4, Value.cells]
 refine s_go (s_move) ?_
 try simp only [opv, n1, n2, n3, n4, Value.cells]
 refine s_go (s_len_sl Try.underlying22) ?_
 try simp only [opv, n1, n2, n3, n4, Value.cells]
 refine s_go (s_lss) ?_
 try simp only [opv, n1, n2, n3, n4, Value.cells]
 refine x_nil ?_
 refine hK5 _ _ ?_
 refine x_cond (ht := fun hc1 => ?_) (hf := fun hc1 => ?_)
 ·
  try simp only [decide_eq_true_eq, decide_eq_false_iff_not, Bool.not_eq_true', Bool.not_eq_false', Int.not_lt, Int.not_le, ne_eq, Decidable.not_not, bne_iff_ne, beq_iff_eq, not_true_eq_false, not_false_eq_true] at hc1
  have hy3 := h30 _ (rws_mem (by omega) hy)
  have hx3 := h30 _ (rws_mem (by omega) hx)
  refine x_skip ?_
  refine hK4 _ _ ?_
  refine x_seq fun K6 hK6 => ?_
  refine x_block ?_
  refine x_seq fun K7 hK7 => ?_
  refine x_mixed_c (Lc := [.rd B 1 rs.length (rs.map rwV)]) [] 0 [10, 11, 12, 13, 14, 15, 16, 17, 18, 19, 20] (fun f w => f 20 = .bool (!chnA rs k) ∧ St NoB w0 w [.rd B 1 rs.length (rs.map rwV)]) (by kernel_rfl) (by kernel_rfl) (by kernel_rfl) (by decide) hS (fun w1 hS => ?mixpre401) ?mixrest401
  case mixpre401 =>
   refine p_nil ?_
   simp only [List.length_cons, List.length_nil, Nat.reduceAdd, Nat.reduceSub]
   refine any_go (i := 0) (by rfl) (by decide +kernel) (by decide +kernel) noLate_nil (go_yields w_none (fun w hS => s_move)) ?_
   try simp only [opv, n1, n2, n3, n4, Value.cells]
   refine any_go (i := 1) (by rfl) (by decide +kernel) (by decide +kernel) noLate_nil (go_yields w_none (fun w hS => s_move)) ?_
   try simp only [opv, n1, n2, n3, n4, Value.cells]
   refine any_go (i := 2) (by rfl) (by decide +kernel) (by decide +kernel) noLate_nil (go_yields w_none (fun w hS => s_sub (hc := by first | exact wr_i64 (by omega) (by omega) | rfl))) ?_
   try simp only [opv, n1, n2, n3, n4, Value.cells]
   rw [show ((k : Int) - 1) = ((k - 1 : Nat) : Int) by omega]
   first | refine any_go (i := 3) (by rfl) (by decide +kernel) (by decide +kernel) noLate_nil (go_yields w_none (fun w hS => m_indexAddr_rd Try.underlying22 ti24 (hS := hS))) ?_ | refine any_go (i := 3) (by rfl) (by decide +kernel) (by decide +kernel) noLate_nil (go_yields w_none (fun w hS => m_indexAddr_vec Try.underlying22 ti24 (hS := hS))) ?_
   try simp only [opv, n1, n2, n3, n4, Value.cells, Nat.mul_one, Nat.zero_add, Int.toNat_natCast, Int.reduceToNat]
   first | refine any_go (i := 4) (by rfl) (by decide +kernel) (by decide +kernel) noLate_nil (go_yields w_none (fun w hS => m_load_obj Try.underlying24 (hS := hS) (hv := rws_get (by omega) hx))) ?_ | refine any_go (i := 4) (by rfl) (by decide +kernel) (by decide +kernel) noLate_nil (go_yields w_none (fun w hS => m_load_bx Try.underlying24 (hS := hS) (hv := rws_get (by omega) hx))) ?_ | refine any_go (i := 4) (by rfl) (by decide +kernel) (by decide +kernel) noLate_nil (go_yields w_none (fun w hS => m_load_rd Try.underlying24 (hS := hS) (hv := rws_get (by omega) hx))) ?_ | refine any_go (i := 4) (by rfl) (by decide +kernel) (by decide +kernel) noLate_nil (go_yields w_none (fun w hS => m_load_vec Try.underlying24 (hS := hS) (hv := rws_get (by omega) hx))) ?_
   try simp only [opv, n1, n2, n3, n4, Value.cells, List.getElem_toArray, List.getElem_cons_zero, List.getElem_cons_succ]
   refine any_go (i := 5) (by rfl) (by decide +kernel) (by decide +kernel) noLate_nil (go_yields w_none (fun w hS => s_move)) ?_
   try simp only [opv, n1, n2, n3, n4, Value.cells]
   refine any_go (i := 6) (by rfl) (by decide +kernel) (by decide +kernel) noLate_nil (go_yields w_none (fun w hS => s_move)) ?_
   try simp only [opv, n1, n2, n3, n4, Value.cells]
   first | refine any_go (i := 7) (by rfl) (by decide +kernel) (by decide +kernel) noLate_nil (go_yields w_none (fun w hS => m_indexAddr_rd Try.underlying22 ti24 (hS := hS))) ?_ | refine any_go (i := 7) (by rfl) (by decide +kernel) (by decide +kernel) noLate_nil (go_yields w_none (fun w hS => m_indexAddr_vec Try.underlying22 ti24 (hS := hS))) ?_
   try simp only [opv, n1, n2, n3, n4, Value.cells, Nat.mul_one, Nat.zero_add, Int.toNat_natCast, Int.reduceToNat]
   first | refine any_go (i := 8) (by rfl) (by decide +kernel) (by decide +kernel) noLate_nil (go_yields w_none (fun w hS => m_load_obj Try.underlying24 (hS := hS) (hv := rws_get (by omega) hy))) ?_ | refine any_go (i := 8) (by rfl) (by decide +kernel) (by decide +kernel) noLate_nil (go_yields w_none (fun w hS => m_load_bx Try.underlying24 (hS := hS) (hv := rws_get (by omega) hy))) ?_ | refine any_go (i := 8) (by rfl) (by decide +kernel) (by decide +kernel) noLate_nil (go_yields w_none (fun w hS => m_load_rd Try.underlying24 (hS := hS) (hv := rws_get (by omega) hy))) ?_ | refine any_go (i := 8) (by rfl) (by decide +kernel) (by decide +kernel) noLate_nil (go_yields w_none (fun w hS => m_load_vec Try.underlying24 (hS := hS) (hv := rws_get (by omega) hy))) ?_
   try simp only [opv, n1, n2, n3, n4, Value.cells, List.getElem_toArray, List.getElem_cons_zero, List.getElem_cons_succ]
   apply any_go (i := 9) (by rfl) (by decide +kernel) (by decide +kernel) noLate_nil (call_yields w_none en58 ?H1) ?K1
   case H1 =>
     intro w hS
     try simp only [opv, n1, n2, n3, n4, List.map_toArray, List.map_cons, List.map_nil, List.append_toArray, List.cons_append, List.nil_append, Array.append_empty]
     refine CallR.mono (c_ref11Cmp _ x.A x.c x.l (RwOk.at hrs hS.ext_of (by omega) hx).1 (RwOk.at hrs hS.ext_of (by omega) hx).2 y.A y.c y.l (RwOk.at hrs hS.ext_of (by omega) hy).1 (RwOk.at hrs hS.ext_of (by omega) hy).2 (by omega)) ?_
     rintro _ w1 ⟨rfl, hE⟩; exact ⟨rfl, hE⟩
   try simp only [opv, n1, n2, n3, n4, Value.cells]
   refine any_go (i := 10) (by rfl) (by decide +kernel) (by decide +kernel) noLate_nil (go_yields w_none (fun w hS => s_gtr)) ?_
   try simp only [opv, n1, n2, n3, n4, Value.cells]
   refine any_nil (by kernel_rfl) (fun w2 hE => ?_)
   replace hS := hS.ext hE
   refine ⟨fun _ => hS.sel (by repeat (first | exact Sel.nil | (refine Sel.cons (by repeat (first | exact Del.head | apply Del.tail)) ?_))), ?_⟩
   refine mix_leaf (by simp only [clob, List.foldl, n1, n2, n3, n4]) ?_
   try simp only [n1, n2]
   exact ⟨congrArg Value.bool (by rw [chnA, hx, hy, decide_eq_false (show ¬ k = 0 by omega), Bool.false_or, Bool.not_not]), hS.sel (by repeat (first | exact Sel.nil | (refine Sel.cons (by repeat (first | exact Del.head | apply Del.tail)) ?_)))⟩
  intro fm1 w3 hM
  obtain ⟨h20, hS⟩ := hM
  simp only [clob, List.foldl, n3, n4, h20]
  refine hK7 _ _ ?_
  refine x_cond (ht := fun hc2 => ?_) (hf := fun hc2 => ?_)
  ·
   try simp only [decide_eq_true_eq, decide_eq_false_iff_not, Bool.not_eq_true', Bool.not_eq_false', Int.not_lt, Int.not_le, ne_eq, Decidable.not_not, bne_iff_ne, beq_iff_eq, not_true_eq_false, not_false_eq_true] at hc2
   have hca : chnA rs k = false := by simpa using hc2
   have hcn := chn_no hca (n := rs.length) (by omega)
   refine x_seq fun K8 hK8 => ?_
   refine x_region ?_
   refine s_go (s_assign) ?_
   try simp only [opv, n1, n2, n3, n4, Value.cells]
   refine x_nil ?_
   refine hK8 _ _ ?_
   refine x_ret ?_
   refine r_tmp rfl ?_
   first | exact ⟨by rw [hcn]; rfl, hS.ext_of⟩ | exact ⟨by rw [hce]; rfl, hS.ext_of⟩
  ·
   try simp only [decide_eq_true_eq, decide_eq_false_iff_not, Bool.not_eq_true', Bool.not_eq_false', Int.not_lt, Int.not_le, ne_eq, Decidable.not_not, bne_iff_ne, beq_iff_eq, not_true_eq_false, not_false_eq_true] at hc2
   have hca : chnA rs k = true := by simpa using hc2
   refine x_skip ?_
   refine hK6 _ _ ?_
   refine x_region ?_
   refine s_go (s_move) ?_
   try simp only [opv, n1, n2, n3, n4, Value.cells]
   refine s_go (s_add (hc := by first | exact wr_i64 (by omega) (by omega) | rfl)) ?_
   try simp only [opv, n1, n2, n3, n4, Value.cells]
   refine s_go (s_assign) ?_
   try simp only [opv, n1, n2, n3, n4, Value.cells]
   refine x_nil ?_
   refine loop_back (m' := rs.length + 1 - (k + 1)) (by simp only [clob, List.foldl, n1, n2, n3, n4]) ?_ ?_
   · try simp only [opv, n1, n2, n3, n4, Value.cells]
     exact ⟨k + 1, by omega, by omega, by omega, by rfl, by rw [chnP, hch, hca]; rfl, hS⟩
   · omega
 ·
  try simp only [decide_eq_true_eq, decide_eq_false_iff_not, Bool.not_eq_true', Bool.not_eq_false', Int.not_lt, Int.not_le, ne_eq, Decidable.not_not, bne_iff_ne, beq_iff_eq, not_true_eq_false, not_false_eq_true] at hc1
  have hce : chnP rs rs.length = true := by rcases hk0 with h | h; rw [show rs.length = k by omega]; exact hch; rcases (show rs.length = 0 ∨ rs.length = 1 by omega) with h2 | h2 <;> rw [h2] <;> rfl
  refine x_exit (look_here ?_)
  refine hK2 _ _ ?_
  refine x_seq fun K9 hK9 => ?_
  refine x_region ?_
  refine s_go (s_assign) ?_
  try simp only [opv, n1, n2, n3, n4, Value.cells]
  refine x_nil ?_
  refine hK9 _ _ ?_
  refine x_ret ?_
  refine r_tmp rfl ?_
  first | exact ⟨by rw [hcn]; rfl, hS.ext_of⟩ | exact ⟨by rw [hce]; rfl, hS.ext_of⟩
end Go.Proofs.Ytmgacmkikefpjaa
set_option linter.unusedSimpArgs false
set_option linter.unusedVariables false
set_option maxHeartbeats 2000000
set_option maxRecDepth 100000
namespace Go.Proofs.Ytmgacmkikefpjaa
open Go.RowKit
theorem c_DeltaStands (w0 : World) (B : Option Addr) (d : Nat) (rs : List Rw) (hB : Rd w0 B 1 rs.length (rs.map rwV)) (hrs : ∀ r ∈ rs, RwOk w0 r) (hm : rs.length ≤ 1000000000000000)  :
    CallR Try.prog 12 #[.slice B rs.length d] w0 fun v w' => v = .bool true ∧ Ext w0 w' := by
 have hS := St.rd1 (S := NoB) hB
 have hrl := rws_len rs
 refine c_enter (l := [.slice B rs.length d, undef, undef, undef, undef, undef, undef, undef, undef, undef, undef, undef, undef, undef, undef, undef, undef, undef, undef, undef, undef, undef, undef, undef, undef, undef, undef, undef, undef, undef, undef, undef, undef, undef, undef, undef, undef, undef, undef, undef, undef, undef, undef, undef, undef, undef, undef, undef, undef, undef, undef, undef, undef, undef, undef, undef, undef, undef, undef, undef, undef, undef, undef, undef, undef, undef, undef, undef, undef, undef, undef, undef, undef, undef, undef, undef, undef, undef, undef, undef, undef]) Try.func12 rfl (by simp only [Try.ntmps12, List.size_toArray, List.length_cons, List.length_nil, Nat.reduceAdd, Nat.reduceSub, Array.replicate_succ, Array.replicate_zero, List.push_toArray, List.append_toArray, List.nil_append, List.cons_append]) ?_
 refine x_seq fun K1 hK1 => ?_
 refine x_region ?_
 refine s_go (s_assign) ?_
 try simp only [opv, n1, n2, n3, n4, Value.cells]
 refine x_nil ?_
 refine hK1 _ _ ?_
 refine x_seq fun K2 hK2 => ?_
 refine x_seq fun K3 hK3 => ?_
 refine x_region ?_
 refine s_go (s_move) ?_
 try simp only [opv, n1, n2, n3, n4, Value.cells]
 refine s_call en50 ?_
 try simp only [opv, n1, n2, n3, n4, Value.cells, List.map_toArray, List.map_cons, List.map_nil, List.append_toArray, List.cons_append, List.nil_append, Array.append_empty]
 refine CallR.mono (c_ref11Light _ B d rs (hS.hasRd (by repeat (first | exact Has.head | apply Has.tail))) (fun r h => (hrs r h).ext hS.ext_of) (by omega)) ?_
 rintro _ w1 ⟨⟨lt, rfl, hlt⟩, hE1⟩
 replace hS := hS.ext hE1
 try simp only [opv, n1, n2, n3, n4, Value.cells]
 refine s_go (s_not) ?_
 try simp only [opv, n1, n2, n3, n4, Value.cells]
 refine x_nil ?_
 refine hK3 _ _ ?_
 refine x_cond (ht := fun hc1 => ?_) (hf := fun hc1 => ?_)
 ·
  try simp only [decide_eq_true_eq, decide_eq_false_iff_not, Bool.not_eq_true', Bool.not_eq_false', Int.not_lt, Int.not_le, ne_eq, Decidable.not_not, bne_iff_ne, beq_iff_eq, not_true_eq_false, not_false_eq_true] at hc1
  refine x_seq fun K4 hK4 => ?_
  refine x_region ?_
  refine s_call en47 ?_
  try simp only [opv, n1, n2, n3, n4, Value.cells, List.map_toArray, List.map_cons, List.map_nil, List.append_toArray, List.cons_append, List.nil_append, Array.append_empty]
  refine CallR.mono (c_law11alive _) ?_
  rintro _ w2 ⟨rfl, hE2⟩
  replace hS := hS.ext hE2
  try simp only [opv, n1, n2, n3, n4, Value.cells]
  refine s_go (s_assign) ?_
  try simp only [opv, n1, n2, n3, n4, Value.cells]
  refine x_nil ?_
  refine hK4 _ _ ?_
  refine x_ret ?_
  refine r_tmp rfl ?_
  exact ⟨rfl, hS.ext_of⟩
 ·
  try simp only [decide_eq_true_eq, decide_eq_false_iff_not, Bool.not_eq_true', Bool.not_eq_false', Int.not_lt, Int.not_le, ne_eq, Decidable.not_not, bne_iff_ne, beq_iff_eq, not_true_eq_false, not_false_eq_true] at hc1
  obtain ⟨hm8, h30⟩ := hlt (by simpa using hc1)
  refine x_skip ?_
  refine hK2 _ _ ?_
  refine x_seq fun K5 hK5 => ?_
  refine x_seq fun K6 hK6 => ?_
  refine x_region ?_
  refine s_go (s_assign) ?_
  try simp only [opv, n1, n2, n3, n4, Value.cells]
  refine x_nil ?_
  refine hK6 _ _ ?_
  refine x_block ?_
  refine x_loop [2, 3, 4, 12, 13, 14, 15, 16, 17, 18, 19, 20, 21, 22, 23, 24, 25, 26, 27, 28, 29, 30, 31, 32, 33, 34, 35, 36, 37, 38, 39, 40, 41, 42] (fun m f w => ∃ k : Nat, k ≤ rs.length ∧ m = rs.length - k ∧ f 3 = .int .i64 (k : Int) ∧ St NoB w0 w [.rd B 1 rs.length (rs.map rwV)]) (rs.length) ?init1 (fun m1 f1 wl1 hI => ?_)
  case init1 =>
   try simp only [opv, n1, n2, n3, n4, Value.cells]
   exact ⟨0, by omega, rfl, rfl, hS.sel (by repeat (first | exact Sel.nil | (refine Sel.cons (by repeat (first | exact Del.head | apply Del.tail)) ?_)))⟩
  obtain ⟨k, hk0, hmk, h3, hS⟩ := hI
  simp only [clob, List.foldl, n3, n4, h3]
  obtain ⟨x, hx⟩ : ∃ r, rs.getD k rw0 = r := ⟨_, rfl⟩
  refine x_seq fun K7 hK7 => ?_
  refine x_seq fun K8 hK8 => ?_
  refine x_region ?_
  refine s_go (s_move) ?_
  try simp only [opv, n1, n2, n3, n4, Value.cells]
  refine s_go (s_move) ?_
  try simp only [opv, n1, n2, n3, n4, Value.cells]
  refine s_go (s_len_sl Try.underlying22) ?_
  try simp only [opv, n1, n2, n3, n4, Value.cells]
  refine s_go (s_lss) ?_
  try simp only [opv, n1, n2, n3, n4, Value.cells]
  refine x_nil ?_
  refine hK8 _ _ ?_
  refine x_cond (ht := fun hc2 => ?_) (hf := fun hc2 => ?_)
  ·
   try simp only [decide_eq_true_eq, decide_eq_false_iff_not, Bool.not_eq_true', Bool.not_eq_false', Int.not_lt, Int.not_le, ne_eq, Decidable.not_not, bne_iff_ne, beq_iff_eq, not_true_eq_false, not_false_eq_true] at hc2
   have hx3 := h30 _ (rws_mem (by omega) hx)
   refine x_skip ?_
   refine hK7 _ _ ?_
   refine x_seq fun K9 hK9 => ?_
   refine x_block ?_
   refine x_seq fun K10 hK10 => ?_
   refine x_region ?_
   refine s_go (s_assign) ?_
   try simp only [opv, n1, n2, n3, n4, Value.cells]
   refine x_nil ?_
   refine hK10 _ _ ?_
   refine x_block ?_
   refine x_loop [2, 4, 18, 19, 20, 21, 22, 23, 24, 25, 26, 27, 28, 29, 30, 31, 32, 33, 34, 35, 36, 37, 38, 39, 40, 41, 42] (fun m f w => ∃ j : Nat, j ≤ rs.length ∧ m = rs.length - j ∧ f 4 = .int .i64 (j : Int) ∧ St NoB w0 w [.rd B 1 rs.length (rs.map rwV)]) (rs.length) ?init2 (fun m2 f2 wl2 hI => ?_)
   case init2 =>
    try simp only [opv, n1, n2, n3, n4, Value.cells]
    exact ⟨0, by omega, rfl, rfl, hS⟩
   obtain ⟨j, hj0, hmj, h4, hS⟩ := hI
   simp only [clob, List.foldl, n3, n4, h4]
   obtain ⟨y, hy⟩ : ∃ r, rs.getD j rw0 = r := ⟨_, rfl⟩
   refine x_seq fun K11 hK11 => ?_
   refine x_seq fun K12 hK12 => ?_
   refine x_region ?_
   refine s_go (s_move) ?_
   try simp only [opv, n1, n2, n3, n4, Value.cells]
   refine s_go (s_move) ?_
   try simp only [opv, n1, n2, n3, n4, Value.cells]
   refine s_go (s_len_sl Try.underlying22) ?_
   try simp only [opv, n1, n2, n3, n4, Value.cells]
   refine s_go (s_lss) ?_
   try simp only [opv, n1, n2, n3, n4, Value.cells]
   refine x_nil ?_
   refine hK12 _ _ ?_
   refine x_cond (ht := fun hc3 => ?_) (hf := fun hc3 => ?_)
   ·
    try simp only [decide_eq_true_eq, decide_eq_false_iff_not, Bool.not_eq_true', Bool.not_eq_false', Int.not_lt, Int.not_le, ne_eq, Decidable.not_not, bne_iff_ne, beq_iff_eq, not_true_eq_false, not_false_eq_true] at hc3
    have hy3 := h30 _ (rws_mem (by omega) hy)
    refine x_skip ?_
    refine hK11 _ _ ?_
    refine x_seq fun K13 hK13 => ?_
    refine x_block ?_
    refine x_seq fun K14 hK14 => ?_
    refine x_mixed_c (Lc := [.rd B 1 rs.length (rs.map rwV)]) [] 0 [24, 25, 26, 27, 28, 29, 30, 31, 32, 33, 34, 35, 36, 37, 38, 39, 40, 41, 42] (fun f w => f 42 = .bool false ∧ St NoB w0 w [.rd B 1 rs.length (rs.map rwV)]) (by kernel_rfl) (by kernel_rfl) (by kernel_rfl) (by decide) hS (fun w3 hS => ?mixpre901) ?mixrest901
    case mixpre901 =>
     refine p_nil ?_
     simp only [List.length_cons, List.length_nil, Nat.reduceAdd, Nat.reduceSub]
     refine any_go (i := 0) (by rfl) (by decide +kernel) (by decide +kernel) noLate_nil (go_yields w_none (fun w hS => s_move)) ?_
     try simp only [opv, n1, n2, n3, n4, Value.cells]
     refine any_go (i := 1) (by rfl) (by decide +kernel) (by decide +kernel) noLate_nil (go_yields w_none (fun w hS => s_move)) ?_
     try simp only [opv, n1, n2, n3, n4, Value.cells]
     first | refine any_go (i := 2) (by rfl) (by decide +kernel) (by decide +kernel) noLate_nil (go_yields w_none (fun w hS => m_indexAddr_rd Try.underlying22 ti24 (hS := hS))) ?_ | refine any_go (i := 2) (by rfl) (by decide +kernel) (by decide +kernel) noLate_nil (go_yields w_none (fun w hS => m_indexAddr_vec Try.underlying22 ti24 (hS := hS))) ?_
     try simp only [opv, n1, n2, n3, n4, Value.cells, Nat.mul_one, Nat.zero_add, Int.toNat_natCast, Int.reduceToNat]
     first | refine any_go (i := 3) (by rfl) (by decide +kernel) (by decide +kernel) noLate_nil (go_yields w_none (fun w hS => m_load_obj Try.underlying24 (hS := hS) (hv := rws_get (by omega) hx))) ?_ | refine any_go (i := 3) (by rfl) (by decide +kernel) (by decide +kernel) noLate_nil (go_yields w_none (fun w hS => m_load_bx Try.underlying24 (hS := hS) (hv := rws_get (by omega) hx))) ?_ | refine any_go (i := 3) (by rfl) (by decide +kernel) (by decide +kernel) noLate_nil (go_yields w_none (fun w hS => m_load_rd Try.underlying24 (hS := hS) (hv := rws_get (by omega) hx))) ?_ | refine any_go (i := 3) (by rfl) (by decide +kernel) (by decide +kernel) noLate_nil (go_yields w_none (fun w hS => m_load_vec Try.underlying24 (hS := hS) (hv := rws_get (by omega) hx))) ?_
     try simp only [opv, n1, n2, n3, n4, Value.cells, List.getElem_toArray, List.getElem_cons_zero, List.getElem_cons_succ]
     refine any_go (i := 4) (by rfl) (by decide +kernel) (by decide +kernel) noLate_nil (go_yields w_none (fun w hS => s_move)) ?_
     try simp only [opv, n1, n2, n3, n4, Value.cells]
     refine any_go (i := 5) (by rfl) (by decide +kernel) (by decide +kernel) noLate_nil (go_yields w_none (fun w hS => s_move)) ?_
     try simp only [opv, n1, n2, n3, n4, Value.cells]
     first | refine any_go (i := 6) (by rfl) (by decide +kernel) (by decide +kernel) noLate_nil (go_yields w_none (fun w hS => m_indexAddr_rd Try.underlying22 ti24 (hS := hS))) ?_ | refine any_go (i := 6) (by rfl) (by decide +kernel) (by decide +kernel) noLate_nil (go_yields w_none (fun w hS => m_indexAddr_vec Try.underlying22 ti24 (hS := hS))) ?_
     try simp only [opv, n1, n2, n3, n4, Value.cells, Nat.mul_one, Nat.zero_add, Int.toNat_natCast, Int.reduceToNat]
     first | refine any_go (i := 7) (by rfl) (by decide +kernel) (by decide +kernel) noLate_nil (go_yields w_none (fun w hS => m_load_obj Try.underlying24 (hS := hS) (hv := rws_get (by omega) hy))) ?_ | refine any_go (i := 7) (by rfl) (by decide +kernel) (by decide +kernel) noLate_nil (go_yields w_none (fun w hS => m_load_bx Try.underlying24 (hS := hS) (hv := rws_get (by omega) hy))) ?_ | refine any_go (i := 7) (by rfl) (by decide +kernel) (by decide +kernel) noLate_nil (go_yields w_none (fun w hS => m_load_rd Try.underlying24 (hS := hS) (hv := rws_get (by omega) hy))) ?_ | refine any_go (i := 7) (by rfl) (by decide +kernel) (by decide +kernel) noLate_nil (go_yields w_none (fun w hS => m_load_vec Try.underlying24 (hS := hS) (hv := rws_get (by omega) hy))) ?_
     try simp only [opv, n1, n2, n3, n4, Value.cells, List.getElem_toArray, List.getElem_cons_zero, List.getElem_cons_succ]
     apply any_go (i := 8) (by rfl) (by decide +kernel) (by decide +kernel) noLate_nil (call_yields w_none en57 ?H1) ?K1
     case H1 =>
       intro w hS
       try simp only [opv, n1, n2, n3, n4, List.map_toArray, List.map_cons, List.map_nil, List.append_toArray, List.cons_append, List.nil_append, Array.append_empty]
       refine CallR.mono (c_deltaCmp _ x.A x.c x.l (RwOk.at hrs hS.ext_of (by omega) hx).1 (RwOk.at hrs hS.ext_of (by omega) hx).2 y.A y.c y.l (RwOk.at hrs hS.ext_of (by omega) hy).1 (RwOk.at hrs hS.ext_of (by omega) hy).2 (by omega)) ?_
       rintro _ w1 ⟨rfl, hE⟩; exact ⟨rfl, hE⟩
     try simp only [opv, n1, n2, n3, n4, Value.cells]
     refine any_go (i := 9) (by rfl) (by decide +kernel) (by decide +kernel) noLate_nil (go_yields w_none (fun w hS => s_move)) ?_
     try simp only [opv, n1, n2, n3, n4, Value.cells]
     refine any_go (i := 10) (by rfl) (by decide +kernel) (by decide +kernel) noLate_nil (go_yields w_none (fun w hS => s_move)) ?_
     try simp only [opv, n1, n2, n3, n4, Value.cells]
     first | refine any_go (i := 11) (by rfl) (by decide +kernel) (by decide +kernel) noLate_nil (go_yields w_none (fun w hS => m_indexAddr_rd Try.underlying22 ti24 (hS := hS))) ?_ | refine any_go (i := 11) (by rfl) (by decide +kernel) (by decide +kernel) noLate_nil (go_yields w_none (fun w hS => m_indexAddr_vec Try.underlying22 ti24 (hS := hS))) ?_
     try simp only [opv, n1, n2, n3, n4, Value.cells, Nat.mul_one, Nat.zero_add, Int.toNat_natCast, Int.reduceToNat]
     first | refine any_go (i := 12) (by rfl) (by decide +kernel) (by decide +kernel) noLate_nil (go_yields w_none (fun w hS => m_load_obj Try.underlying24 (hS := hS) (hv := rws_get (by omega) hx))) ?_ | refine any_go (i := 12) (by rfl) (by decide +kernel) (by decide +kernel) noLate_nil (go_yields w_none (fun w hS => m_load_bx Try.underlying24 (hS := hS) (hv := rws_get (by omega) hx))) ?_ | refine any_go (i := 12) (by rfl) (by decide +kernel) (by decide +kernel) noLate_nil (go_yields w_none (fun w hS => m_load_rd Try.underlying24 (hS := hS) (hv := rws_get (by omega) hx))) ?_ | refine any_go (i := 12) (by rfl) (by decide +kernel) (by decide +kernel) noLate_nil (go_yields w_none (fun w hS => m_load_vec Try.underlying24 (hS := hS) (hv := rws_get (by omega) hx))) ?_
     try simp only [opv, n1, n2, n3, n4, Value.cells, List.getElem_toArray, List.getElem_cons_zero, List.getElem_cons_succ]
     refine any_go (i := 13) (by rfl) (by decide +kernel) (by decide +kernel) noLate_nil (go_yields w_none (fun w hS => s_move)) ?_
     try simp only [opv, n1, n2, n3, n4, Value.cells]
     refine any_go (i := 14) (by rfl) (by decide +kernel) (by decide +kernel) noLate_nil (go_yields w_none (fun w hS => s_move)) ?_
     try simp only [opv, n1, n2, n3, n4, Value.cells]
     first | refine any_go (i := 15) (by rfl) (by decide +kernel) (by decide +kernel) noLate_nil (go_yields w_none (fun w hS => m_indexAddr_rd Try.underlying22 ti24 (hS := hS))) ?_ | refine any_go (i := 15) (by rfl) (by decide +kernel) (by decide +kernel) noLate_nil (go_yields w_none (fun w hS => m_indexAddr_vec Try.underlying22 ti24 (hS := hS))) ?_
     try simp only [opv, n1, n2, n3, n4, Value.cells, Nat.mul_one, Nat.zero_add, Int.toNat_natCast, Int.reduceToNat]
     first | refine any_go (i := 16) (by rfl) (by decide +kernel) (by decide +kernel) noLate_nil (go_yields w_none (fun w hS => m_load_obj Try.underlying24 (hS := hS) (hv := rws_get (by omega) hy))) ?_ | refine any_go (i := 16) (by rfl) (by decide +kernel) (by decide +kernel) noLate_nil (go_yields w_none (fun w hS => m_load_bx Try.underlying24 (hS := hS) (hv := rws_get (by omega) hy))) ?_ | refine any_go (i := 16) (by rfl) (by decide +kernel) (by decide +kernel) noLate_nil (go_yields w_none (fun w hS => m_load_rd Try.underlying24 (hS := hS) (hv := rws_get (by omega) hy))) ?_ | refine any_go (i := 16) (by rfl) (by decide +kernel) (by decide +kernel) noLate_nil (go_yields w_none (fun w hS => m_load_vec Try.underlying24 (hS := hS) (hv := rws_get (by omega) hy))) ?_
     try simp only [opv, n1, n2, n3, n4, Value.cells, List.getElem_toArray, List.getElem_cons_zero, List.getElem_cons_succ]
     apply any_go (i := 17) (by rfl) (by decide +kernel) (by decide +kernel) noLate_nil (call_yields w_none en58 ?H2) ?K2
     case H2 =>
       intro w hS
       try simp only [opv, n1, n2, n3, n4, List.map_toArray, List.map_cons, List.map_nil, List.append_toArray, List.cons_append, List.nil_append, Array.append_empty]
       refine CallR.mono (c_ref11Cmp _ x.A x.c x.l (RwOk.at hrs hS.ext_of (by omega) hx).1 (RwOk.at hrs hS.ext_of (by omega) hx).2 y.A y.c y.l (RwOk.at hrs hS.ext_of (by omega) hy).1 (RwOk.at hrs hS.ext_of (by omega) hy).2 (by omega)) ?_
       rintro _ w1 ⟨rfl, hE⟩; exact ⟨rfl, hE⟩
     try simp only [opv, n1, n2, n3, n4, Value.cells]
     refine any_go (i := 18) (by rfl) (by decide +kernel) (by decide +kernel) noLate_nil (go_yields w_none (fun w hS => s_neq)) ?_
     try simp only [opv, n1, n2, n3, n4, Value.cells]
     try simp only [ne_eq, not_true_eq_false, decide_false, eq_self, decide_true]
     refine any_nil (by kernel_rfl) (fun w4 hE => ?_)
     replace hS := hS.ext hE
     refine ⟨fun _ => hS.sel (by repeat (first | exact Sel.nil | (refine Sel.cons (by repeat (first | exact Del.head | apply Del.tail)) ?_))), ?_⟩
     refine mix_leaf (by simp only [clob, List.foldl, n1, n2, n3, n4]) ?_
     try simp only [n1, n2]
     exact ⟨by first | trivial | rfl, hS.sel (by repeat (first | exact Sel.nil | (refine Sel.cons (by repeat (first | exact Del.head | apply Del.tail)) ?_)))⟩
    intro fm1 w5 hM
    obtain ⟨h42, hS⟩ := hM
    simp only [clob, List.foldl, n3, n4, h42]
    refine hK14 _ _ ?_
    refine x_cond_f (h := ?_)
    refine x_skip ?_
    refine hK13 _ _ ?_
    refine x_region ?_
    refine s_go (s_move) ?_
    try simp only [opv, n1, n2, n3, n4, Value.cells]
    refine s_go (s_add (hc := by first | exact wr_i64 (by omega) (by omega) | rfl)) ?_
    try simp only [opv, n1, n2, n3, n4, Value.cells]
    refine s_go (s_assign) ?_
    try simp only [opv, n1, n2, n3, n4, Value.cells]
    refine x_nil ?_
    refine loop_back (m' := rs.length - (j + 1)) (by simp only [clob, List.foldl, n1, n2, n3, n4]) ?_ ?_
    · try simp only [opv, n1, n2, n3, n4, Value.cells]
      exact ⟨j + 1, by omega, by omega, by rfl, hS⟩
    · omega
   ·
    try simp only [decide_eq_true_eq, decide_eq_false_iff_not, Bool.not_eq_true', Bool.not_eq_false', Int.not_lt, Int.not_le, ne_eq, Decidable.not_not, bne_iff_ne, beq_iff_eq, not_true_eq_false, not_false_eq_true] at hc3
    refine x_exit (look_here ?_)
    refine hK9 _ _ ?_
    refine x_region ?_
    refine s_go (s_move) ?_
    try simp only [opv, n1, n2, n3, n4, Value.cells]
    refine s_go (s_add (hc := by first | exact wr_i64 (by omega) (by omega) | rfl)) ?_
    try simp only [opv, n1, n2, n3, n4, Value.cells]
    refine s_go (s_assign) ?_
    try simp only [opv, n1, n2, n3, n4, Value.cells]
    refine x_nil ?_
    refine loop_back (m' := rs.length - (k + 1)) (by simp only [clob, List.foldl, n1, n2, n3, n4]) ?_ ?_
    · try simp only [opv, n1, n2, n3, n4, Value.cells]
      exact ⟨k + 1, by omega, by omega, by rfl, hS⟩
    · omega
  ·
   try simp only [decide_eq_true_eq, decide_eq_false_iff_not, Bool.not_eq_true', Bool.not_eq_false', Int.not_lt, Int.not_le, ne_eq, Decidable.not_not, bne_iff_ne, beq_iff_eq, not_true_eq_false, not_false_eq_true] at hc2
   refine x_exit (look_here ?_)
   refine hK5 _ _ ?_
   refine x_seq fun K15 hK15 => ?_
   refine x_region ?_
   refine s_go (s_move) ?_
   try simp only [opv, n1, n2, n3, n4, Value.cells]
   refine s_call en59 ?_
   try simp only [opv, n1, n2, n3, n4, Value.cells, List.map_toArray, List.map_cons, List.map_nil, List.append_toArray, List.cons_append, List.nil_append, Array.append_empty]
   refine CallR.mono (c_deltaTops _ B d rs (hS.hasRd (by repeat (first | exact Has.head | apply Has.tail))) (fun r h => (hrs r h).ext hS.ext_of) hm8 h30) ?_
   rintro _ w6 ⟨Dt, et, rfl, hC6⟩
   replace hS := hS.call hC6
   simp only [List.cons_append, List.nil_append] at hS
   try simp only [opv, n1, n2, n3, n4, Value.cells]
   refine s_go (s_assign) ?_
   try simp only [opv, n1, n2, n3, n4, Value.cells]
   refine x_nil ?_
   refine hK15 _ _ ?_
   refine x_seq fun K16 hK16 => ?_
   refine x_seq fun K17 hK17 => ?_
   refine x_region ?_
   refine s_go (s_move) ?_
   try simp only [opv, n1, n2, n3, n4, Value.cells]
   refine s_go (s_move) ?_
   try simp only [opv, n1, n2, n3, n4, Value.cells]
   refine s_call en60 ?_
   try simp only [opv, n1, n2, n3, n4, Value.cells, List.map_toArray, List.map_cons, List.map_nil, List.append_toArray, List.cons_append, List.nil_append, Array.append_empty]
   refine CallR.mono (c_ref11Tops _ B d rs (hS.hasRd (by repeat (first | exact Has.head | apply Has.tail))) (fun r h => (hrs r h).ext hS.ext_of) hm8 h30) ?_
   rintro _ w7 ⟨Du, eu, rfl, hC7⟩
   replace hS := hS.call hC7
   simp only [List.cons_append, List.nil_append] at hS
   have hpl := pkQ_len rs rs.length
   try simp only [opv, n1, n2, n3, n4, Value.cells]
   refine s_call en53 ?_
   try simp only [opv, n1, n2, n3, n4, Value.cells, List.map_toArray, List.map_cons, List.map_nil, List.append_toArray, List.cons_append, List.nil_append, Array.append_empty]
   refine CallR.mono (c_ref01Same _ _ _ _ _ _ _ _ _ (hS.vecRd (by repeat (first | exact Has.head | apply Has.tail))) (hS.vecRd (by repeat (first | exact Has.head | apply Has.tail))) rfl rfl (by omega)) ?_
   rintro _ w8 ⟨rfl, hE8⟩
   replace hS := hS.ext hE8
   try simp only [opv, n1, n2, n3, n4, Value.cells]
   try simp only [eq_self, decide_true, beq_self_eq_true, Bool.and_self]
   refine s_go (s_not) ?_
   try simp only [opv, n1, n2, n3, n4, Value.cells]
   refine s_go (s_move) ?_
   try simp only [opv, n1, n2, n3, n4, Value.cells]
   refine g_on (yi (t := 50) rfl rfl) ?_
   refine s_go (s_move) ?_
   try simp only [opv, n1, n2, n3, n4, Value.cells]
   refine g_on (yi (t := 50) rfl rfl) ?_
   refine s_call en61 ?_
   try simp only [opv, n1, n2, n3, n4, Value.cells, List.map_toArray, List.map_cons, List.map_nil, List.append_toArray, List.cons_append, List.nil_append, Array.append_empty]
   refine CallR.mono (c_deltaChain _ B d rs (hS.hasRd (by repeat (first | exact Has.head | apply Has.tail))) (fun r h => (hrs r h).ext hS.ext_of) hm8 h30) ?_
   rintro _ w9 ⟨rfl, hE9⟩
   replace hS := hS.ext hE9
   try simp only [opv, n1, n2, n3, n4, Value.cells]
   refine g_on (yi (t := 50) rfl rfl) ?_
   refine s_go (s_move) ?_
   try simp only [opv, n1, n2, n3, n4, Value.cells]
   refine g_on (yi (t := 50) rfl rfl) ?_
   refine s_call en62 ?_
   try simp only [opv, n1, n2, n3, n4, Value.cells, List.map_toArray, List.map_cons, List.map_nil, List.append_toArray, List.cons_append, List.nil_append, Array.append_empty]
   refine CallR.mono (c_ref11Chain _ B d rs (hS.hasRd (by repeat (first | exact Has.head | apply Has.tail))) (fun r h => (hrs r h).ext hS.ext_of) hm8 h30) ?_
   rintro _ w10 ⟨rfl, hE10⟩
   replace hS := hS.ext hE10
   try simp only [opv, n1, n2, n3, n4, Value.cells]
   refine g_on (yi (t := 50) rfl rfl) ?_
   refine s_go (s_neq_bool Try.underlying4) ?_
   try simp only [opv, n1, n2, n3, n4, Value.cells]
   rw [show (!(chnP rs rs.length == chnP rs rs.length)) = false by rw [beq_self_eq_true]; rfl]
   first | refine s_go (s_pick_t) ?_ | refine s_go (s_pick_f) ?_
   try simp only [opv, n1, n2, n3, n4, Value.cells]
   refine x_nil ?_
   refine hK17 _ _ ?_
   refine x_cond_f (h := ?_)
   refine x_skip ?_
   refine hK16 _ _ ?_
   refine x_seq fun K18 hK18 => ?_
   refine x_region ?_
   obtain ⟨p, hp⟩ : ∃ p, pkQ rs rs.length = p := ⟨_, rfl⟩
   rw [hp] at hS hpl ⊢
   have hhok : ∀ r ∈ highR rs p, r ∈ rs := fun r h => by rw [← hp] at h; exact (high_mem.1 h).1
   have hrok : ∀ r ∈ rs, AOks r.l := fun r h => (hrs r h).ok
   have hbr := flat_bnd h30
   have hbh := flat_bnd (rs := highR rs p) (n := 30) (fun r h => h30 r (hhok r h))
   have hhl : (highR rs p).length = p.length := by simp [highR]
   have htj := tops_join hrok
   rw [hp] at htj
   have hbf := norm_len (flatR rs)
   have hbg := norm_len (flatR (highR rs p))
   have hof := (norm_sta (flat_aok hrok)).ok
   have hog := (norm_sta (flat_aok (rs := highR rs p) (fun r h => hrok r (hhok r h)))).ok
   refine s_go (s_assign) ?_
   try simp only [opv, n1, n2, n3, n4, Value.cells]
   refine x_nil ?_
   refine hK18 _ _ ?_
   refine x_seq fun K19 hK19 => ?_
   refine x_seq fun K20 hK20 => ?_
   refine x_region ?_
   refine s_go (s_assign) ?_
   try simp only [opv, n1, n2, n3, n4, Value.cells]
   refine x_nil ?_
   refine hK20 _ _ ?_
   refine x_block ?_
   refine x_loop [6, 7, 57, 58, 59, 60, 61, 62, 63, 64, 65, 66, 67, 68, 69, 70, 71, 72] (fun m f w => ∃ (j : Nat) (H : Option Addr) (eh : Nat), j ≤ p.length ∧ m = p.length - j ∧ f 7 = .int .i64 (j : Int) ∧ f 6 = .slice H (highR rs (p.take j)).length eh ∧ St NoB w0 w [.vec H eh 24 1 (highR rs (p.take j)).length ((highR rs (p.take j)).map rwV), .vec Dt et 3 1 (p).length ((p).map (Value.int .i64)), .rd B 1 rs.length (rs.map rwV)]) (p.length) ?init3 (fun m3 f3 wl3 hI => ?_)
   case init3 =>
    try simp only [opv, n1, n2, n3, n4, Value.cells]
    replace hS := hS.nil_vec 24 1
    exact ⟨0, none, 0, by omega, rfl, rfl, rfl, hS.sel (by repeat (first | exact Sel.nil | (refine Sel.cons (by repeat (first | exact Del.head | apply Del.tail)) ?_)))⟩
   obtain ⟨j, H, eh, hj0, hmj, h7, h6, hS⟩ := hI
   simp only [clob, List.foldl, n3, n4, h7, h6]
   have hhj : (highR rs (p.take j)).length = j := by simp [highR]; omega
   refine x_seq fun K21 hK21 => ?_
   refine x_seq fun K22 hK22 => ?_
   refine x_region ?_
   refine s_go (s_move) ?_
   try simp only [opv, n1, n2, n3, n4, Value.cells]
   refine s_go (s_move) ?_
   try simp only [opv, n1, n2, n3, n4, Value.cells]
   refine s_go (s_len_sl Try.underlying62) ?_
   try simp only [opv, n1, n2, n3, n4, Value.cells]
   refine s_go (s_lss) ?_
   try simp only [opv, n1, n2, n3, n4, Value.cells]
   refine x_nil ?_
   refine hK22 _ _ ?_
   refine x_cond (ht := fun hc6 => ?_) (hf := fun hc6 => ?_)
   ·
    try simp only [decide_eq_true_eq, decide_eq_false_iff_not, Bool.not_eq_true', Bool.not_eq_false', Int.not_lt, Int.not_le, ne_eq, Decidable.not_not, bne_iff_ne, beq_iff_eq, not_true_eq_false, not_false_eq_true] at hc6
    have hjl : j < p.length := by omega
    obtain ⟨q, hq1, hpn, _⟩ := pkQ_mem (rs := rs) (k := rs.length) (i := p.getD j 0) (by rw [hp]; exact getD_mem' hjl)
    obtain ⟨z, hz⟩ : ∃ r, rs.getD q rw0 = r := ⟨_, rfl⟩
    refine x_skip ?_
    refine hK21 _ _ ?_
    refine x_seq fun K23 hK23 => ?_
    refine x_block ?_
    refine x_region ?_
    refine s_go (s_move) ?_
    try simp only [opv, n1, n2, n3, n4, Value.cells]
    refine s_go (s_move) ?_
    try simp only [opv, n1, n2, n3, n4, Value.cells]
    refine s_go (s_move) ?_
    try simp only [opv, n1, n2, n3, n4, Value.cells]
    refine s_go (s_move) ?_
    try simp only [opv, n1, n2, n3, n4, Value.cells]
    first | refine s_go (m_indexAddr_rd Try.underlying62 ti3 (hS := hS)) ?_ | refine s_go (m_indexAddr_vec Try.underlying62 ti3 (hS := hS)) ?_
    try simp only [opv, n1, n2, n3, n4, Value.cells, Nat.mul_one, Nat.zero_add, Int.toNat_natCast, Int.reduceToNat]
    first | refine s_go (m_load_obj Try.underlying3 (hS := hS) (hv := il_get (by omega))) ?_ | refine s_go (m_load_bx Try.underlying3 (hS := hS) (hv := il_get (by omega))) ?_ | refine s_go (m_load_rd Try.underlying3 (hS := hS) (hv := il_get (by omega))) ?_ | refine s_go (m_load_vec Try.underlying3 (hS := hS) (hv := il_get (by omega))) ?_
    try simp only [opv, n1, n2, n3, n4, Value.cells, List.getElem_toArray, List.getElem_cons_zero, List.getElem_cons_succ]
    rw [hpn]
    first | refine s_go (m_indexAddr_rd Try.underlying22 ti24 (hS := hS)) ?_ | refine s_go (m_indexAddr_vec Try.underlying22 ti24 (hS := hS)) ?_
    try simp only [opv, n1, n2, n3, n4, Value.cells, Nat.mul_one, Nat.zero_add, Int.toNat_natCast, Int.reduceToNat]
    first | refine s_go (m_load_obj Try.underlying24 (hS := hS) (hv := rws_get (by omega) hz)) ?_ | refine s_go (m_load_bx Try.underlying24 (hS := hS) (hv := rws_get (by omega) hz)) ?_ | refine s_go (m_load_rd Try.underlying24 (hS := hS) (hv := rws_get (by omega) hz)) ?_ | refine s_go (m_load_vec Try.underlying24 (hS := hS) (hv := rws_get (by omega) hz)) ?_
    try simp only [opv, n1, n2, n3, n4, Value.cells, List.getElem_toArray, List.getElem_cons_zero, List.getElem_cons_succ]
    refine m_buildRow (cells := #[_]) Try.underlying22 ti24 (hc := by simp only [List.map_toArray, List.map_cons, List.map_nil, opv, n1, n2, n3, n4, Value.cells, List.toList_toArray]; (repeat (refine fill_cons rfl rfl (Nat.le_of_ble_eq_true rfl) ?_)); rfl) (hS := hS) (h := fun w11 g11 hS => ?_)
    try simp only [opv, n1, n2, n3, n4, Value.cells, Array.toArray_toList] at hS ⊢
    replace hS := hS.obj_vec (sz := 1) (n := 1) rfl (by decide) .head
    refine m_append_vec Try.underlying22 ti24 (hS := hS) (news := [Value.slice z.A z.l.length z.c]) (h := fun w12 A12 C12 hS => ?_)
    try simp only [← List.map_append, ← List.map_drop, ← List.map_take, Nat.mul_one, Nat.zero_mul, Nat.sub_zero, List.drop_zero, List.nil_append, Nat.zero_add] at hS ⊢
    try simp only [opv, n1, n2, n3, n4, Value.cells, Array.toArray_toList] at hS ⊢
    refine s_go (s_assign) ?_
    try simp only [opv, n1, n2, n3, n4, Value.cells]
    refine x_nil ?_
    refine hK23 _ _ ?_
    refine x_region ?_
    refine s_go (s_move) ?_
    try simp only [opv, n1, n2, n3, n4, Value.cells]
    refine s_go (s_add (hc := by first | exact wr_i64 (by omega) (by omega) | rfl)) ?_
    try simp only [opv, n1, n2, n3, n4, Value.cells]
    refine s_go (s_assign) ?_
    try simp only [opv, n1, n2, n3, n4, Value.cells]
    refine x_nil ?_
    refine loop_back (m' := p.length - (j + 1)) (by simp only [clob, List.foldl, n1, n2, n3, n4]) ?_ ?_
    · try simp only [opv, n1, n2, n3, n4, Value.cells]
      have hht := high_take (rs := rs) hjl
      rw [hpn, Int.toNat_natCast, hz] at hht
      exact ⟨j + 1, _, _, by omega, by omega, by rfl, by rw [hht, List.length_append]; rfl, by rw [hht, List.length_append, List.map_append]; exact hS.sel (by repeat (first | exact Sel.nil | (refine Sel.cons (by repeat (first | exact Del.head | apply Del.tail)) ?_)))⟩
    · omega
   ·
    try simp only [decide_eq_true_eq, decide_eq_false_iff_not, Bool.not_eq_true', Bool.not_eq_false', Int.not_lt, Int.not_le, ne_eq, Decidable.not_not, bne_iff_ne, beq_iff_eq, not_true_eq_false, not_false_eq_true] at hc6
    obtain rfl : j = p.length := by omega
    rw [List.take_of_length_le (Nat.le_refl _)] at hS ⊢
    refine x_exit (look_here ?_)
    refine hK19 _ _ ?_
    refine x_seq fun K24 hK24 => ?_
    refine x_region ?_
    refine s_go (s_move) ?_
    try simp only [opv, n1, n2, n3, n4, Value.cells]
    refine s_call en26 ?_
    try simp only [opv, n1, n2, n3, n4, Value.cells, List.map_toArray, List.map_cons, List.map_nil, List.append_toArray, List.cons_append, List.nil_append, Array.append_empty]
    refine CallR.mono (c_latAll _ H eh (highR rs p) (hS.vecRd (by repeat (first | exact Has.head | apply Has.tail))) (fun r h => (hrs r (hhok r h)).ext hS.ext_of) (by omega) (by omega)) ?_
    rintro _ w13 ⟨Ah, ah, rfl, hC13⟩
    replace hS := hS.call hC13
    simp only [List.cons_append, List.nil_append] at hS
    try simp only [opv, n1, n2, n3, n4, Value.cells]
    refine s_go (s_move) ?_
    try simp only [opv, n1, n2, n3, n4, Value.cells]
    refine s_call en26 ?_
    try simp only [opv, n1, n2, n3, n4, Value.cells, List.map_toArray, List.map_cons, List.map_nil, List.append_toArray, List.cons_append, List.nil_append, Array.append_empty]
    refine CallR.mono (c_latAll _ B d rs (hS.hasRd (by repeat (first | exact Has.head | apply Has.tail))) (fun r h => (hrs r h).ext hS.ext_of) (by omega) (by omega)) ?_
    rintro _ w14 ⟨Ai, ai, rfl, hC14⟩
    replace hS := hS.call hC14
    simp only [List.cons_append, List.nil_append] at hS
    try simp only [opv, n1, n2, n3, n4, Value.cells]
    refine s_call en25 ?_
    try simp only [opv, n1, n2, n3, n4, Value.cells, List.map_toArray, List.map_cons, List.map_nil, List.append_toArray, List.cons_append, List.nil_append, Array.append_empty]
    refine CallR.mono (c_ref10Rows _ _ _ _ (hS.vecRd (by repeat (first | exact Has.head | apply Has.tail))) hog _ _ _ (hS.vecRd (by repeat (first | exact Has.head | apply Has.tail))) hof (by omega)) ?_
    rintro _ w15 ⟨rfl, hE15⟩
    replace hS := hS.ext hE15
    try simp only [opv, n1, n2, n3, n4, Value.cells]
    rw [decide_eq_true htj]
    refine s_go (s_move) ?_
    try simp only [opv, n1, n2, n3, n4, Value.cells]
    refine g_on (yi (t := 78) rfl rfl) ?_
    refine s_call en47 ?_
    try simp only [opv, n1, n2, n3, n4, Value.cells, List.map_toArray, List.map_cons, List.map_nil, List.append_toArray, List.cons_append, List.nil_append, Array.append_empty]
    refine CallR.mono (c_law11alive _) ?_
    rintro _ w16 ⟨rfl, hE16⟩
    replace hS := hS.ext hE16
    try simp only [opv, n1, n2, n3, n4, Value.cells]
    first | refine s_go (s_pick_t) ?_ | refine s_go (s_pick_f) ?_
    try simp only [opv, n1, n2, n3, n4, Value.cells]
    refine s_go (s_assign) ?_
    try simp only [opv, n1, n2, n3, n4, Value.cells]
    refine x_nil ?_
    refine hK24 _ _ ?_
    refine x_ret ?_
    refine r_tmp rfl ?_
    exact ⟨rfl, hS.ext_of⟩
end Go.Proofs.Ytmgacmkikefpjaa
set_option linter.unusedSimpArgs false
set_option linter.unusedVariables false
set_option maxHeartbeats 2000000
set_option maxRecDepth 100000
namespace Go.Proofs.Ytmgacmkikefpjaa
open Go.RowKit

theorem RwOk.to {w w' : World} {r : Rw} (h : RwOk w r) (hE : Ext w w') : RwOk w' r := ⟨Res.holds_ext (r := .rd r.A 21 r.l.length (arows r.l)) h.rd hE, h.ok⟩
end Go.Proofs.Ytmgacmkikefpjaa
set_option linter.unusedSimpArgs false
set_option linter.unusedVariables false
set_option maxHeartbeats 800000
set_option maxRecDepth 100000
namespace Go.Proofs.Ytmgacmkikefpjaa
open Go.ChangeShapes Go.WideShapes Go.ChangeAt Go.RowKit

theorem rows_aok {l : List (List Int)} (h : ∀ x ∈ l, x.length = atomKs.length ∧ ∀ i k, atomKs[i]? = some k → (Lit.int k (x.getD i 0)).wf = true) : AOks l := fun x hx => by
  obtain ⟨h1, h2⟩ := h x hx
  have W : World := { heap := #[], tape := fun _ _ => 0, drawn := 0, os := default, output := #[] }
  obtain ⟨a, e, ha⟩ := atom_open (w := W) (allOk_of h1 h2)
  rw [zi_inj h1 (by simpa using ha.len) e]; exact ha
theorem open_rows {w : World} {n : Nat} {xs : List Value} {A : Option Addr} (hr : Rd w A 21 n xs) (h : ∀ i, i < n → AllOk w (atomKs.map LK.int) ((xs.drop (i * 21)).take 21)) : ∃ l : List (List Int), l.length = n ∧ xs = arows l ∧ AOks l := by
  obtain ⟨l, hl, e, hok⟩ := rowsZ_open (w := w) (ks := atomKs) (n := n) (xs := xs) hr.1 h
  exact ⟨l, hl, e, rows_aok hok⟩
end Go.Proofs.Ytmgacmkikefpjaa
set_option linter.unusedSimpArgs false
set_option linter.unusedVariables false
set_option maxHeartbeats 800000
set_option maxRecDepth 100000
namespace Go.Proofs.Ytmgacmkikefpjaa
open Go.ChangeShapes Go.WideShapes Go.ChangeAt Go.RowKit

theorem rows_single : ∀ l : List Rw, rowsOf (fun r => [rwV r]) l = l.map rwV
  | [] => rfl
  | r :: l => by rw [rowsOf_cons, rows_single l]; rfl
theorem open_rws {w : World} {n : Nat} {xs : List Value} {B : Option Addr} (hr : Rd w B 1 n xs) (h : ∀ i, i < n → AllOk w [LK.sl 21 (atomKs.map LK.int)] ((xs.drop (i * 1)).take 1)) : ∃ rs : List Rw, rs.length = n ∧ xs = rs.map rwV ∧ ∀ r ∈ rs, RwOk w r := by
  obtain ⟨rs, h1, h2, h3⟩ := rows_open (w := w) (cells := fun r => [rwV r]) (sz := 1) (ok := RwOk w) (fun cs hcs => by
    obtain ⟨v, vs, rfl, hv, hn⟩ := hcs.inv
    obtain rfl := hn.nil_inv
    obtain ⟨A, m, c, ys, rfl, h1, h2, h3, h4⟩ := hv
    obtain ⟨l, rfl, rfl, hl⟩ := open_rows h3 h4
    exact ⟨⟨A, c, l⟩, rfl, h3, hl⟩) n xs hr.1 h
  exact ⟨rs, h1, by rw [h2, rows_single], h3⟩
end Go.Proofs.Ytmgacmkikefpjaa
namespace Go.Proofs.Ytmgacmkikefpjaa
open Go.ChangeShapes Go.WideShapes Go.ChangeAt Go.RowKit
theorem own0 : ownKnob Try.prog.godebug = none := by kernel_rfl
theorem laidOut0 : laidOutB Try.prog = true := by kernel_rfl
theorem fl5 : Flat Try.prog 5 [LK.int .u8] := flat_int Try.underlying5
theorem fl29 : Flat Try.prog 29 [LK.int .u16] := flat_int Try.underlying29
theorem fl31 : Flat Try.prog 31 (List.replicate 8 [LK.int .u8]).flatten := flat_arr Try.underlying31 fl5 rfl (by kernel_rfl) (by kernel_rfl)
theorem fl32 : Flat Try.prog 32 [LK.int .u32] := flat_int Try.underlying32
theorem fl34 : Flat Try.prog 34 ([LK.int .u8] ++ ([LK.int .u16] ++ ((List.replicate 8 [LK.int .u8]).flatten ++ ([LK.int .u8] ++ ([LK.int .u32] ++ ([])))))) := flat_struct Try.underlying34 (.cons rfl fl5 rfl (by kernel_rfl) (.cons rfl fl29 rfl (by kernel_rfl) (.cons rfl fl31 rfl (by kernel_rfl) (.cons rfl fl5 rfl (by kernel_rfl) (.cons rfl fl32 rfl (by kernel_rfl) (.nil)))))) (by kernel_rfl)
theorem fl35 : Flat Try.prog 35 [LK.int .u64] := flat_int Try.underlying35
theorem fl37 : Flat Try.prog 37 ([LK.int .u64] ++ ((List.replicate 8 [LK.int .u8]).flatten ++ ([]))) := flat_struct Try.underlying37 (.cons rfl fl35 rfl (by kernel_rfl) (.cons rfl fl31 rfl (by kernel_rfl) (.nil))) (by kernel_rfl)
theorem fl39 : Flat Try.prog 39 (([LK.int .u8] ++ ([LK.int .u16] ++ ((List.replicate 8 [LK.int .u8]).flatten ++ ([LK.int .u8] ++ ([LK.int .u32] ++ ([])))))) ++ (([LK.int .u64] ++ ((List.replicate 8 [LK.int .u8]).flatten ++ ([]))) ++ ([]))) := flat_struct Try.underlying39 (.cons rfl fl34 rfl (by kernel_rfl) (.cons rfl fl37 rfl (by kernel_rfl) (.nil))) (by kernel_rfl)
theorem fl24 : Flat Try.prog 24 [LK.sl 21 (([LK.int .u8] ++ ([LK.int .u16] ++ ((List.replicate 8 [LK.int .u8]).flatten ++ ([LK.int .u8] ++ ([LK.int .u32] ++ ([])))))) ++ (([LK.int .u64] ++ ((List.replicate 8 [LK.int .u8]).flatten ++ ([]))) ++ ([])))] := flat_slice Try.underlying24 fl39 rfl (by kernel_rfl) (by decide)
end Go.Proofs.Ytmgacmkikefpjaa
namespace Go.Proofs.Ytmgacmkikefpjaa
theorem ws_cons {c : Char} (h : c ≠ Char.ofNat 32) (x : List Char) : wordsSigns (c :: x) = (match wordsSigns x with | w :: ws => (c :: w) :: ws | [] => [[c]]) := by
  conv => lhs; unfold wordsSigns
  split
  · simp_all
  · next h1 => exact absurd (by simpa using (List.cons.inj h1).1) h
  · next h1 => obtain ⟨rfl, rfl⟩ := List.cons.inj h1; rfl
theorem ws_app (b : List Char) : ∀ (a : List Char), (∀ c ∈ a, c ≠ Char.ofNat 32) → wordsSigns (a ++ Char.ofNat 32 :: b) = a :: wordsSigns b
  | [], _ => rfl
  | c :: r, h => by
    rw [List.cons_append, ws_cons (h c (by simp)), ws_app b r (fun x hx => h x (by simp [hx]))]
/-- the head's words: harness, a sum, cut -/
theorem head_words {P : Program} {s b : List Char} (he : P.initOrder = String.ofList ("harness".toList ++ Char.ofNat 32 :: (s ++ Char.ofNat 32 :: ("cut".toList ++ Char.ofNat 32 :: b)))) (hs : isSumSigns s = true) (hb : ∀ c ∈ s, c ≠ Char.ofNat 32) :
    ∃ R, behindMainWord (wordsSigns P.initOrder.toList) = "cut".toList :: R := by
  refine ⟨wordsSigns b, ?_⟩
  rw [he, String.toList_ofList, ws_app _ _ (by decide), ws_app _ _ hb, ws_app _ _ (by decide)]
  simp only [behindMainWord, hs, beq_self_eq_true, Bool.true_or, Bool.and_self, if_true]
theorem e_gc : ("cut".toList == "gc".toList) = false := by decide
theorem e_spec : ("cut".toList == "spec".toList) = false := by decide
theorem e_car : ("cut".toList == "carried".toList) = false := by decide
theorem e_sl (R : List (List Char)) : stripLifts liftWords ("cut".toList :: R) = ([], "cut".toList :: R) := by
  have h : ∀ (l : List String), (∀ o ∈ l, ("cut".toList == o.toList) = false) → stripLifts l ("cut".toList :: R) = ([], "cut".toList :: R) := by
    intro l
    induction l with
    | nil => intro _; rfl
    | cons o os ih => intro hl; rw [stripLifts, hl o (by simp)]; simp only [Bool.false_eq_true, if_false]; exact ih fun x hx => hl x (by simp [hx])
  exact h liftWords (by decide)
section
variable {P : Program} (h : ∃ R, behindMainWord (wordsSigns P.initOrder.toList) = "cut".toList :: R)
include h
theorem make_of : P.make = some .cut := by
  obtain ⟨R, h⟩ := h
  unfold Program.make
  rw [h]
  simp only [e_gc, e_spec, beq_self_eq_true, Bool.or_self, Bool.true_or, Bool.false_eq_true, if_false, if_true]
theorem lifts_of : P.liftsFinal = false := by
  obtain ⟨R, h⟩ := h
  unfold Program.liftsFinal Program.headLifts
  rw [h, e_sl]
  show (_ || _) = false
  rfl
theorem enter_of (hl : P.laysLater = false) (hr : P.bearsReflect = false) (hd : P.doorFits [] = true) : P.mayEnter = true := by
  obtain ⟨R, h⟩ := h
  unfold Program.mayEnter
  rw [h]
  dsimp only
  rw [e_sl, hl, hr]
  simp only [hd, e_gc, e_spec, e_car, beq_self_eq_true, Bool.or_self, Bool.false_and, Bool.not_false, Bool.or_true, Bool.and_true, List.head?_cons, List.contains_nil]
end
theorem closed_of {P : Program} {f : FuncId} {fn : Func} {s : ChangeSpec} {c : OpenClaim} (hm : P.make = some .cut) (hl : P.liftsFinal = false) (he : P.mayEnter = true) (h2 : laidOutB P = true) (h3 : mapsRowed P = true) (hst : (P.stops == []) = true) (hk : (P.stopKnobs == []) = true)
    (hp : P.plainKeys = c.plainKeys) (hh : P.stopsHeard = true) (i1 : P.inPlace f = c.inPlace) (i2 : P.unfollowed f = c.unfollowed) (i3 : P.recurses f = c.recurses) (i4 : P.varsNamed f = c.named)
    (rest : (c.wf (OpenSpec.ofChange s) && fn.params.all (P.readableRec ·) && namedTie P c.named s.vars && (c.stops == []) && (c.knobs == []) &&
      (c.maps == (fn.params.toList ++ s.plain.varTypes P).any (P.mapsRec ·)) && (c.ifaces == (fn.params.toList ++ s.plain.varTypes P).any (P.ifacesRec ·)) && (c.mapsOut == P.mapsAmong fn.resultTypes.toList) &&
      (c.loops == (fn.params.toList ++ s.plain.varTypes P).any (P.loopsFrom ·)) && (c.wideKeys == (fn.params.toList ++ s.plain.varTypes P ++ fn.resultTypes.toList).any (P.wideKeysFrom ·)) &&
      s.vars.all (P.varReadable ·) && fn.resultTypes.all (fun t => P.readableRec t && decide (t < P.types.size)) && (c.ifacesOut == fn.resultTypes.toList.any (P.ifacesRec ·)) && (c.loopsOut == fn.resultTypes.toList.any (P.loopsFrom ·)) && c.shortTexts.isNone && (c.lifted == false) && (some Make.cut == some c.make) &&
      (c.kinds == (if c.domain.isEmpty then [] else fn.params.toList.map fun t => match P.underlying t with | some (.int k) => some k | _ => none)) && (c.pinned == c.pinnedBy) &&
      (c.veiled == (fn.params.toList ++ s.plain.varTypes P ++ fn.resultTypes.toList).any (P.veiledRec ·)) && c.veiledFits P fn.params.toList (fn.params.toList ++ s.plain.varTypes P ++ fn.resultTypes.toList)) = true) : joinedFacts P f fn s c = true := by
  simp only [Bool.and_eq_true] at rest
  unfold joinedFacts
  rw [hm, hl, he, h2, h3, hst, hk, hp, hh, i1, i2, i3, i4]
  simp only [beq_self_eq_true, Bool.and_eq_true, Bool.and_true]
  have hkd := rest.1.1.1.2
  simp only [rest, and_self]
  exact ⟨⟨⟨⟨trivial, hkd⟩, trivial⟩, trivial⟩, trivial⟩
end Go.Proofs.Ytmgacmkikefpjaa
namespace Go.Proofs.Ytmgacmkikefpjaa
def ioS : List Nat := [51, 53, 49, 99, 97, 57, 100, 56, 49, 57, 50, 99, 53, 49, 49, 48, 97, 97, 102, 51, 53, 50, 53, 100, 54, 101, 48, 99, 51, 50, 102, 56, 97, 51, 51, 55, 57, 54, 57, 98, 56, 51, 99, 51, 102, 50, 101, 53, 55, 48, 101, 98, 50, 49, 97, 101, 101, 50, 48, 54, 55, 56, 101, 101]
def ioB : List Nat := [97, 116, 32, 104, 97, 110, 100, 99, 97, 114, 116, 47, 104, 97, 110, 100, 99, 97, 114, 116, 108, 97, 119, 49, 48, 46, 76, 97, 116, 65, 108, 108, 32, 104, 97, 110, 100, 99, 97, 114, 116, 47, 104, 97, 110, 100, 99, 97, 114, 116, 108, 97, 119, 49, 48, 46, 76, 97, 116, 78, 111, 114, 109, 115, 32, 104, 97, 110, 100, 99, 97, 114, 116, 47, 104, 97, 110, 100, 99, 97, 114, 116, 108, 97, 119, 49, 48, 46, 76, 97, 116, 74, 111, 105, 110, 115, 32, 104, 97, 110, 100, 99, 97, 114, 116, 47, 104, 97, 110, 100, 99, 97, 114, 116, 108, 97, 119, 49, 48, 46, 76, 97, 116, 76, 101, 97, 115, 116, 32, 104, 97, 110, 100, 99, 97, 114, 116, 47, 104, 97, 110, 100, 99, 97, 114, 116, 108, 97, 119, 49, 54, 46, 78, 111, 116, 101, 76, 97, 115, 116, 32, 104, 97, 110, 100, 99, 97, 114, 116, 47, 104, 97, 110, 100, 99, 97, 114, 116, 108, 97, 119, 49, 54, 46, 78, 111, 116, 101, 80, 117, 116, 115, 32, 104, 97, 110, 100, 99, 97, 114, 116, 47, 104, 97, 110, 100, 99, 97, 114, 116, 108, 97, 119, 49, 49, 46, 68, 101, 108, 116, 97, 76, 101, 97, 115, 116, 32, 104, 97, 110, 100, 99, 97, 114, 116, 47, 104, 97, 110, 100, 99, 97, 114, 116, 108, 97, 119, 49, 49, 46, 68, 101, 108, 116, 97, 78, 101, 101, 100, 108, 101, 115, 115, 32, 104, 97, 110, 100, 99, 97, 114, 116, 47, 104, 97, 110, 100, 99, 97, 114, 116, 108, 97, 119, 49, 49, 46, 68, 101, 108, 116, 97, 80, 97, 114, 116, 115, 32, 104, 97, 110, 100, 99, 97, 114, 116, 47, 104, 97, 110, 100, 99, 97, 114, 116, 108, 97, 119, 49, 49, 46, 68, 101, 108, 116, 97, 83, 116, 97, 110, 100, 115, 32, 104, 97, 110, 100, 99, 97, 114, 116, 47, 104, 97, 110, 100, 99, 97, 114, 116, 108, 97, 119, 49, 52, 46, 84, 97, 103, 115, 65, 100, 100, 115, 32, 104, 97, 110, 100, 99, 97, 114, 116, 47, 104, 97, 110, 100, 99, 97, 114, 116, 108, 97, 119, 49, 52, 46, 84, 97, 103, 115, 87, 105, 110, 32, 104, 97, 110, 100, 99, 97, 114, 116, 47, 104, 97, 110, 100, 99, 97, 114, 116, 108, 97, 119, 49, 53, 46, 67, 111, 117, 110, 116, 84, 117, 114, 110, 115, 32, 104, 97, 110, 100, 99, 97, 114, 116, 47, 104, 97, 110, 100, 99, 97, 114, 116, 108, 97, 119, 49, 53, 46, 67, 111, 117, 110, 116, 65, 100, 100, 115, 32, 104, 97, 110, 100, 99, 97, 114, 116, 47, 104, 97, 110, 100, 99, 97, 114, 116, 108, 97, 119, 50, 49, 46, 67, 104, 117, 110, 107, 70, 101, 119, 101, 115, 116, 32, 104, 97, 110, 100, 99, 97, 114, 116, 47, 104, 97, 110, 100, 99, 97, 114, 116, 108, 97, 119, 49, 51, 46, 68, 111, 116, 115, 65, 100, 100, 115, 32, 104, 97, 110, 100, 99, 97, 114, 116, 47, 104, 97, 110, 100, 99, 97, 114, 116, 108, 97, 119, 49, 51, 46, 68, 111, 116, 115, 65, 108, 111, 110, 101, 32, 104, 97, 110, 100, 99, 97, 114, 116, 47, 104, 97, 110, 100, 99, 97, 114, 116, 108, 97, 119, 49, 51, 46, 68, 111, 116, 115, 74, 111, 105, 110, 115]
theorem io_eq : Try.prog.initOrder = String.ofList ("harness".toList ++ Char.ofNat 32 :: (ioS.map Char.ofNat ++ Char.ofNat 32 :: ("cut".toList ++ Char.ofNat 32 :: ioB.map Char.ofNat))) := by kernel_rfl
theorem io_sum : isSumSigns (ioS.map Char.ofNat) = true := by kernel_rfl
theorem io_hd : ∃ R, behindMainWord (wordsSigns Try.prog.initOrder.toList) = "cut".toList :: R := head_words io_eq io_sum (by decide)
theorem p_make : Try.prog.make = some .cut := make_of io_hd
theorem p_lifts : Try.prog.liftsFinal = false := lifts_of io_hd
theorem p_ll : Try.prog.laysLater = false := by kernel_rfl
theorem p_br : Try.prog.bearsReflect = false := by kernel_rfl
theorem p_df : Try.prog.doorFits [] = true := by kernel_rfl
theorem p_enter : Try.prog.mayEnter = true := enter_of io_hd p_ll p_br p_df
theorem p_rowed : mapsRowed Try.prog = true := by kernel_rfl
theorem p_stops : (Try.prog.stops == []) = true := by kernel_rfl
theorem p_knobs : (Try.prog.stopKnobs == []) = true := by kernel_rfl
theorem p_keys : Try.prog.plainKeys = false := by kernel_rfl
theorem p_heard : Try.prog.stopsHeard = true := by kernel_rfl
end Go.Proofs.Ytmgacmkikefpjaa
