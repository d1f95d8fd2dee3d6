/- Contracts of functions, printed by a program of this seat (wip/tools/gen.py) out of its specs. -/
import Derived.Test.YtjgbcaegofpggaaCm
set_option linter.unusedSimpArgs false
set_option linter.unusedVariables false
set_option maxHeartbeats 800000
set_option maxRecDepth 100000
namespace Go.Proofs.Ytjgbcaegofpggaa
open Go.RowKit


theorem k4_ok : KeyOk (mkKey 4 3 nm0 0 0) := mkKey_ok rfl nm0_byt (by decide) (by decide) (by decide) (by decide)
theorem k0_ok : KeyOk key0 := mkKey_ok rfl nm0_byt (by decide) (by decide) (by decide) (by decide)
theorem k4_words : wordsL (mkKey 4 3 nm0 0 0) = [262147, 0, 0] := by decide
theorem k4_right : keyR (mkKey 4 3 nm0 0 0) = true := by decide
theorem k0_right : keyR key0 = false := by decide
theorem dot_hi {x : List Int} (h : KeyOk x) : dotN x / 4294967296 % 256 = kn x 10 := by have := h.b10; have := h.b11; unfold dotN; omega
theorem dot_lo {x : List Int} (h : KeyOk x) : dotN x % 4294967296 = kn x 11 := by have := h.b10; have := h.b11; unfold dotN; omega


theorem c_law08alive  (w0 : World) :
    CallR Try.prog 83 #[] w0 fun v w' => v = .bool true ∧ Ext w0 w' := by
  have hS : St NoB w0 w0 [] := St.start w0
  refine c_enter (l := [undef, undef, undef, undef, undef, undef, undef, undef, undef, undef, undef, undef, undef, undef, undef, undef]) Try.func83 rfl (by simp only [Try.ntmps83, List.size_toArray, List.length_cons, List.length_nil, Nat.reduceAdd, Nat.reduceSub, Array.replicate_succ, Array.replicate_zero, List.push_toArray, List.append_toArray, List.nil_append, List.cons_append]) ?_
  refine x_seq fun K1 hK1 => ?_
  refine x_region ?_
  refine s_go (s_assign) ?_
  try simp only [opv, n1, n2, n3, n4, Value.cells]
  refine x_nil ?_
  refine hK1 _ _ ?_
  refine x_seq fun K2 hK2 => ?_
  refine x_region ?_
  refine s_go (s_build_struct (cells := #[_, _, .int .u8 0, .int .u8 0, .int .u8 0, .int .u8 0, .int .u8 0, .int .u8 0, .int .u8 0, .int .u8 0, .int .u8 0, .int .u32 0]) Try.underlying89 ti89 bp89 (hc := by simp only [List.map_toArray, List.map_cons, List.map_nil, opv, n1, n2, n3, n4, Value.cells, List.toList_toArray]; (repeat (refine fill_cons rfl rfl (Nat.le_of_ble_eq_true rfl) ?_)); rfl)) ?_
  try simp only [opv, n1, n2, n3, n4, Value.cells]
  have hl4 : (mkKey 4 3 nm0 0 0).length = 12 := rfl
  rw [show (#[.int .u8 4, .int .u16 3, .int .u8 0, .int .u8 0, .int .u8 0, .int .u8 0, .int .u8 0, .int .u8 0, .int .u8 0, .int .u8 0, .int .u8 0, .int .u32 0] : Array Value) = KA (mkKey 4 3 nm0 0 0) from rfl]
  refine m_alloc ti89 hS (fun w1 g1 hS => ?_)
  try simp only [opv, n1, n2, n3, n4, Value.cells, Array.toArray_toList] at hS ⊢
  have hl0 : key0.length = 12 := rfl
  have hS : St NoB w0 w1 [.obj g1 (.cells (KA key0) 89 (0, 0))] := hS
  first | refine m_store_obj ti89 (hS := hS) (hc := by first | exact zi_set rfl (by omega) | exact zi_whole (by omega) (by omega) | (first | exact splice_ic (by first | omega | (simp [*]; done) | (simp [*]; omega)) | exact splice_il (by first | omega | (simp [*]; done) | (simp [*]; omega)) | exact splice_whole (by first | (simp [opv, Value.cells, *]; done) | rfl) | (simp only [opv, n1, n2, Value.cells, splice, List.take_succ_cons, List.take_zero, List.drop_succ_cons, List.drop_zero, List.length_cons, List.length_nil, Nat.zero_add, Nat.reduceAdd, List.append_assoc, List.cons_append, List.nil_append]; rfl))) (hv := by first | rfl | (show (zi _ _).toArray.size = _; rw [zi_size (by omega)]; rfl) | (simp [opv, Value.cells, *]; done)) (hfit := by first | omega | (rw [zi_size (by omega)]; first | rfl | decide) | (simp only [ic_size, List.length_map, List.size_toArray]; first | omega | decide) | rfl | (simp [*]; done) | (simp [*]; omega)) (h1 := by first | exact zi_one _ _ | exact ic_one _ _ | simp [opv, Value.cells, Value.oneCell']) (h := fun w2 hS => ?_) | refine m_store_vec ti89 (hS := hS) (hc := by first | exact zi_set rfl (by omega) | exact zi_whole (by omega) (by omega) | (first | exact splice_ic (by first | omega | (simp [*]; done) | (simp [*]; omega)) | exact splice_il (by first | omega | (simp [*]; done) | (simp [*]; omega)) | exact splice_whole (by first | (simp [opv, Value.cells, *]; done) | rfl) | (simp only [opv, n1, n2, Value.cells, splice, List.take_succ_cons, List.take_zero, List.drop_succ_cons, List.drop_zero, List.length_cons, List.length_nil, Nat.zero_add, Nat.reduceAdd, List.append_assoc, List.cons_append, List.nil_append]; rfl))) (hv := by first | rfl | (show (zi _ _).toArray.size = _; rw [zi_size (by omega)]; rfl) | (simp [opv, Value.cells, *]; done)) (hfit := by first | omega | (rw [zi_size (by omega)]; first | rfl | decide) | (simp only [ic_size, List.length_map, List.size_toArray]; first | omega | decide) | rfl | (simp [*]; done) | (simp [*]; omega)) (h1 := by first | exact zi_one _ _ | exact ic_one _ _ | simp [opv, Value.cells, Value.oneCell']) (h := fun w2 hS => ?_)
  try simp only [opv, n1, n2, n3, n4, Value.cells, Array.toArray_toList] at hS ⊢
  refine x_nil ?_
  refine hK2 _ _ ?_
  refine x_seq fun K3 hK3 => ?_
  refine x_region ?_
  first | refine s_go (m_load_row Try.underlying89 (hi := ti89) (hS := hS) (hfit := by first | omega | (rw [zi_size (by omega)]; first | rfl | decide) | (simp only [ic_size, List.length_map, List.size_toArray]; first | omega | decide) | rfl | (simp [*]; done) | (simp [*]; omega))) ?_ | refine s_go (m_loada_obj Try.underlying89 (hi := ti89) (hS := hS) (hfit := by first | omega | (rw [zi_size (by omega)]; first | rfl | decide) | (simp only [ic_size, List.length_map, List.size_toArray]; first | omega | decide) | rfl | (simp [*]; done) | (simp [*]; omega))) ?_ | refine s_go (m_loada_bx Try.underlying89 (hi := ti89) (hS := hS) (hfit := by first | omega | (rw [zi_size (by omega)]; first | rfl | decide) | (simp only [ic_size, List.length_map, List.size_toArray]; first | omega | decide) | rfl | (simp [*]; done) | (simp [*]; omega))) ?_ | refine s_go (m_loada_rd Try.underlying89 (hi := ti89) (hS := hS) (hfit := by first | omega | (rw [zi_size (by omega)]; first | rfl | decide) | (simp only [ic_size, List.length_map, List.size_toArray]; first | omega | decide) | rfl | (simp [*]; done) | (simp [*]; omega))) ?_ | refine s_go (m_loada_vec Try.underlying89 (hi := ti89) (hS := hS) (hfit := by first | omega | (rw [zi_size (by omega)]; first | rfl | decide) | (simp only [ic_size, List.length_map, List.size_toArray]; first | omega | decide) | rfl | (simp [*]; done) | (simp [*]; omega))) ?_
  try simp only [opv, n1, n2, n3, n4, Value.cells, List.getElem_toArray, List.getElem_cons_zero, List.getElem_cons_succ]
  refine s_call en88 ?_
  try simp only [opv, n1, n2, n3, n4, Value.cells, List.map_toArray, List.map_cons, List.map_nil, List.append_toArray, List.cons_append, List.nil_append, Array.append_empty]
  refine CallR.mono (c_keyWords _ k4_ok _) ?_
  rintro _ w3 ⟨rfl, hE3⟩
  replace hS := hS.ext hE3
  try simp only [opv, n1, n2, n3, n4, Value.cells]
  refine s_go (s_build_arr (cells := #[_, _, _]) Try.underlying93 ti93 ti53 (hc := by simp only [List.map_toArray, List.map_cons, List.map_nil, opv, n1, n2, n3, n4, Value.cells, List.toList_toArray]; (repeat (refine fill_cons rfl rfl (Nat.le_of_ble_eq_true rfl) ?_)); rfl)) ?_
  try simp only [opv, n1, n2, n3, n4, Value.cells]
  rw [show (#[.int .u64 262147, .int .u64 0, .int .u64 0] : Array Value) = ic .u64 [262147, 0, 0] from rfl]
  refine s_go (s_eql_agg eqv93 (hg := eg93) (hX := zi_ic (by rfl)) (hY := zi_ic (by rfl)) (h1 := by rfl) (h2 := by rfl)) ?_
  try simp only [opv, n1, n2, n3, n4, Value.cells]
  rw [k4_words]
  try simp only [eq_self, decide_true, beq_self_eq_true, Bool.and_self]
  refine s_go (s_move) ?_
  try simp only [opv, n1, n2, n3, n4, Value.cells]
  refine g_on (yi (t := 7) rfl rfl) ?_
  first | refine s_go (m_load_row Try.underlying89 (hi := ti89) (hS := hS) (hfit := by first | omega | (rw [zi_size (by omega)]; first | rfl | decide) | (simp only [ic_size, List.length_map, List.size_toArray]; first | omega | decide) | rfl | (simp [*]; done) | (simp [*]; omega))) ?_ | refine s_go (m_loada_obj Try.underlying89 (hi := ti89) (hS := hS) (hfit := by first | omega | (rw [zi_size (by omega)]; first | rfl | decide) | (simp only [ic_size, List.length_map, List.size_toArray]; first | omega | decide) | rfl | (simp [*]; done) | (simp [*]; omega))) ?_ | refine s_go (m_loada_bx Try.underlying89 (hi := ti89) (hS := hS) (hfit := by first | omega | (rw [zi_size (by omega)]; first | rfl | decide) | (simp only [ic_size, List.length_map, List.size_toArray]; first | omega | decide) | rfl | (simp [*]; done) | (simp [*]; omega))) ?_ | refine s_go (m_loada_rd Try.underlying89 (hi := ti89) (hS := hS) (hfit := by first | omega | (rw [zi_size (by omega)]; first | rfl | decide) | (simp only [ic_size, List.length_map, List.size_toArray]; first | omega | decide) | rfl | (simp [*]; done) | (simp [*]; omega))) ?_ | refine s_go (m_loada_vec Try.underlying89 (hi := ti89) (hS := hS) (hfit := by first | omega | (rw [zi_size (by omega)]; first | rfl | decide) | (simp only [ic_size, List.length_map, List.size_toArray]; first | omega | decide) | rfl | (simp [*]; done) | (simp [*]; omega))) ?_
  try simp only [opv, n1, n2, n3, n4, Value.cells, List.getElem_toArray, List.getElem_cons_zero, List.getElem_cons_succ]
  refine g_on (yi (t := 7) rfl rfl) ?_
  refine s_call en86 ?_
  try simp only [opv, n1, n2, n3, n4, Value.cells, List.map_toArray, List.map_cons, List.map_nil, List.append_toArray, List.cons_append, List.nil_append, Array.append_empty]
  refine CallR.mono (c_keyRight _ k4_ok _) ?_
  rintro _ w4 ⟨rfl, hE4⟩
  replace hS := hS.ext hE4
  try simp only [opv, n1, n2, n3, n4, Value.cells]
  rw [k4_right]
  first | refine s_go (s_pick_t) ?_ | refine s_go (s_pick_f) ?_
  try simp only [opv, n1, n2, n3, n4, Value.cells]
  refine s_go (s_move) ?_
  try simp only [opv, n1, n2, n3, n4, Value.cells]
  refine g_on (yi (t := 11) rfl rfl) ?_
  refine s_go (s_build_struct (cells := #[.int .u8 0, .int .u16 0, .int .u8 0, .int .u8 0, .int .u8 0, .int .u8 0, .int .u8 0, .int .u8 0, .int .u8 0, .int .u8 0, .int .u8 0, .int .u32 0]) Try.underlying89 ti89 bp89 (hc := by simp only [List.map_toArray, List.map_cons, List.map_nil, opv, n1, n2, n3, n4, Value.cells, List.toList_toArray]; (repeat (refine fill_cons rfl rfl (Nat.le_of_ble_eq_true rfl) ?_)); rfl)) ?_
  try simp only [opv, n1, n2, n3, n4, Value.cells]
  rw [show (#[.int .u8 0, .int .u16 0, .int .u8 0, .int .u8 0, .int .u8 0, .int .u8 0, .int .u8 0, .int .u8 0, .int .u8 0, .int .u8 0, .int .u8 0, .int .u32 0] : Array Value) = KA key0 from rfl]
  refine g_on (yi (t := 11) rfl rfl) ?_
  refine s_call en86 ?_
  try simp only [opv, n1, n2, n3, n4, Value.cells, List.map_toArray, List.map_cons, List.map_nil, List.append_toArray, List.cons_append, List.nil_append, Array.append_empty]
  refine CallR.mono (c_keyRight _ k0_ok _) ?_
  rintro _ w5 ⟨rfl, hE5⟩
  replace hS := hS.ext hE5
  try simp only [opv, n1, n2, n3, n4, Value.cells]
  rw [k0_right]
  refine g_on (yi (t := 11) rfl rfl) ?_
  refine s_go (s_not) ?_
  try simp only [opv, n1, n2, n3, n4, Value.cells]
  simp only [Bool.not_false]
  first | refine s_go (s_pick_t) ?_ | refine s_go (s_pick_f) ?_
  try simp only [opv, n1, n2, n3, n4, Value.cells]
  refine s_go (s_assign) ?_
  try simp only [opv, n1, n2, n3, n4, Value.cells]
  refine x_nil ?_
  refine hK3 _ _ ?_
  refine x_ret ?_
  refine r_tmp rfl ?_
  exact ⟨rfl, hS.ext_of⟩

theorem c_KeyDots (x : List Int) (hk : KeyOk x) (z : Nat) (hz : z < 18446744073709551616) (w0 : World) :
    CallR Try.prog 14 #[.agg (KA x), .int .u64 (z : Int)] w0 fun v w' => v = .bool true ∧ Ext w0 w' := by
  have hS : St NoB w0 w0 [] := St.start w0
  refine c_enter (l := [.agg (KA x), .int .u64 (z : Int), undef, undef, undef, undef, undef, undef, undef, undef, undef, undef, undef, undef, undef, undef, undef, undef, undef, undef, undef, undef, undef, undef, undef, undef, undef, undef, undef, undef, undef, undef, undef, undef, undef, undef, undef, undef, undef, undef, undef, undef, undef, undef, undef, undef, undef, undef, undef, undef, undef, undef, undef, undef, undef, undef]) Try.func14 rfl (by simp only [Try.ntmps14, List.size_toArray, List.length_cons, List.length_nil, Nat.reduceAdd, Nat.reduceSub, Array.replicate_succ, Array.replicate_zero, List.push_toArray, List.append_toArray, List.nil_append, List.cons_append]) ?_
  refine x_seq fun K1 hK1 => ?_
  refine x_region ?_
  have hkl := hk.len
  have hdl := dotN_lt hk
  refine m_box hS (fun w1 g1 hS => ?_)
  try simp only [opv, n1, n2, n3, n4, Value.cells, Array.toArray_toList] at hS ⊢
  refine s_go (s_assign) ?_
  try simp only [opv, n1, n2, n3, n4, Value.cells]
  refine x_nil ?_
  refine hK1 _ _ ?_
  refine x_seq fun K2 hK2 => ?_
  refine x_region ?_
  refine s_go (s_move) ?_
  try simp only [opv, n1, n2, n3, n4, Value.cells]
  refine s_call en80 ?_
  try simp only [opv, n1, n2, n3, n4, Value.cells, List.map_toArray, List.map_cons, List.map_nil, List.append_toArray, List.cons_append, List.nil_append, Array.append_empty]
  refine CallR.mono (c_keyUndot z hz _) ?_
  rintro _ w2 ⟨rfl, hE2⟩
  replace hS := hS.ext hE2
  try simp only [opv, n1, n2, n3, n4, Value.cells]
  refine s_go (s_move) ?_
  try simp only [opv, n1, n2, n3, n4, Value.cells]
  refine s_go (s_extract (hv := rfl)) ?_
  try simp only [List.getElem_toArray, List.getElem_cons_zero, List.getElem_cons_succ]
  try simp only [opv, n1, n2, n3, n4, Value.cells]
  refine s_go (s_extract (hv := rfl)) ?_
  try simp only [List.getElem_toArray, List.getElem_cons_zero, List.getElem_cons_succ]
  try simp only [opv, n1, n2, n3, n4, Value.cells]
  refine s_go (s_assign) ?_
  try simp only [opv, n1, n2, n3, n4, Value.cells]
  refine s_go (s_assign) ?_
  try simp only [opv, n1, n2, n3, n4, Value.cells]
  refine x_nil ?_
  refine hK2 _ _ ?_
  refine x_seq fun K3 hK3 => ?_
  refine x_region ?_
  first | refine s_go (m_load_row Try.underlying89 (hi := ti89) (hS := hS) (hfit := by first | omega | (rw [zi_size (by omega)]; first | rfl | decide) | (simp only [ic_size, List.length_map, List.size_toArray]; first | omega | decide) | rfl | (simp [*]; done) | (simp [*]; omega))) ?_ | refine s_go (m_loada_obj Try.underlying89 (hi := ti89) (hS := hS) (hfit := by first | omega | (rw [zi_size (by omega)]; first | rfl | decide) | (simp only [ic_size, List.length_map, List.size_toArray]; first | omega | decide) | rfl | (simp [*]; done) | (simp [*]; omega))) ?_ | refine s_go (m_loada_bx Try.underlying89 (hi := ti89) (hS := hS) (hfit := by first | omega | (rw [zi_size (by omega)]; first | rfl | decide) | (simp only [ic_size, List.length_map, List.size_toArray]; first | omega | decide) | rfl | (simp [*]; done) | (simp [*]; omega))) ?_ | refine s_go (m_loada_rd Try.underlying89 (hi := ti89) (hS := hS) (hfit := by first | omega | (rw [zi_size (by omega)]; first | rfl | decide) | (simp only [ic_size, List.length_map, List.size_toArray]; first | omega | decide) | rfl | (simp [*]; done) | (simp [*]; omega))) ?_ | refine s_go (m_loada_vec Try.underlying89 (hi := ti89) (hS := hS) (hfit := by first | omega | (rw [zi_size (by omega)]; first | rfl | decide) | (simp only [ic_size, List.length_map, List.size_toArray]; first | omega | decide) | rfl | (simp [*]; done) | (simp [*]; omega))) ?_
  try simp only [opv, n1, n2, n3, n4, Value.cells, List.getElem_toArray, List.getElem_cons_zero, List.getElem_cons_succ]
  refine s_call en81 ?_
  try simp only [opv, n1, n2, n3, n4, Value.cells, List.map_toArray, List.map_cons, List.map_nil, List.append_toArray, List.cons_append, List.nil_append, Array.append_empty]
  refine CallR.mono (c_keyDot _ (by assumption) _) ?_
  rintro _ w3 ⟨rfl, hE3⟩
  replace hS := hS.ext hE3
  try simp only [opv, n1, n2, n3, n4, Value.cells]
  refine s_call en80 ?_
  try simp only [opv, n1, n2, n3, n4, Value.cells, List.map_toArray, List.map_cons, List.map_nil, List.append_toArray, List.cons_append, List.nil_append, Array.append_empty]
  refine CallR.mono (c_keyUndot (dotN x) (by omega) _) ?_
  rintro _ w4 ⟨rfl, hE4⟩
  replace hS := hS.ext hE4
  try simp only [opv, n1, n2, n3, n4, Value.cells]
  simp only [dot_hi hk, dot_lo hk]
  refine s_go (s_move) ?_
  try simp only [opv, n1, n2, n3, n4, Value.cells]
  refine s_go (s_extract (hv := rfl)) ?_
  try simp only [List.getElem_toArray, List.getElem_cons_zero, List.getElem_cons_succ]
  try simp only [opv, n1, n2, n3, n4, Value.cells]
  refine s_go (s_extract (hv := rfl)) ?_
  try simp only [List.getElem_toArray, List.getElem_cons_zero, List.getElem_cons_succ]
  try simp only [opv, n1, n2, n3, n4, Value.cells]
  refine s_go (s_assign) ?_
  try simp only [opv, n1, n2, n3, n4, Value.cells]
  refine s_go (s_assign) ?_
  try simp only [opv, n1, n2, n3, n4, Value.cells]
  refine x_nil ?_
  refine hK3 _ _ ?_
  refine x_seq fun K4 hK4 => ?_
  refine x_quiet (by kernel_rfl) (by kernel_rfl) hS ?_
  first | refine q_go (fun w hS => m_load_row Try.underlying89 (hi := ti89) (hS := hS) (hfit := by first | omega | (rw [zi_size (by omega)]; first | rfl | decide) | (simp only [ic_size, List.length_map, List.size_toArray]; first | omega | decide) | rfl | (simp [*]; done) | (simp [*]; omega))) ?_ | refine q_go (fun w hS => m_loada_obj Try.underlying89 (hi := ti89) (hS := hS) (hfit := by first | omega | (rw [zi_size (by omega)]; first | rfl | decide) | (simp only [ic_size, List.length_map, List.size_toArray]; first | omega | decide) | rfl | (simp [*]; done) | (simp [*]; omega))) ?_ | refine q_go (fun w hS => m_loada_bx Try.underlying89 (hi := ti89) (hS := hS) (hfit := by first | omega | (rw [zi_size (by omega)]; first | rfl | decide) | (simp only [ic_size, List.length_map, List.size_toArray]; first | omega | decide) | rfl | (simp [*]; done) | (simp [*]; omega))) ?_ | refine q_go (fun w hS => m_loada_rd Try.underlying89 (hi := ti89) (hS := hS) (hfit := by first | omega | (rw [zi_size (by omega)]; first | rfl | decide) | (simp only [ic_size, List.length_map, List.size_toArray]; first | omega | decide) | rfl | (simp [*]; done) | (simp [*]; omega))) ?_ | refine q_go (fun w hS => m_loada_vec Try.underlying89 (hi := ti89) (hS := hS) (hfit := by first | omega | (rw [zi_size (by omega)]; first | rfl | decide) | (simp only [ic_size, List.length_map, List.size_toArray]; first | omega | decide) | rfl | (simp [*]; done) | (simp [*]; omega))) ?_
  try simp only [opv, n1, n2, n3, n4, Value.cells, List.getElem_toArray, List.getElem_cons_zero, List.getElem_cons_succ]
  apply q_call en81
  case H =>
    intro w hS
    try simp only [opv, n1, n2, n3, n4, List.map_toArray, List.map_cons, List.map_nil, List.append_toArray, List.cons_append, List.nil_append, Array.append_empty]
    refine CallR.mono (c_keyDot x hk _) ?_
    rintro _ w1 ⟨rfl, hE⟩; exact ⟨rfl, hS.ext hE⟩
  try simp only [opv, n1, n2, n3, n4, Value.cells]
  first | refine q_go (fun w hS => m_load_row Try.underlying89 (hi := ti89) (hS := hS) (hfit := by first | omega | (rw [zi_size (by omega)]; first | rfl | decide) | (simp only [ic_size, List.length_map, List.size_toArray]; first | omega | decide) | rfl | (simp [*]; done) | (simp [*]; omega))) ?_ | refine q_go (fun w hS => m_loada_obj Try.underlying89 (hi := ti89) (hS := hS) (hfit := by first | omega | (rw [zi_size (by omega)]; first | rfl | decide) | (simp only [ic_size, List.length_map, List.size_toArray]; first | omega | decide) | rfl | (simp [*]; done) | (simp [*]; omega))) ?_ | refine q_go (fun w hS => m_loada_bx Try.underlying89 (hi := ti89) (hS := hS) (hfit := by first | omega | (rw [zi_size (by omega)]; first | rfl | decide) | (simp only [ic_size, List.length_map, List.size_toArray]; first | omega | decide) | rfl | (simp [*]; done) | (simp [*]; omega))) ?_ | refine q_go (fun w hS => m_loada_rd Try.underlying89 (hi := ti89) (hS := hS) (hfit := by first | omega | (rw [zi_size (by omega)]; first | rfl | decide) | (simp only [ic_size, List.length_map, List.size_toArray]; first | omega | decide) | rfl | (simp [*]; done) | (simp [*]; omega))) ?_ | refine q_go (fun w hS => m_loada_vec Try.underlying89 (hi := ti89) (hS := hS) (hfit := by first | omega | (rw [zi_size (by omega)]; first | rfl | decide) | (simp only [ic_size, List.length_map, List.size_toArray]; first | omega | decide) | rfl | (simp [*]; done) | (simp [*]; omega))) ?_
  try simp only [opv, n1, n2, n3, n4, Value.cells, List.getElem_toArray, List.getElem_cons_zero, List.getElem_cons_succ]
  apply q_call en82
  case H =>
    intro w hS
    try simp only [opv, n1, n2, n3, n4, List.map_toArray, List.map_cons, List.map_nil, List.append_toArray, List.cons_append, List.nil_append, Array.append_empty]
    refine CallR.mono (c_ref08Words x hk _) ?_
    rintro _ w1 ⟨rfl, hE⟩; exact ⟨rfl, hS.ext hE⟩
  try simp only [opv, n1, n2, n3, n4, Value.cells]
  refine q_go (fun w hS => s_index_one Try.underlying93 ti53 Try.underlying53 (hv := (show (ic .u64 (wordsL x))[2]? = some (.int .u64 (dotN x : Int)) from rfl))) ?_
  try simp only [opv, n1, n2, n3, n4, Value.cells, Nat.mul_one, Nat.zero_add, Int.toNat_natCast, Int.reduceToNat]
  refine q_go (fun w hS => s_eql) ?_
  try simp only [opv, n1, n2, n3, n4, Value.cells]
  try simp only [eq_self, decide_true, beq_self_eq_true, Bool.and_self]
  refine q_go (fun w hS => s_move) ?_
  try simp only [opv, n1, n2, n3, n4, Value.cells]
  refine q_on (yi (t := 26) rfl rfl) ?_
  refine q_go (fun w hS => s_move) ?_
  try simp only [opv, n1, n2, n3, n4, Value.cells]
  refine q_on (yi (t := 26) rfl rfl) ?_
  refine q_go (fun w hS => s_conv Try.underlying5 Try.underlying53 (hc := by first | exact wr_u64 (by omega) (by omega) | rfl)) ?_
  try simp only [opv, n1, n2, n3, n4, Value.cells]
  refine q_on (yi (t := 26) rfl rfl) ?_
  refine q_go (fun w hS => s_move) ?_
  try simp only [opv, n1, n2, n3, n4, Value.cells]
  refine q_on (yi (t := 26) rfl rfl) ?_
  refine q_go (fun w hS => s_quo (hc := quo_u64 (r := z) (p := 4294967296) hz)) ?_
  try simp only [opv, n1, n2, n3, n4, Value.cells]
  refine q_on (yi (t := 26) rfl rfl) ?_
  refine q_go (fun w hS => s_rem (hc := rem_nat)) ?_
  try simp only [opv, n1, n2, n3, n4, Value.cells]
  refine q_on (yi (t := 26) rfl rfl) ?_
  refine q_go (fun w hS => s_eql) ?_
  try simp only [opv, n1, n2, n3, n4, Value.cells]
  try simp only [eq_self, decide_true, beq_self_eq_true, Bool.and_self]
  first | refine q_go (fun w hS => s_pick_t) ?_ | refine q_go (fun w hS => s_pick_f) ?_
  try simp only [opv, n1, n2, n3, n4, Value.cells]
  refine q_go (fun w hS => s_move) ?_
  try simp only [opv, n1, n2, n3, n4, Value.cells]
  refine q_on (yi (t := 34) rfl rfl) ?_
  refine q_go (fun w hS => s_move) ?_
  try simp only [opv, n1, n2, n3, n4, Value.cells]
  refine q_on (yi (t := 34) rfl rfl) ?_
  refine q_go (fun w hS => s_conv Try.underlying22 Try.underlying53 (hc := by first | exact wr_u64 (by omega) (by omega) | rfl)) ?_
  try simp only [opv, n1, n2, n3, n4, Value.cells]
  refine q_on (yi (t := 34) rfl rfl) ?_
  refine q_go (fun w hS => s_move) ?_
  try simp only [opv, n1, n2, n3, n4, Value.cells]
  refine q_on (yi (t := 34) rfl rfl) ?_
  refine q_go (fun w hS => s_rem (hc := rem_nat)) ?_
  try simp only [opv, n1, n2, n3, n4, Value.cells]
  refine q_on (yi (t := 34) rfl rfl) ?_
  refine q_go (fun w hS => s_eql) ?_
  try simp only [opv, n1, n2, n3, n4, Value.cells]
  try simp only [eq_self, decide_true, beq_self_eq_true, Bool.and_self]
  first | refine q_go (fun w hS => s_pick_t) ?_ | refine q_go (fun w hS => s_pick_f) ?_
  try simp only [opv, n1, n2, n3, n4, Value.cells]
  refine q_go (fun w hS => s_move) ?_
  try simp only [opv, n1, n2, n3, n4, Value.cells]
  refine q_on (yi (t := 41) rfl rfl) ?_
  refine q_go (fun w hS => s_move) ?_
  try simp only [opv, n1, n2, n3, n4, Value.cells]
  refine q_on (yi (t := 41) rfl rfl) ?_
  first | refine q_go (fun w hS => m_fieldAddr Try.underlying89 (hi := ti5)) ?_ | refine q_go (fun w hS => m_fieldAddr_rd Try.underlying89 (hi := ti5) (hS := hS)) ?_ | refine q_go (fun w hS => m_fieldAddr_vec Try.underlying89 (hi := ti5) (hS := hS)) ?_
  try simp only [opv, n1, n2, n3, n4, Value.cells, Nat.zero_add, Nat.add_zero, List.getElem_toArray, List.getElem_cons_zero, List.getElem_cons_succ]
  refine q_on (yi (t := 41) rfl rfl) ?_
  first | refine q_go (fun w hS => m_load_obj Try.underlying5 (hS := hS) (hv := by first | rfl | exact zi_get rfl (by omega) | exact ic_get (by omega) | exact il_get (by omega))) ?_ | refine q_go (fun w hS => m_load_bx Try.underlying5 (hS := hS) (hv := by first | rfl | exact zi_get rfl (by omega) | exact ic_get (by omega) | exact il_get (by omega))) ?_ | refine q_go (fun w hS => m_load_rd Try.underlying5 (hS := hS) (hv := by first | rfl | exact zi_get rfl (by omega) | exact ic_get (by omega) | exact il_get (by omega))) ?_ | refine q_go (fun w hS => m_load_vec Try.underlying5 (hS := hS) (hv := by first | rfl | exact zi_get rfl (by omega) | exact ic_get (by omega) | exact il_get (by omega))) ?_
  try simp only [opv, n1, n2, n3, n4, Value.cells, List.getElem_toArray, List.getElem_cons_zero, List.getElem_cons_succ]
  rw [hk.e10]
  refine q_on (yi (t := 41) rfl rfl) ?_
  refine q_go (fun w hS => s_eql) ?_
  try simp only [opv, n1, n2, n3, n4, Value.cells]
  try simp only [eq_self, decide_true, beq_self_eq_true, Bool.and_self]
  first | refine q_go (fun w hS => s_pick_t) ?_ | refine q_go (fun w hS => s_pick_f) ?_
  try simp only [opv, n1, n2, n3, n4, Value.cells]
  refine q_go (fun w hS => s_move) ?_
  try simp only [opv, n1, n2, n3, n4, Value.cells]
  refine q_on (yi (t := 47) rfl rfl) ?_
  refine q_go (fun w hS => s_move) ?_
  try simp only [opv, n1, n2, n3, n4, Value.cells]
  refine q_on (yi (t := 47) rfl rfl) ?_
  first | refine q_go (fun w hS => m_fieldAddr Try.underlying89 (hi := ti22)) ?_ | refine q_go (fun w hS => m_fieldAddr_rd Try.underlying89 (hi := ti22) (hS := hS)) ?_ | refine q_go (fun w hS => m_fieldAddr_vec Try.underlying89 (hi := ti22) (hS := hS)) ?_
  try simp only [opv, n1, n2, n3, n4, Value.cells, Nat.zero_add, Nat.add_zero, List.getElem_toArray, List.getElem_cons_zero, List.getElem_cons_succ]
  refine q_on (yi (t := 47) rfl rfl) ?_
  first | refine q_go (fun w hS => m_load_obj Try.underlying22 (hS := hS) (hv := by first | rfl | exact zi_get rfl (by omega) | exact ic_get (by omega) | exact il_get (by omega))) ?_ | refine q_go (fun w hS => m_load_bx Try.underlying22 (hS := hS) (hv := by first | rfl | exact zi_get rfl (by omega) | exact ic_get (by omega) | exact il_get (by omega))) ?_ | refine q_go (fun w hS => m_load_rd Try.underlying22 (hS := hS) (hv := by first | rfl | exact zi_get rfl (by omega) | exact ic_get (by omega) | exact il_get (by omega))) ?_ | refine q_go (fun w hS => m_load_vec Try.underlying22 (hS := hS) (hv := by first | rfl | exact zi_get rfl (by omega) | exact ic_get (by omega) | exact il_get (by omega))) ?_
  try simp only [opv, n1, n2, n3, n4, Value.cells, List.getElem_toArray, List.getElem_cons_zero, List.getElem_cons_succ]
  rw [hk.e11]
  refine q_on (yi (t := 47) rfl rfl) ?_
  refine q_go (fun w hS => s_eql) ?_
  try simp only [opv, n1, n2, n3, n4, Value.cells]
  try simp only [eq_self, decide_true, beq_self_eq_true, Bool.and_self]
  first | refine q_go (fun w hS => s_pick_t) ?_ | refine q_go (fun w hS => s_pick_f) ?_
  try simp only [opv, n1, n2, n3, n4, Value.cells]
  refine q_go (fun w hS => s_move) ?_
  try simp only [opv, n1, n2, n3, n4, Value.cells]
  refine q_on (yi (t := 53) rfl rfl) ?_
  apply q_call en83
  case H =>
    intro w hS
    try simp only [opv, n1, n2, n3, n4, List.map_toArray, List.map_cons, List.map_nil, List.append_toArray, List.cons_append, List.nil_append, Array.append_empty]
    refine CallR.mono (c_law08alive _) ?_
    rintro _ w1 ⟨rfl, hE⟩; exact ⟨rfl, hS.ext hE⟩
  try simp only [opv, n1, n2, n3, n4, Value.cells]
  first | refine q_go (fun w hS => s_pick_t) ?_ | refine q_go (fun w hS => s_pick_f) ?_
  try simp only [opv, n1, n2, n3, n4, Value.cells]
  refine q_go (fun w hS => s_assign) ?_
  try simp only [opv, n1, n2, n3, n4, Value.cells]
  clear hS
  refine q_nil fun w5 hS => ?_
  refine hK4 _ _ ?_
  refine x_ret ?_
  refine r_tmp rfl ?_
  exact ⟨rfl, hS.ext_of⟩

theorem c_KeyWords (x y : List Int) (hk : KeyOk x) (hy : KeyOk y) (a b c : Nat) (ha : a < 18446744073709551616) (hb : b < 18446744073709551616) (hc : c < 18446744073709551616)  (w0 : World) :
    CallR Try.prog 15 #[.agg (KA x), .agg (KA y), .agg (ic .u64 [(a : Int), (b : Int), (c : Int)])] w0 fun v w' => v = .bool true ∧ Ext w0 w' := by
  have hS : St NoB w0 w0 [] := St.start w0
  refine c_enter (l := [.agg (KA x), .agg (KA y), .agg (ic .u64 [(a : Int), (b : Int), (c : Int)]), undef, undef, undef, undef, undef, undef, undef, undef, undef, undef, undef, undef, undef, undef, undef, undef, undef, undef, undef, undef, undef, undef, undef, undef, undef, undef, undef, undef, undef, undef, undef, undef, undef, undef, undef, undef, undef, undef, undef, undef, undef, undef, undef, undef, undef, undef, undef, undef, undef, undef, undef, undef]) Try.func15 rfl (by simp only [Try.ntmps15, List.size_toArray, List.length_cons, List.length_nil, Nat.reduceAdd, Nat.reduceSub, Array.replicate_succ, Array.replicate_zero, List.push_toArray, List.append_toArray, List.nil_append, List.cons_append]) ?_
  refine x_seq fun K1 hK1 => ?_
  refine x_region ?_
  have hkl := hk.len
  have hyl := hy.len
  have h0l : key0.length = 12 := rfl
  have hfl := fromK_len a b c
  refine m_box hS (fun w1 g1 hS => ?_)
  try simp only [opv, n1, n2, n3, n4, Value.cells, Array.toArray_toList] at hS ⊢
  refine m_box hS (fun w2 g2 hS => ?_)
  try simp only [opv, n1, n2, n3, n4, Value.cells, Array.toArray_toList] at hS ⊢
  refine m_box hS (fun w3 g3 hS => ?_)
  try simp only [opv, n1, n2, n3, n4, Value.cells, Array.toArray_toList] at hS ⊢
  refine s_go (s_assign) ?_
  try simp only [opv, n1, n2, n3, n4, Value.cells]
  refine x_nil ?_
  refine hK1 _ _ ?_
  refine x_seq fun K2 hK2 => ?_
  refine x_region ?_
  first | refine s_go (m_load_row Try.underlying93 (hi := ti93) (hS := hS) (hfit := by first | omega | (rw [zi_size (by omega)]; first | rfl | decide) | (simp only [ic_size, List.length_map, List.size_toArray]; first | omega | decide) | rfl | (simp [*]; done) | (simp [*]; omega))) ?_ | refine s_go (m_loada_obj Try.underlying93 (hi := ti93) (hS := hS) (hfit := by first | omega | (rw [zi_size (by omega)]; first | rfl | decide) | (simp only [ic_size, List.length_map, List.size_toArray]; first | omega | decide) | rfl | (simp [*]; done) | (simp [*]; omega))) ?_ | refine s_go (m_loada_bx Try.underlying93 (hi := ti93) (hS := hS) (hfit := by first | omega | (rw [zi_size (by omega)]; first | rfl | decide) | (simp only [ic_size, List.length_map, List.size_toArray]; first | omega | decide) | rfl | (simp [*]; done) | (simp [*]; omega))) ?_ | refine s_go (m_loada_rd Try.underlying93 (hi := ti93) (hS := hS) (hfit := by first | omega | (rw [zi_size (by omega)]; first | rfl | decide) | (simp only [ic_size, List.length_map, List.size_toArray]; first | omega | decide) | rfl | (simp [*]; done) | (simp [*]; omega))) ?_ | refine s_go (m_loada_vec Try.underlying93 (hi := ti93) (hS := hS) (hfit := by first | omega | (rw [zi_size (by omega)]; first | rfl | decide) | (simp only [ic_size, List.length_map, List.size_toArray]; first | omega | decide) | rfl | (simp [*]; done) | (simp [*]; omega))) ?_
  try simp only [opv, n1, n2, n3, n4, Value.cells, List.getElem_toArray, List.getElem_cons_zero, List.getElem_cons_succ]
  refine s_call en84 ?_
  try simp only [opv, n1, n2, n3, n4, Value.cells, List.map_toArray, List.map_cons, List.map_nil, List.append_toArray, List.cons_append, List.nil_append, Array.append_empty]
  refine CallR.mono (c_keyFrom a b c ha hb hc _) ?_
  rintro _ w4 ⟨rfl, hE4⟩
  replace hS := hS.ext hE4
  try simp only [opv, n1, n2, n3, n4, Value.cells]
  refine s_go (s_move) ?_
  try simp only [opv, n1, n2, n3, n4, Value.cells]
  refine s_go (s_extract (hv := rfl)) ?_
  try simp only [List.getElem_toArray, List.getElem_cons_zero, List.getElem_cons_succ]
  try simp only [opv, n1, n2, n3, n4, Value.cells]
  refine s_go (s_extract (hv := rfl)) ?_
  try simp only [List.getElem_toArray, List.getElem_cons_zero, List.getElem_cons_succ]
  try simp only [opv, n1, n2, n3, n4, Value.cells]
  refine m_alloc ti89 hS (fun w5 g5 hS => ?_)
  try simp only [opv, n1, n2, n3, n4, Value.cells, Array.toArray_toList] at hS ⊢
  have hS : St NoB w0 w5 [.obj g5 (.cells (KA key0) 89 (0, 0)), .obj g3 (.cells (ic .u64 [(a : Int), (b : Int), (c : Int)]) 93 (0, 0)), .obj g2 (.cells (KA y) 89 (0, 0)), .obj g1 (.cells (KA x) 89 (0, 0))] := hS
  first | refine m_store_obj ti89 (hS := hS) (hc := by first | exact zi_set rfl (by omega) | exact zi_whole (by omega) (by omega) | (first | exact splice_ic (by first | omega | (simp [*]; done) | (simp [*]; omega)) | exact splice_il (by first | omega | (simp [*]; done) | (simp [*]; omega)) | exact splice_whole (by first | (simp [opv, Value.cells, *]; done) | rfl) | (simp only [opv, n1, n2, Value.cells, splice, List.take_succ_cons, List.take_zero, List.drop_succ_cons, List.drop_zero, List.length_cons, List.length_nil, Nat.zero_add, Nat.reduceAdd, List.append_assoc, List.cons_append, List.nil_append]; rfl))) (hv := by first | rfl | (show (zi _ _).toArray.size = _; rw [zi_size (by omega)]; rfl) | (simp [opv, Value.cells, *]; done)) (hfit := by first | omega | (rw [zi_size (by omega)]; first | rfl | decide) | (simp only [ic_size, List.length_map, List.size_toArray]; first | omega | decide) | rfl | (simp [*]; done) | (simp [*]; omega)) (h1 := by first | exact zi_one _ _ | exact ic_one _ _ | simp [opv, Value.cells, Value.oneCell']) (h := fun w6 hS => ?_) | refine m_store_vec ti89 (hS := hS) (hc := by first | exact zi_set rfl (by omega) | exact zi_whole (by omega) (by omega) | (first | exact splice_ic (by first | omega | (simp [*]; done) | (simp [*]; omega)) | exact splice_il (by first | omega | (simp [*]; done) | (simp [*]; omega)) | exact splice_whole (by first | (simp [opv, Value.cells, *]; done) | rfl) | (simp only [opv, n1, n2, Value.cells, splice, List.take_succ_cons, List.take_zero, List.drop_succ_cons, List.drop_zero, List.length_cons, List.length_nil, Nat.zero_add, Nat.reduceAdd, List.append_assoc, List.cons_append, List.nil_append]; rfl))) (hv := by first | rfl | (show (zi _ _).toArray.size = _; rw [zi_size (by omega)]; rfl) | (simp [opv, Value.cells, *]; done)) (hfit := by first | omega | (rw [zi_size (by omega)]; first | rfl | decide) | (simp only [ic_size, List.length_map, List.size_toArray]; first | omega | decide) | rfl | (simp [*]; done) | (simp [*]; omega)) (h1 := by first | exact zi_one _ _ | exact ic_one _ _ | simp [opv, Value.cells, Value.oneCell']) (h := fun w6 hS => ?_)
  try simp only [opv, n1, n2, n3, n4, Value.cells, Array.toArray_toList] at hS ⊢
  refine s_go (s_assign) ?_
  try simp only [opv, n1, n2, n3, n4, Value.cells]
  refine x_nil ?_
  refine hK2 _ _ ?_
  refine x_seq fun K3 hK3 => ?_
  refine x_region ?_
  first | refine s_go (m_load_row Try.underlying93 (hi := ti93) (hS := hS) (hfit := by first | omega | (rw [zi_size (by omega)]; first | rfl | decide) | (simp only [ic_size, List.length_map, List.size_toArray]; first | omega | decide) | rfl | (simp [*]; done) | (simp [*]; omega))) ?_ | refine s_go (m_loada_obj Try.underlying93 (hi := ti93) (hS := hS) (hfit := by first | omega | (rw [zi_size (by omega)]; first | rfl | decide) | (simp only [ic_size, List.length_map, List.size_toArray]; first | omega | decide) | rfl | (simp [*]; done) | (simp [*]; omega))) ?_ | refine s_go (m_loada_bx Try.underlying93 (hi := ti93) (hS := hS) (hfit := by first | omega | (rw [zi_size (by omega)]; first | rfl | decide) | (simp only [ic_size, List.length_map, List.size_toArray]; first | omega | decide) | rfl | (simp [*]; done) | (simp [*]; omega))) ?_ | refine s_go (m_loada_rd Try.underlying93 (hi := ti93) (hS := hS) (hfit := by first | omega | (rw [zi_size (by omega)]; first | rfl | decide) | (simp only [ic_size, List.length_map, List.size_toArray]; first | omega | decide) | rfl | (simp [*]; done) | (simp [*]; omega))) ?_ | refine s_go (m_loada_vec Try.underlying93 (hi := ti93) (hS := hS) (hfit := by first | omega | (rw [zi_size (by omega)]; first | rfl | decide) | (simp only [ic_size, List.length_map, List.size_toArray]; first | omega | decide) | rfl | (simp [*]; done) | (simp [*]; omega))) ?_
  try simp only [opv, n1, n2, n3, n4, Value.cells, List.getElem_toArray, List.getElem_cons_zero, List.getElem_cons_succ]
  refine s_call en85 ?_
  try simp only [opv, n1, n2, n3, n4, Value.cells, List.map_toArray, List.map_cons, List.map_nil, List.append_toArray, List.cons_append, List.nil_append, Array.append_empty]
  refine CallR.mono (c_ref08From a b c ha hb hc _) ?_
  rintro _ w7 ⟨rfl, hE7⟩
  replace hS := hS.ext hE7
  try simp only [opv, n1, n2, n3, n4, Value.cells]
  refine s_go (s_move) ?_
  try simp only [opv, n1, n2, n3, n4, Value.cells]
  refine s_go (s_extract (hv := rfl)) ?_
  try simp only [List.getElem_toArray, List.getElem_cons_zero, List.getElem_cons_succ]
  try simp only [opv, n1, n2, n3, n4, Value.cells]
  refine s_go (s_extract (hv := rfl)) ?_
  try simp only [List.getElem_toArray, List.getElem_cons_zero, List.getElem_cons_succ]
  try simp only [opv, n1, n2, n3, n4, Value.cells]
  refine m_alloc ti89 hS (fun w8 g8 hS => ?_)
  try simp only [opv, n1, n2, n3, n4, Value.cells, Array.toArray_toList] at hS ⊢
  have hS : St NoB w0 w8 [.obj g8 (.cells (KA key0) 89 (0, 0)), .obj g5 (.cells (KA (fromK a b c)) 89 (0, 0)), .obj g3 (.cells (ic .u64 [(a : Int), (b : Int), (c : Int)]) 93 (0, 0)), .obj g2 (.cells (KA y) 89 (0, 0)), .obj g1 (.cells (KA x) 89 (0, 0))] := hS
  first | refine m_store_obj ti89 (hS := hS) (hc := by first | exact zi_set rfl (by omega) | exact zi_whole (by omega) (by omega) | (first | exact splice_ic (by first | omega | (simp [*]; done) | (simp [*]; omega)) | exact splice_il (by first | omega | (simp [*]; done) | (simp [*]; omega)) | exact splice_whole (by first | (simp [opv, Value.cells, *]; done) | rfl) | (simp only [opv, n1, n2, Value.cells, splice, List.take_succ_cons, List.take_zero, List.drop_succ_cons, List.drop_zero, List.length_cons, List.length_nil, Nat.zero_add, Nat.reduceAdd, List.append_assoc, List.cons_append, List.nil_append]; rfl))) (hv := by first | rfl | (show (zi _ _).toArray.size = _; rw [zi_size (by omega)]; rfl) | (simp [opv, Value.cells, *]; done)) (hfit := by first | omega | (rw [zi_size (by omega)]; first | rfl | decide) | (simp only [ic_size, List.length_map, List.size_toArray]; first | omega | decide) | rfl | (simp [*]; done) | (simp [*]; omega)) (h1 := by first | exact zi_one _ _ | exact ic_one _ _ | simp [opv, Value.cells, Value.oneCell']) (h := fun w9 hS => ?_) | refine m_store_vec ti89 (hS := hS) (hc := by first | exact zi_set rfl (by omega) | exact zi_whole (by omega) (by omega) | (first | exact splice_ic (by first | omega | (simp [*]; done) | (simp [*]; omega)) | exact splice_il (by first | omega | (simp [*]; done) | (simp [*]; omega)) | exact splice_whole (by first | (simp [opv, Value.cells, *]; done) | rfl) | (simp only [opv, n1, n2, Value.cells, splice, List.take_succ_cons, List.take_zero, List.drop_succ_cons, List.drop_zero, List.length_cons, List.length_nil, Nat.zero_add, Nat.reduceAdd, List.append_assoc, List.cons_append, List.nil_append]; rfl))) (hv := by first | rfl | (show (zi _ _).toArray.size = _; rw [zi_size (by omega)]; rfl) | (simp [opv, Value.cells, *]; done)) (hfit := by first | omega | (rw [zi_size (by omega)]; first | rfl | decide) | (simp only [ic_size, List.length_map, List.size_toArray]; first | omega | decide) | rfl | (simp [*]; done) | (simp [*]; omega)) (h1 := by first | exact zi_one _ _ | exact ic_one _ _ | simp [opv, Value.cells, Value.oneCell']) (h := fun w9 hS => ?_)
  try simp only [opv, n1, n2, n3, n4, Value.cells, Array.toArray_toList] at hS ⊢
  refine s_go (s_assign) ?_
  try simp only [opv, n1, n2, n3, n4, Value.cells]
  refine x_nil ?_
  refine hK3 _ _ ?_
  refine x_seq fun K4 hK4 => ?_
  refine x_quiet (by kernel_rfl) (by kernel_rfl) hS ?_
  first | refine q_go (fun w hS => m_load_row Try.underlying89 (hi := ti89) (hS := hS) (hfit := by first | omega | (rw [zi_size (by omega)]; first | rfl | decide) | (simp only [ic_size, List.length_map, List.size_toArray]; first | omega | decide) | rfl | (simp [*]; done) | (simp [*]; omega))) ?_ | refine q_go (fun w hS => m_loada_obj Try.underlying89 (hi := ti89) (hS := hS) (hfit := by first | omega | (rw [zi_size (by omega)]; first | rfl | decide) | (simp only [ic_size, List.length_map, List.size_toArray]; first | omega | decide) | rfl | (simp [*]; done) | (simp [*]; omega))) ?_ | refine q_go (fun w hS => m_loada_bx Try.underlying89 (hi := ti89) (hS := hS) (hfit := by first | omega | (rw [zi_size (by omega)]; first | rfl | decide) | (simp only [ic_size, List.length_map, List.size_toArray]; first | omega | decide) | rfl | (simp [*]; done) | (simp [*]; omega))) ?_ | refine q_go (fun w hS => m_loada_rd Try.underlying89 (hi := ti89) (hS := hS) (hfit := by first | omega | (rw [zi_size (by omega)]; first | rfl | decide) | (simp only [ic_size, List.length_map, List.size_toArray]; first | omega | decide) | rfl | (simp [*]; done) | (simp [*]; omega))) ?_ | refine q_go (fun w hS => m_loada_vec Try.underlying89 (hi := ti89) (hS := hS) (hfit := by first | omega | (rw [zi_size (by omega)]; first | rfl | decide) | (simp only [ic_size, List.length_map, List.size_toArray]; first | omega | decide) | rfl | (simp [*]; done) | (simp [*]; omega))) ?_
  try simp only [opv, n1, n2, n3, n4, Value.cells, List.getElem_toArray, List.getElem_cons_zero, List.getElem_cons_succ]
  apply q_call en86
  case H =>
    intro w hS
    try simp only [opv, n1, n2, n3, n4, List.map_toArray, List.map_cons, List.map_nil, List.append_toArray, List.cons_append, List.nil_append, Array.append_empty]
    refine CallR.mono (c_keyRight x hk _) ?_
    rintro _ w1 ⟨rfl, hE⟩; exact ⟨rfl, hS.ext hE⟩
  try simp only [opv, n1, n2, n3, n4, Value.cells]
  first | refine q_go (fun w hS => m_load_row Try.underlying89 (hi := ti89) (hS := hS) (hfit := by first | omega | (rw [zi_size (by omega)]; first | rfl | decide) | (simp only [ic_size, List.length_map, List.size_toArray]; first | omega | decide) | rfl | (simp [*]; done) | (simp [*]; omega))) ?_ | refine q_go (fun w hS => m_loada_obj Try.underlying89 (hi := ti89) (hS := hS) (hfit := by first | omega | (rw [zi_size (by omega)]; first | rfl | decide) | (simp only [ic_size, List.length_map, List.size_toArray]; first | omega | decide) | rfl | (simp [*]; done) | (simp [*]; omega))) ?_ | refine q_go (fun w hS => m_loada_bx Try.underlying89 (hi := ti89) (hS := hS) (hfit := by first | omega | (rw [zi_size (by omega)]; first | rfl | decide) | (simp only [ic_size, List.length_map, List.size_toArray]; first | omega | decide) | rfl | (simp [*]; done) | (simp [*]; omega))) ?_ | refine q_go (fun w hS => m_loada_rd Try.underlying89 (hi := ti89) (hS := hS) (hfit := by first | omega | (rw [zi_size (by omega)]; first | rfl | decide) | (simp only [ic_size, List.length_map, List.size_toArray]; first | omega | decide) | rfl | (simp [*]; done) | (simp [*]; omega))) ?_ | refine q_go (fun w hS => m_loada_vec Try.underlying89 (hi := ti89) (hS := hS) (hfit := by first | omega | (rw [zi_size (by omega)]; first | rfl | decide) | (simp only [ic_size, List.length_map, List.size_toArray]; first | omega | decide) | rfl | (simp [*]; done) | (simp [*]; omega))) ?_
  try simp only [opv, n1, n2, n3, n4, Value.cells, List.getElem_toArray, List.getElem_cons_zero, List.getElem_cons_succ]
  apply q_call en87
  case H =>
    intro w hS
    try simp only [opv, n1, n2, n3, n4, List.map_toArray, List.map_cons, List.map_nil, List.append_toArray, List.cons_append, List.nil_append, Array.append_empty]
    refine CallR.mono (c_ref08Right x hk _) ?_
    rintro _ w1 ⟨rfl, hE⟩; exact ⟨rfl, hS.ext hE⟩
  try simp only [opv, n1, n2, n3, n4, Value.cells]
  refine q_go (fun w hS => s_eql_bool Try.underlying4) ?_
  try simp only [opv, n1, n2, n3, n4, Value.cells]
  try simp only [eq_self, decide_true, beq_self_eq_true, Bool.and_self]
  refine q_go (fun w hS => s_move) ?_
  try simp only [opv, n1, n2, n3, n4, Value.cells]
  refine q_on (yi (t := 26) rfl rfl) ?_
  first | refine q_go (fun w hS => m_load_row Try.underlying89 (hi := ti89) (hS := hS) (hfit := by first | omega | (rw [zi_size (by omega)]; first | rfl | decide) | (simp only [ic_size, List.length_map, List.size_toArray]; first | omega | decide) | rfl | (simp [*]; done) | (simp [*]; omega))) ?_ | refine q_go (fun w hS => m_loada_obj Try.underlying89 (hi := ti89) (hS := hS) (hfit := by first | omega | (rw [zi_size (by omega)]; first | rfl | decide) | (simp only [ic_size, List.length_map, List.size_toArray]; first | omega | decide) | rfl | (simp [*]; done) | (simp [*]; omega))) ?_ | refine q_go (fun w hS => m_loada_bx Try.underlying89 (hi := ti89) (hS := hS) (hfit := by first | omega | (rw [zi_size (by omega)]; first | rfl | decide) | (simp only [ic_size, List.length_map, List.size_toArray]; first | omega | decide) | rfl | (simp [*]; done) | (simp [*]; omega))) ?_ | refine q_go (fun w hS => m_loada_rd Try.underlying89 (hi := ti89) (hS := hS) (hfit := by first | omega | (rw [zi_size (by omega)]; first | rfl | decide) | (simp only [ic_size, List.length_map, List.size_toArray]; first | omega | decide) | rfl | (simp [*]; done) | (simp [*]; omega))) ?_ | refine q_go (fun w hS => m_loada_vec Try.underlying89 (hi := ti89) (hS := hS) (hfit := by first | omega | (rw [zi_size (by omega)]; first | rfl | decide) | (simp only [ic_size, List.length_map, List.size_toArray]; first | omega | decide) | rfl | (simp [*]; done) | (simp [*]; omega))) ?_
  try simp only [opv, n1, n2, n3, n4, Value.cells, List.getElem_toArray, List.getElem_cons_zero, List.getElem_cons_succ]
  refine q_on (yi (t := 26) rfl rfl) ?_
  apply q_call en88
  case H =>
    intro w hS
    try simp only [opv, n1, n2, n3, n4, List.map_toArray, List.map_cons, List.map_nil, List.append_toArray, List.cons_append, List.nil_append, Array.append_empty]
    refine CallR.mono (c_keyWords x hk _) ?_
    rintro _ w1 ⟨rfl, hE⟩; exact ⟨rfl, hS.ext hE⟩
  try simp only [opv, n1, n2, n3, n4, Value.cells]
  refine q_on (yi (t := 26) rfl rfl) ?_
  first | refine q_go (fun w hS => m_load_row Try.underlying89 (hi := ti89) (hS := hS) (hfit := by first | omega | (rw [zi_size (by omega)]; first | rfl | decide) | (simp only [ic_size, List.length_map, List.size_toArray]; first | omega | decide) | rfl | (simp [*]; done) | (simp [*]; omega))) ?_ | refine q_go (fun w hS => m_loada_obj Try.underlying89 (hi := ti89) (hS := hS) (hfit := by first | omega | (rw [zi_size (by omega)]; first | rfl | decide) | (simp only [ic_size, List.length_map, List.size_toArray]; first | omega | decide) | rfl | (simp [*]; done) | (simp [*]; omega))) ?_ | refine q_go (fun w hS => m_loada_bx Try.underlying89 (hi := ti89) (hS := hS) (hfit := by first | omega | (rw [zi_size (by omega)]; first | rfl | decide) | (simp only [ic_size, List.length_map, List.size_toArray]; first | omega | decide) | rfl | (simp [*]; done) | (simp [*]; omega))) ?_ | refine q_go (fun w hS => m_loada_rd Try.underlying89 (hi := ti89) (hS := hS) (hfit := by first | omega | (rw [zi_size (by omega)]; first | rfl | decide) | (simp only [ic_size, List.length_map, List.size_toArray]; first | omega | decide) | rfl | (simp [*]; done) | (simp [*]; omega))) ?_ | refine q_go (fun w hS => m_loada_vec Try.underlying89 (hi := ti89) (hS := hS) (hfit := by first | omega | (rw [zi_size (by omega)]; first | rfl | decide) | (simp only [ic_size, List.length_map, List.size_toArray]; first | omega | decide) | rfl | (simp [*]; done) | (simp [*]; omega))) ?_
  try simp only [opv, n1, n2, n3, n4, Value.cells, List.getElem_toArray, List.getElem_cons_zero, List.getElem_cons_succ]
  refine q_on (yi (t := 26) rfl rfl) ?_
  apply q_call en82
  case H =>
    intro w hS
    try simp only [opv, n1, n2, n3, n4, List.map_toArray, List.map_cons, List.map_nil, List.append_toArray, List.cons_append, List.nil_append, Array.append_empty]
    refine CallR.mono (c_ref08Words x hk _) ?_
    rintro _ w1 ⟨rfl, hE⟩; exact ⟨rfl, hS.ext hE⟩
  try simp only [opv, n1, n2, n3, n4, Value.cells]
  refine q_on (yi (t := 26) rfl rfl) ?_
  refine q_go (fun w hS => s_eql_agg eqv93 (hg := eg93) (hX := zi_ic (by rfl)) (hY := zi_ic (by rfl)) (h1 := by rfl) (h2 := by rfl)) ?_
  try simp only [opv, n1, n2, n3, n4, Value.cells]
  try simp only [eq_self, decide_true, beq_self_eq_true, Bool.and_self]
  first | refine q_go (fun w hS => s_pick_t) ?_ | refine q_go (fun w hS => s_pick_f) ?_
  try simp only [opv, n1, n2, n3, n4, Value.cells]
  refine q_go (fun w hS => s_move) ?_
  try simp only [opv, n1, n2, n3, n4, Value.cells]
  refine q_on (yi (t := 33) rfl rfl) ?_
  first | refine q_go (fun w hS => m_load_row Try.underlying89 (hi := ti89) (hS := hS) (hfit := by first | omega | (rw [zi_size (by omega)]; first | rfl | decide) | (simp only [ic_size, List.length_map, List.size_toArray]; first | omega | decide) | rfl | (simp [*]; done) | (simp [*]; omega))) ?_ | refine q_go (fun w hS => m_loada_obj Try.underlying89 (hi := ti89) (hS := hS) (hfit := by first | omega | (rw [zi_size (by omega)]; first | rfl | decide) | (simp only [ic_size, List.length_map, List.size_toArray]; first | omega | decide) | rfl | (simp [*]; done) | (simp [*]; omega))) ?_ | refine q_go (fun w hS => m_loada_bx Try.underlying89 (hi := ti89) (hS := hS) (hfit := by first | omega | (rw [zi_size (by omega)]; first | rfl | decide) | (simp only [ic_size, List.length_map, List.size_toArray]; first | omega | decide) | rfl | (simp [*]; done) | (simp [*]; omega))) ?_ | refine q_go (fun w hS => m_loada_rd Try.underlying89 (hi := ti89) (hS := hS) (hfit := by first | omega | (rw [zi_size (by omega)]; first | rfl | decide) | (simp only [ic_size, List.length_map, List.size_toArray]; first | omega | decide) | rfl | (simp [*]; done) | (simp [*]; omega))) ?_ | refine q_go (fun w hS => m_loada_vec Try.underlying89 (hi := ti89) (hS := hS) (hfit := by first | omega | (rw [zi_size (by omega)]; first | rfl | decide) | (simp only [ic_size, List.length_map, List.size_toArray]; first | omega | decide) | rfl | (simp [*]; done) | (simp [*]; omega))) ?_
  try simp only [opv, n1, n2, n3, n4, Value.cells, List.getElem_toArray, List.getElem_cons_zero, List.getElem_cons_succ]
  refine q_on (yi (t := 33) rfl rfl) ?_
  first | refine q_go (fun w hS => m_load_row Try.underlying89 (hi := ti89) (hS := hS) (hfit := by first | omega | (rw [zi_size (by omega)]; first | rfl | decide) | (simp only [ic_size, List.length_map, List.size_toArray]; first | omega | decide) | rfl | (simp [*]; done) | (simp [*]; omega))) ?_ | refine q_go (fun w hS => m_loada_obj Try.underlying89 (hi := ti89) (hS := hS) (hfit := by first | omega | (rw [zi_size (by omega)]; first | rfl | decide) | (simp only [ic_size, List.length_map, List.size_toArray]; first | omega | decide) | rfl | (simp [*]; done) | (simp [*]; omega))) ?_ | refine q_go (fun w hS => m_loada_bx Try.underlying89 (hi := ti89) (hS := hS) (hfit := by first | omega | (rw [zi_size (by omega)]; first | rfl | decide) | (simp only [ic_size, List.length_map, List.size_toArray]; first | omega | decide) | rfl | (simp [*]; done) | (simp [*]; omega))) ?_ | refine q_go (fun w hS => m_loada_rd Try.underlying89 (hi := ti89) (hS := hS) (hfit := by first | omega | (rw [zi_size (by omega)]; first | rfl | decide) | (simp only [ic_size, List.length_map, List.size_toArray]; first | omega | decide) | rfl | (simp [*]; done) | (simp [*]; omega))) ?_ | refine q_go (fun w hS => m_loada_vec Try.underlying89 (hi := ti89) (hS := hS) (hfit := by first | omega | (rw [zi_size (by omega)]; first | rfl | decide) | (simp only [ic_size, List.length_map, List.size_toArray]; first | omega | decide) | rfl | (simp [*]; done) | (simp [*]; omega))) ?_
  try simp only [opv, n1, n2, n3, n4, Value.cells, List.getElem_toArray, List.getElem_cons_zero, List.getElem_cons_succ]
  refine q_on (yi (t := 33) rfl rfl) ?_
  apply q_call en89
  case H =>
    intro w hS
    try simp only [opv, n1, n2, n3, n4, List.map_toArray, List.map_cons, List.map_nil, List.append_toArray, List.cons_append, List.nil_append, Array.append_empty]
    refine CallR.mono (c_keyLess x y hk hy _) ?_
    rintro _ w1 ⟨rfl, hE⟩; exact ⟨rfl, hS.ext hE⟩
  try simp only [opv, n1, n2, n3, n4, Value.cells]
  refine q_on (yi (t := 33) rfl rfl) ?_
  first | refine q_go (fun w hS => m_load_row Try.underlying89 (hi := ti89) (hS := hS) (hfit := by first | omega | (rw [zi_size (by omega)]; first | rfl | decide) | (simp only [ic_size, List.length_map, List.size_toArray]; first | omega | decide) | rfl | (simp [*]; done) | (simp [*]; omega))) ?_ | refine q_go (fun w hS => m_loada_obj Try.underlying89 (hi := ti89) (hS := hS) (hfit := by first | omega | (rw [zi_size (by omega)]; first | rfl | decide) | (simp only [ic_size, List.length_map, List.size_toArray]; first | omega | decide) | rfl | (simp [*]; done) | (simp [*]; omega))) ?_ | refine q_go (fun w hS => m_loada_bx Try.underlying89 (hi := ti89) (hS := hS) (hfit := by first | omega | (rw [zi_size (by omega)]; first | rfl | decide) | (simp only [ic_size, List.length_map, List.size_toArray]; first | omega | decide) | rfl | (simp [*]; done) | (simp [*]; omega))) ?_ | refine q_go (fun w hS => m_loada_rd Try.underlying89 (hi := ti89) (hS := hS) (hfit := by first | omega | (rw [zi_size (by omega)]; first | rfl | decide) | (simp only [ic_size, List.length_map, List.size_toArray]; first | omega | decide) | rfl | (simp [*]; done) | (simp [*]; omega))) ?_ | refine q_go (fun w hS => m_loada_vec Try.underlying89 (hi := ti89) (hS := hS) (hfit := by first | omega | (rw [zi_size (by omega)]; first | rfl | decide) | (simp only [ic_size, List.length_map, List.size_toArray]; first | omega | decide) | rfl | (simp [*]; done) | (simp [*]; omega))) ?_
  try simp only [opv, n1, n2, n3, n4, Value.cells, List.getElem_toArray, List.getElem_cons_zero, List.getElem_cons_succ]
  refine q_on (yi (t := 33) rfl rfl) ?_
  first | refine q_go (fun w hS => m_load_row Try.underlying89 (hi := ti89) (hS := hS) (hfit := by first | omega | (rw [zi_size (by omega)]; first | rfl | decide) | (simp only [ic_size, List.length_map, List.size_toArray]; first | omega | decide) | rfl | (simp [*]; done) | (simp [*]; omega))) ?_ | refine q_go (fun w hS => m_loada_obj Try.underlying89 (hi := ti89) (hS := hS) (hfit := by first | omega | (rw [zi_size (by omega)]; first | rfl | decide) | (simp only [ic_size, List.length_map, List.size_toArray]; first | omega | decide) | rfl | (simp [*]; done) | (simp [*]; omega))) ?_ | refine q_go (fun w hS => m_loada_bx Try.underlying89 (hi := ti89) (hS := hS) (hfit := by first | omega | (rw [zi_size (by omega)]; first | rfl | decide) | (simp only [ic_size, List.length_map, List.size_toArray]; first | omega | decide) | rfl | (simp [*]; done) | (simp [*]; omega))) ?_ | refine q_go (fun w hS => m_loada_rd Try.underlying89 (hi := ti89) (hS := hS) (hfit := by first | omega | (rw [zi_size (by omega)]; first | rfl | decide) | (simp only [ic_size, List.length_map, List.size_toArray]; first | omega | decide) | rfl | (simp [*]; done) | (simp [*]; omega))) ?_ | refine q_go (fun w hS => m_loada_vec Try.underlying89 (hi := ti89) (hS := hS) (hfit := by first | omega | (rw [zi_size (by omega)]; first | rfl | decide) | (simp only [ic_size, List.length_map, List.size_toArray]; first | omega | decide) | rfl | (simp [*]; done) | (simp [*]; omega))) ?_
  try simp only [opv, n1, n2, n3, n4, Value.cells, List.getElem_toArray, List.getElem_cons_zero, List.getElem_cons_succ]
  refine q_on (yi (t := 33) rfl rfl) ?_
  apply q_call en90
  case H =>
    intro w hS
    try simp only [opv, n1, n2, n3, n4, List.map_toArray, List.map_cons, List.map_nil, List.append_toArray, List.cons_append, List.nil_append, Array.append_empty]
    refine CallR.mono (c_ref08Less x y hk hy _) ?_
    rintro _ w1 ⟨rfl, hE⟩; exact ⟨rfl, hS.ext hE⟩
  try simp only [opv, n1, n2, n3, n4, Value.cells]
  refine q_on (yi (t := 33) rfl rfl) ?_
  refine q_go (fun w hS => s_eql_bool Try.underlying4) ?_
  try simp only [opv, n1, n2, n3, n4, Value.cells]
  try simp only [eq_self, decide_true, beq_self_eq_true, Bool.and_self]
  first | refine q_go (fun w hS => s_pick_t) ?_ | refine q_go (fun w hS => s_pick_f) ?_
  try simp only [opv, n1, n2, n3, n4, Value.cells]
  refine q_go (fun w hS => s_move) ?_
  try simp only [opv, n1, n2, n3, n4, Value.cells]
  refine q_on (yi (t := 42) rfl rfl) ?_
  first | refine q_go (fun w hS => m_load_row Try.underlying89 (hi := ti89) (hS := hS) (hfit := by first | omega | (rw [zi_size (by omega)]; first | rfl | decide) | (simp only [ic_size, List.length_map, List.size_toArray]; first | omega | decide) | rfl | (simp [*]; done) | (simp [*]; omega))) ?_ | refine q_go (fun w hS => m_loada_obj Try.underlying89 (hi := ti89) (hS := hS) (hfit := by first | omega | (rw [zi_size (by omega)]; first | rfl | decide) | (simp only [ic_size, List.length_map, List.size_toArray]; first | omega | decide) | rfl | (simp [*]; done) | (simp [*]; omega))) ?_ | refine q_go (fun w hS => m_loada_bx Try.underlying89 (hi := ti89) (hS := hS) (hfit := by first | omega | (rw [zi_size (by omega)]; first | rfl | decide) | (simp only [ic_size, List.length_map, List.size_toArray]; first | omega | decide) | rfl | (simp [*]; done) | (simp [*]; omega))) ?_ | refine q_go (fun w hS => m_loada_rd Try.underlying89 (hi := ti89) (hS := hS) (hfit := by first | omega | (rw [zi_size (by omega)]; first | rfl | decide) | (simp only [ic_size, List.length_map, List.size_toArray]; first | omega | decide) | rfl | (simp [*]; done) | (simp [*]; omega))) ?_ | refine q_go (fun w hS => m_loada_vec Try.underlying89 (hi := ti89) (hS := hS) (hfit := by first | omega | (rw [zi_size (by omega)]; first | rfl | decide) | (simp only [ic_size, List.length_map, List.size_toArray]; first | omega | decide) | rfl | (simp [*]; done) | (simp [*]; omega))) ?_
  try simp only [opv, n1, n2, n3, n4, Value.cells, List.getElem_toArray, List.getElem_cons_zero, List.getElem_cons_succ]
  refine q_on (yi (t := 42) rfl rfl) ?_
  first | refine q_go (fun w hS => m_load_row Try.underlying89 (hi := ti89) (hS := hS) (hfit := by first | omega | (rw [zi_size (by omega)]; first | rfl | decide) | (simp only [ic_size, List.length_map, List.size_toArray]; first | omega | decide) | rfl | (simp [*]; done) | (simp [*]; omega))) ?_ | refine q_go (fun w hS => m_loada_obj Try.underlying89 (hi := ti89) (hS := hS) (hfit := by first | omega | (rw [zi_size (by omega)]; first | rfl | decide) | (simp only [ic_size, List.length_map, List.size_toArray]; first | omega | decide) | rfl | (simp [*]; done) | (simp [*]; omega))) ?_ | refine q_go (fun w hS => m_loada_bx Try.underlying89 (hi := ti89) (hS := hS) (hfit := by first | omega | (rw [zi_size (by omega)]; first | rfl | decide) | (simp only [ic_size, List.length_map, List.size_toArray]; first | omega | decide) | rfl | (simp [*]; done) | (simp [*]; omega))) ?_ | refine q_go (fun w hS => m_loada_rd Try.underlying89 (hi := ti89) (hS := hS) (hfit := by first | omega | (rw [zi_size (by omega)]; first | rfl | decide) | (simp only [ic_size, List.length_map, List.size_toArray]; first | omega | decide) | rfl | (simp [*]; done) | (simp [*]; omega))) ?_ | refine q_go (fun w hS => m_loada_vec Try.underlying89 (hi := ti89) (hS := hS) (hfit := by first | omega | (rw [zi_size (by omega)]; first | rfl | decide) | (simp only [ic_size, List.length_map, List.size_toArray]; first | omega | decide) | rfl | (simp [*]; done) | (simp [*]; omega))) ?_
  try simp only [opv, n1, n2, n3, n4, Value.cells, List.getElem_toArray, List.getElem_cons_zero, List.getElem_cons_succ]
  refine q_on (yi (t := 42) rfl rfl) ?_
  refine q_go (fun w hS => s_eql_agg eqv89 (hg := eg89) (hX := rfl) (hY := rfl) (h1 := by first | assumption | omega) (h2 := by first | assumption | omega)) ?_
  try simp only [opv, n1, n2, n3, n4, Value.cells]
  try simp only [eq_self, decide_true, beq_self_eq_true, Bool.and_self]
  first | refine q_go (fun w hS => s_pick_t) ?_ | refine q_go (fun w hS => s_pick_f) ?_
  try simp only [opv, n1, n2, n3, n4, Value.cells]
  refine q_go (fun w hS => s_move) ?_
  try simp only [opv, n1, n2, n3, n4, Value.cells]
  refine q_on (yi (t := 47) rfl rfl) ?_
  refine q_go (fun w hS => s_move) ?_
  try simp only [opv, n1, n2, n3, n4, Value.cells]
  refine q_on (yi (t := 47) rfl rfl) ?_
  refine q_go (fun w hS => s_move) ?_
  try simp only [opv, n1, n2, n3, n4, Value.cells]
  refine q_on (yi (t := 47) rfl rfl) ?_
  refine q_go (fun w hS => s_eql) ?_
  try simp only [opv, n1, n2, n3, n4, Value.cells]
  try simp only [eq_self, decide_true, beq_self_eq_true, Bool.and_self]
  first | refine q_go (fun w hS => s_pick_t) ?_ | refine q_go (fun w hS => s_pick_f) ?_
  try simp only [opv, n1, n2, n3, n4, Value.cells]
  refine q_go (fun w hS => s_move) ?_
  try simp only [opv, n1, n2, n3, n4, Value.cells]
  refine q_on (yi (t := 52) rfl rfl) ?_
  apply q_call en83
  case H =>
    intro w hS
    try simp only [opv, n1, n2, n3, n4, List.map_toArray, List.map_cons, List.map_nil, List.append_toArray, List.cons_append, List.nil_append, Array.append_empty]
    refine CallR.mono (c_law08alive _) ?_
    rintro _ w1 ⟨rfl, hE⟩; exact ⟨rfl, hS.ext hE⟩
  try simp only [opv, n1, n2, n3, n4, Value.cells]
  first | refine q_go (fun w hS => s_pick_t) ?_ | refine q_go (fun w hS => s_pick_f) ?_
  try simp only [opv, n1, n2, n3, n4, Value.cells]
  refine q_go (fun w hS => s_assign) ?_
  try simp only [opv, n1, n2, n3, n4, Value.cells]
  clear hS
  refine q_nil fun w10 hS => ?_
  refine hK4 _ _ ?_
  refine x_ret ?_
  refine r_tmp rfl ?_
  exact ⟨rfl, hS.ext_of⟩
end Go.Proofs.Ytjgbcaegofpggaa
