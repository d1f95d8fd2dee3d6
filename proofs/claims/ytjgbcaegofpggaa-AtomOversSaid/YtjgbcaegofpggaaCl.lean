/- Contracts of functions, printed by a program of this seat (wip/tools/gen.py) out of its specs. -/
import Derived.Test.YtjgbcaegofpggaaCk
set_option linter.unusedSimpArgs false
set_option linter.unusedVariables false
set_option maxHeartbeats 800000
set_option maxRecDepth 100000
namespace Go.Proofs.Ytjgbcaegofpggaa
open Go.RowKit

theorem c_keyWords (x : List Int) (hk : KeyOk x)  (w0 : World) :
    CallR Try.prog 88 #[.agg (KA x)] w0 fun v w' => v = .agg (ic .u64 (wordsL x)) ∧ Ext w0 w' := by
  have hS : St NoB w0 w0 [] := St.start w0
  refine c_enter (l := [.agg (KA x), undef, undef, undef, undef, undef, undef, undef, undef, undef, undef, undef, undef, undef, undef, undef, undef]) Try.func88 rfl (by simp only [Try.ntmps88, List.size_toArray, List.length_cons, List.length_nil, Nat.reduceAdd, Nat.reduceSub, Array.replicate_succ, Array.replicate_zero, List.push_toArray, List.append_toArray, List.nil_append, List.cons_append]) ?_
  refine x_seq fun K1 hK1 => ?_
  refine x_region ?_
  have hkl := hk.len
  have hb0 := hk.b0
  have hb1 := hk.b1
  have hb10 := hk.b10
  have hb11 := hk.b11
  have hil := kitem_len hk.len
  have hib := hk.item
  refine m_box hS (fun w1 g1 hS => ?_)
  try simp only [opv, n1, n2, n3, n4, Value.cells, Array.toArray_toList] at hS ⊢
  refine m_alloc ti93 hS (fun w2 g2 hS => ?_)
  try simp only [opv, n1, n2, n3, n4, Value.cells, Array.toArray_toList] at hS ⊢
  have hS : St NoB w0 w2 [.obj g2 (.cells (ic .u64 [0, 0, 0]) 93 (0, 0)), .obj g1 (.cells (KA x) 89 (0, 0))] := hS
  refine x_nil ?_
  refine hK1 _ _ ?_
  refine x_seq fun K2 hK2 => ?_
  refine x_mixed_f [14] 0 [3, 4, 5, 6, 7, 8, 9, 10, 11, 12, 13, 14, 15, 16] (fun f w => St NoB w0 w [.obj g2 (.cells (ic .u64 (wordsL x)) 93 (0, 0)), .obj g1 (.cells (KA x) 89 (0, 0))]) (by kernel_rfl) (by kernel_rfl) (by kernel_rfl) (by decide) hS (fun w3 hS => ?mixpre101) ?mixrest101
  case mixpre101 =>
    refine p_nil ?_
    simp only [List.length_cons, List.length_nil, Nat.reduceAdd, Nat.reduceSub]
    first | refine any_go (i := 0) (by rfl) (by decide +kernel) (by decide +kernel) (by unfold noLate; decide) (go_yields w_none (fun w hS => m_fieldAddr Try.underlying89 (hi := ti5))) ?_ | refine any_go (i := 0) (by rfl) (by decide +kernel) (by decide +kernel) (by unfold noLate; decide) (go_yields w_none (fun w hS => m_fieldAddr_rd Try.underlying89 (hi := ti5) (hS := hS))) ?_ | refine any_go (i := 0) (by rfl) (by decide +kernel) (by decide +kernel) (by unfold noLate; decide) (go_yields w_none (fun w hS => m_fieldAddr_vec Try.underlying89 (hi := ti5) (hS := hS))) ?_
    try simp only [opv, n1, n2, n3, n4, Value.cells, Nat.zero_add, Nat.add_zero, List.getElem_toArray, List.getElem_cons_zero, List.getElem_cons_succ]
    first | refine any_go (i := 1) (by rfl) (by decide +kernel) (by decide +kernel) (by unfold noLate; decide) (go_yields w_none (fun w hS => m_load_obj Try.underlying5 (hS := hS) (hv := by first | rfl | exact zi_get rfl (by omega) | exact ic_get (by omega) | exact il_get (by omega)))) ?_ | refine any_go (i := 1) (by rfl) (by decide +kernel) (by decide +kernel) (by unfold noLate; decide) (go_yields w_none (fun w hS => m_load_bx Try.underlying5 (hS := hS) (hv := by first | rfl | exact zi_get rfl (by omega) | exact ic_get (by omega) | exact il_get (by omega)))) ?_ | refine any_go (i := 1) (by rfl) (by decide +kernel) (by decide +kernel) (by unfold noLate; decide) (go_yields w_none (fun w hS => m_load_rd Try.underlying5 (hS := hS) (hv := by first | rfl | exact zi_get rfl (by omega) | exact ic_get (by omega) | exact il_get (by omega)))) ?_ | refine any_go (i := 1) (by rfl) (by decide +kernel) (by decide +kernel) (by unfold noLate; decide) (go_yields w_none (fun w hS => m_load_vec Try.underlying5 (hS := hS) (hv := by first | rfl | exact zi_get rfl (by omega) | exact ic_get (by omega) | exact il_get (by omega)))) ?_
    try simp only [opv, n1, n2, n3, n4, Value.cells, List.getElem_toArray, List.getElem_cons_zero, List.getElem_cons_succ]
    rw [hk.e0]
    refine any_go (i := 2) (by rfl) (by decide +kernel) (by decide +kernel) (by unfold noLate; decide) (go_yields w_none (fun w hS => s_conv Try.underlying5 Try.underlying53 (hc := by first | exact wr_u64 (by omega) (by omega) | rfl))) ?_
    try simp only [opv, n1, n2, n3, n4, Value.cells]
    refine any_go (i := 3) (by rfl) (by decide +kernel) (by decide +kernel) (by unfold noLate; decide) (go_yields w_none (fun w hS => s_shl (hc := shl_lt64 (r := kn x 0) (n := 16) rfl (by omega)))) ?_
    try simp only [opv, n1, n2, n3, n4, Value.cells]
    first | refine any_go (i := 4) (by rfl) (by decide +kernel) (by decide +kernel) (by unfold noLate; decide) (go_yields w_none (fun w hS => m_fieldAddr Try.underlying89 (hi := ti43))) ?_ | refine any_go (i := 4) (by rfl) (by decide +kernel) (by decide +kernel) (by unfold noLate; decide) (go_yields w_none (fun w hS => m_fieldAddr_rd Try.underlying89 (hi := ti43) (hS := hS))) ?_ | refine any_go (i := 4) (by rfl) (by decide +kernel) (by decide +kernel) (by unfold noLate; decide) (go_yields w_none (fun w hS => m_fieldAddr_vec Try.underlying89 (hi := ti43) (hS := hS))) ?_
    try simp only [opv, n1, n2, n3, n4, Value.cells, Nat.zero_add, Nat.add_zero, List.getElem_toArray, List.getElem_cons_zero, List.getElem_cons_succ]
    first | refine any_go (i := 5) (by rfl) (by decide +kernel) (by decide +kernel) (by unfold noLate; decide) (go_yields w_none (fun w hS => m_load_obj Try.underlying43 (hS := hS) (hv := by first | rfl | exact zi_get rfl (by omega) | exact ic_get (by omega) | exact il_get (by omega)))) ?_ | refine any_go (i := 5) (by rfl) (by decide +kernel) (by decide +kernel) (by unfold noLate; decide) (go_yields w_none (fun w hS => m_load_bx Try.underlying43 (hS := hS) (hv := by first | rfl | exact zi_get rfl (by omega) | exact ic_get (by omega) | exact il_get (by omega)))) ?_ | refine any_go (i := 5) (by rfl) (by decide +kernel) (by decide +kernel) (by unfold noLate; decide) (go_yields w_none (fun w hS => m_load_rd Try.underlying43 (hS := hS) (hv := by first | rfl | exact zi_get rfl (by omega) | exact ic_get (by omega) | exact il_get (by omega)))) ?_ | refine any_go (i := 5) (by rfl) (by decide +kernel) (by decide +kernel) (by unfold noLate; decide) (go_yields w_none (fun w hS => m_load_vec Try.underlying43 (hS := hS) (hv := by first | rfl | exact zi_get rfl (by omega) | exact ic_get (by omega) | exact il_get (by omega)))) ?_
    try simp only [opv, n1, n2, n3, n4, Value.cells, List.getElem_toArray, List.getElem_cons_zero, List.getElem_cons_succ]
    rw [hk.e1]
    refine any_go (i := 6) (by rfl) (by decide +kernel) (by decide +kernel) (by unfold noLate; decide) (go_yields w_none (fun w hS => s_conv Try.underlying43 Try.underlying53 (hc := by first | exact wr_u64 (by omega) (by omega) | rfl))) ?_
    try simp only [opv, n1, n2, n3, n4, Value.cells]
    refine any_go (i := 7) (by rfl) (by decide +kernel) (by decide +kernel) (by unfold noLate; decide) (go_yields w_none (fun w hS => s_bits (by simp) (hc := or_hi64 (n := 16) (show kn x 1 < 2 ^ 16 from hb1) (by omega)))) ?_
    try simp only [opv, n1, n2, n3, n4, Value.cells]
    first | refine any_go (i := 8) (by rfl) (by decide +kernel) (by decide +kernel) (by unfold noLate; decide) (go_yields w_none (fun w hS => m_fieldAddr Try.underlying89 (hi := ti70))) ?_ | refine any_go (i := 8) (by rfl) (by decide +kernel) (by decide +kernel) (by unfold noLate; decide) (go_yields w_none (fun w hS => m_fieldAddr_rd Try.underlying89 (hi := ti70) (hS := hS))) ?_ | refine any_go (i := 8) (by rfl) (by decide +kernel) (by decide +kernel) (by unfold noLate; decide) (go_yields w_none (fun w hS => m_fieldAddr_vec Try.underlying89 (hi := ti70) (hS := hS))) ?_
    try simp only [opv, n1, n2, n3, n4, Value.cells, Nat.zero_add, Nat.add_zero, List.getElem_toArray, List.getElem_cons_zero, List.getElem_cons_succ]
    first | refine any_go (i := 9) (by rfl) (by decide +kernel) (by decide +kernel) (by unfold noLate; decide) (go_yields w_none (fun w hS => m_load_row Try.underlying70 (hi := ti70) (hS := hS) (hfit := by first | omega | (rw [zi_size (by omega)]; first | rfl | decide) | (simp only [ic_size, List.length_map, List.size_toArray]; first | omega | decide) | rfl | (simp [*]; done) | (simp [*]; omega)))) ?_ | refine any_go (i := 9) (by rfl) (by decide +kernel) (by decide +kernel) (by unfold noLate; decide) (go_yields w_none (fun w hS => m_loada_obj Try.underlying70 (hi := ti70) (hS := hS) (hfit := by first | omega | (rw [zi_size (by omega)]; first | rfl | decide) | (simp only [ic_size, List.length_map, List.size_toArray]; first | omega | decide) | rfl | (simp [*]; done) | (simp [*]; omega)))) ?_ | refine any_go (i := 9) (by rfl) (by decide +kernel) (by decide +kernel) (by unfold noLate; decide) (go_yields w_none (fun w hS => m_loada_bx Try.underlying70 (hi := ti70) (hS := hS) (hfit := by first | omega | (rw [zi_size (by omega)]; first | rfl | decide) | (simp only [ic_size, List.length_map, List.size_toArray]; first | omega | decide) | rfl | (simp [*]; done) | (simp [*]; omega)))) ?_ | refine any_go (i := 9) (by rfl) (by decide +kernel) (by decide +kernel) (by unfold noLate; decide) (go_yields w_none (fun w hS => m_loada_rd Try.underlying70 (hi := ti70) (hS := hS) (hfit := by first | omega | (rw [zi_size (by omega)]; first | rfl | decide) | (simp only [ic_size, List.length_map, List.size_toArray]; first | omega | decide) | rfl | (simp [*]; done) | (simp [*]; omega)))) ?_ | refine any_go (i := 9) (by rfl) (by decide +kernel) (by decide +kernel) (by unfold noLate; decide) (go_yields w_none (fun w hS => m_loada_vec Try.underlying70 (hi := ti70) (hS := hS) (hfit := by first | omega | (rw [zi_size (by omega)]; first | rfl | decide) | (simp only [ic_size, List.length_map, List.size_toArray]; first | omega | decide) | rfl | (simp [*]; done) | (simp [*]; omega)))) ?_
    try simp only [opv, n1, n2, n3, n4, Value.cells, List.getElem_toArray, List.getElem_cons_zero, List.getElem_cons_succ]
    rw [key_item hkl]
    apply any_go (i := 10) (by rfl) (by decide +kernel) (by decide +kernel) (by unfold noLate; decide) (call_yields w_none en175 ?H1) ?K1
    case H1 =>
      intro w hS
      try simp only [opv, n1, n2, n3, n4, List.map_toArray, List.map_cons, List.map_nil, List.append_toArray, List.cons_append, List.nil_append, Array.append_empty]
      refine CallR.mono (c_nameNumber _ hil hib _) ?_
      rintro _ w1 ⟨rfl, hE⟩; exact ⟨rfl, hE⟩
    try simp only [opv, n1, n2, n3, n4, Value.cells]
    first | refine any_go (i := 11) (by rfl) (by decide +kernel) (by decide +kernel) (by unfold noLate; decide) (go_yields w_none (fun w hS => m_load_row Try.underlying89 (hi := ti89) (hS := hS) (hfit := by first | omega | (rw [zi_size (by omega)]; first | rfl | decide) | (simp only [ic_size, List.length_map, List.size_toArray]; first | omega | decide) | rfl | (simp [*]; done) | (simp [*]; omega)))) ?_ | refine any_go (i := 11) (by rfl) (by decide +kernel) (by decide +kernel) (by unfold noLate; decide) (go_yields w_none (fun w hS => m_loada_obj Try.underlying89 (hi := ti89) (hS := hS) (hfit := by first | omega | (rw [zi_size (by omega)]; first | rfl | decide) | (simp only [ic_size, List.length_map, List.size_toArray]; first | omega | decide) | rfl | (simp [*]; done) | (simp [*]; omega)))) ?_ | refine any_go (i := 11) (by rfl) (by decide +kernel) (by decide +kernel) (by unfold noLate; decide) (go_yields w_none (fun w hS => m_loada_bx Try.underlying89 (hi := ti89) (hS := hS) (hfit := by first | omega | (rw [zi_size (by omega)]; first | rfl | decide) | (simp only [ic_size, List.length_map, List.size_toArray]; first | omega | decide) | rfl | (simp [*]; done) | (simp [*]; omega)))) ?_ | refine any_go (i := 11) (by rfl) (by decide +kernel) (by decide +kernel) (by unfold noLate; decide) (go_yields w_none (fun w hS => m_loada_rd Try.underlying89 (hi := ti89) (hS := hS) (hfit := by first | omega | (rw [zi_size (by omega)]; first | rfl | decide) | (simp only [ic_size, List.length_map, List.size_toArray]; first | omega | decide) | rfl | (simp [*]; done) | (simp [*]; omega)))) ?_ | refine any_go (i := 11) (by rfl) (by decide +kernel) (by decide +kernel) (by unfold noLate; decide) (go_yields w_none (fun w hS => m_loada_vec Try.underlying89 (hi := ti89) (hS := hS) (hfit := by first | omega | (rw [zi_size (by omega)]; first | rfl | decide) | (simp only [ic_size, List.length_map, List.size_toArray]; first | omega | decide) | rfl | (simp [*]; done) | (simp [*]; omega)))) ?_
    try simp only [opv, n1, n2, n3, n4, Value.cells, List.getElem_toArray, List.getElem_cons_zero, List.getElem_cons_succ]
    apply any_go (i := 12) (by rfl) (by decide +kernel) (by decide +kernel) (by unfold noLate; decide) (call_yields w_none en81 ?H2) ?K2
    case H2 =>
      intro w hS
      try simp only [opv, n1, n2, n3, n4, List.map_toArray, List.map_cons, List.map_nil, List.append_toArray, List.cons_append, List.nil_append, Array.append_empty]
      refine CallR.mono (c_keyDot x hk _) ?_
      rintro _ w1 ⟨rfl, hE⟩; exact ⟨rfl, hE⟩
    try simp only [opv, n1, n2, n3, n4, Value.cells]
    refine any_go (i := 13) (by rfl) (by decide +kernel) (by decide +kernel) (by unfold noLate; decide) (go_yields w_none (fun w hS => s_build_arr (cells := #[_, _, _]) Try.underlying93 ti93 ti53 (hc := by simp only [List.map_toArray, List.map_cons, List.map_nil, opv, n1, n2, n3, n4, Value.cells, List.toList_toArray]; (repeat (refine fill_cons rfl rfl (Nat.le_of_ble_eq_true rfl) ?_)); rfl))) ?_
    try simp only [opv, n1, n2, n3, n4, Value.cells]
    rw [show (#[.int .u64 ((2 ^ 16 * kn x 0 + kn x 1 : Nat) : Int), .int .u64 (numN (kitem x) : Int), .int .u64 (dotN x : Int)] : Array Value) = ic .u64 (wordsL x) from rfl]
    refine any_step [14] (by kernel_rfl) (by decide) (fun w4 hE => ⟨fun _ => (hS.ext hE).sel (by repeat (first | exact Sel.nil | (refine Sel.cons (by repeat (first | exact Del.head | apply Del.tail)) ?_))), ?_⟩)
    replace hS := hS.ext hE
    intro i hi
    simp only [List.mem_cons, List.not_mem_nil, or_false] at hi
    subst hi
    ·
      refine any_op (by rfl) ?_
      first | refine m_store_obj ti93 (hS := hS) (hc := by first | exact zi_set rfl (by omega) | exact zi_whole (by omega) (by omega) | (first | exact splice_ic (by first | omega | (simp [*]; done) | (simp [*]; omega)) | exact splice_il (by first | omega | (simp [*]; done) | (simp [*]; omega)) | exact splice_whole (by first | (simp [opv, Value.cells, *]; done) | rfl) | (simp only [opv, n1, n2, Value.cells, splice, List.take_succ_cons, List.take_zero, List.drop_succ_cons, List.drop_zero, List.length_cons, List.length_nil, Nat.zero_add, Nat.reduceAdd, List.append_assoc, List.cons_append, List.nil_append]; rfl))) (hv := by first | rfl | (show (zi _ _).toArray.size = _; rw [zi_size (by omega)]; rfl) | (simp [opv, Value.cells, *]; done)) (hfit := by first | omega | (rw [zi_size (by omega)]; first | rfl | decide) | (simp only [ic_size, List.length_map, List.size_toArray]; first | omega | decide) | rfl | (simp [*]; done) | (simp [*]; omega)) (h1 := by first | exact zi_one _ _ | exact ic_one _ _ | simp [opv, Value.cells, Value.oneCell']) (h := fun w5 hS => ?_) | refine m_store_vec ti93 (hS := hS) (hc := by first | exact zi_set rfl (by omega) | exact zi_whole (by omega) (by omega) | (first | exact splice_ic (by first | omega | (simp [*]; done) | (simp [*]; omega)) | exact splice_il (by first | omega | (simp [*]; done) | (simp [*]; omega)) | exact splice_whole (by first | (simp [opv, Value.cells, *]; done) | rfl) | (simp only [opv, n1, n2, Value.cells, splice, List.take_succ_cons, List.take_zero, List.drop_succ_cons, List.drop_zero, List.length_cons, List.length_nil, Nat.zero_add, Nat.reduceAdd, List.append_assoc, List.cons_append, List.nil_append]; rfl))) (hv := by first | rfl | (show (zi _ _).toArray.size = _; rw [zi_size (by omega)]; rfl) | (simp [opv, Value.cells, *]; done)) (hfit := by first | omega | (rw [zi_size (by omega)]; first | rfl | decide) | (simp only [ic_size, List.length_map, List.size_toArray]; first | omega | decide) | rfl | (simp [*]; done) | (simp [*]; omega)) (h1 := by first | exact zi_one _ _ | exact ic_one _ _ | simp [opv, Value.cells, Value.oneCell']) (h := fun w5 hS => ?_)
      try simp only [opv, n1, n2, n3, n4, Value.cells, Array.toArray_toList] at hS ⊢
      refine x_nil ?_
      refine any_nil (by kernel_rfl) (fun w6 hE => ?_)
      replace hS := hS.ext hE
      refine ⟨fun hl => absurd (hl 14 (by decide)) (by decide +kernel), ?_⟩
      refine mix_leaf (by simp only [clob, List.foldl, n1, n2, n3, n4]) ?_
      try simp only [n1, n2]
      exact hS.sel (by repeat (first | exact Sel.nil | (refine Sel.cons (by repeat (first | exact Del.head | apply Del.tail)) ?_)))
  intro fm1 w7 hM
  replace hS := hM
  simp only [clob, List.foldl, n3, n4]
  refine hK2 _ _ ?_
  refine x_ret ?_
  refine r_cell_agg rfl Try.underlying93 ti93 (hS := hS) (hfit := by first | omega | (rw [zi_size (by omega)]; first | rfl | decide) | (simp only [ic_size, List.length_map, List.size_toArray]; first | omega | decide) | rfl | (simp [*]; done) | (simp [*]; omega)) (hR := ?_)
  exact ⟨rfl, hS.ext_of⟩

theorem c_ref08Words (x : List Int) (hk : KeyOk x)  (w0 : World) :
    CallR Try.prog 82 #[.agg (KA x)] w0 fun v w' => v = .agg (ic .u64 (wordsL x)) ∧ Ext w0 w' := by
  have hS : St NoB w0 w0 [] := St.start w0
  refine c_enter (l := [.agg (KA x), undef, undef, undef, undef, undef, undef, undef, undef, undef, undef, undef, undef, undef, undef, undef, undef, undef, undef, undef, undef, undef, undef]) Try.func82 rfl (by simp only [Try.ntmps82, List.size_toArray, List.length_cons, List.length_nil, Nat.reduceAdd, Nat.reduceSub, Array.replicate_succ, Array.replicate_zero, List.push_toArray, List.append_toArray, List.nil_append, List.cons_append]) ?_
  refine x_seq fun K1 hK1 => ?_
  refine x_region ?_
  have hkl := hk.len
  have hb0 := hk.b0
  have hb1 := hk.b1
  have hb10 := hk.b10
  have hb11 := hk.b11
  have hil := kitem_len hk.len
  have hib := hk.item
  refine m_box hS (fun w1 g1 hS => ?_)
  try simp only [opv, n1, n2, n3, n4, Value.cells, Array.toArray_toList] at hS ⊢
  refine m_alloc ti93 hS (fun w2 g2 hS => ?_)
  try simp only [opv, n1, n2, n3, n4, Value.cells, Array.toArray_toList] at hS ⊢
  have hS : St NoB w0 w2 [.obj g2 (.cells (ic .u64 [0, 0, 0]) 93 (0, 0)), .obj g1 (.cells (KA x) 89 (0, 0))] := hS
  refine x_nil ?_
  refine hK1 _ _ ?_
  refine x_seq fun K2 hK2 => ?_
  refine x_mixed_f [20] 0 [3, 4, 5, 6, 7, 8, 9, 10, 11, 12, 13, 14, 15, 16, 17, 18, 19, 20, 21, 22] (fun f w => St NoB w0 w [.obj g2 (.cells (ic .u64 (wordsL x)) 93 (0, 0)), .obj g1 (.cells (KA x) 89 (0, 0))]) (by kernel_rfl) (by kernel_rfl) (by kernel_rfl) (by decide) hS (fun w3 hS => ?mixpre101) ?mixrest101
  case mixpre101 =>
    refine p_nil ?_
    simp only [List.length_cons, List.length_nil, Nat.reduceAdd, Nat.reduceSub]
    first | refine any_go (i := 0) (by rfl) (by decide +kernel) (by decide +kernel) (by unfold noLate; decide) (go_yields w_none (fun w hS => m_fieldAddr Try.underlying89 (hi := ti5))) ?_ | refine any_go (i := 0) (by rfl) (by decide +kernel) (by decide +kernel) (by unfold noLate; decide) (go_yields w_none (fun w hS => m_fieldAddr_rd Try.underlying89 (hi := ti5) (hS := hS))) ?_ | refine any_go (i := 0) (by rfl) (by decide +kernel) (by decide +kernel) (by unfold noLate; decide) (go_yields w_none (fun w hS => m_fieldAddr_vec Try.underlying89 (hi := ti5) (hS := hS))) ?_
    try simp only [opv, n1, n2, n3, n4, Value.cells, Nat.zero_add, Nat.add_zero, List.getElem_toArray, List.getElem_cons_zero, List.getElem_cons_succ]
    first | refine any_go (i := 1) (by rfl) (by decide +kernel) (by decide +kernel) (by unfold noLate; decide) (go_yields w_none (fun w hS => m_load_obj Try.underlying5 (hS := hS) (hv := by first | rfl | exact zi_get rfl (by omega) | exact ic_get (by omega) | exact il_get (by omega)))) ?_ | refine any_go (i := 1) (by rfl) (by decide +kernel) (by decide +kernel) (by unfold noLate; decide) (go_yields w_none (fun w hS => m_load_bx Try.underlying5 (hS := hS) (hv := by first | rfl | exact zi_get rfl (by omega) | exact ic_get (by omega) | exact il_get (by omega)))) ?_ | refine any_go (i := 1) (by rfl) (by decide +kernel) (by decide +kernel) (by unfold noLate; decide) (go_yields w_none (fun w hS => m_load_rd Try.underlying5 (hS := hS) (hv := by first | rfl | exact zi_get rfl (by omega) | exact ic_get (by omega) | exact il_get (by omega)))) ?_ | refine any_go (i := 1) (by rfl) (by decide +kernel) (by decide +kernel) (by unfold noLate; decide) (go_yields w_none (fun w hS => m_load_vec Try.underlying5 (hS := hS) (hv := by first | rfl | exact zi_get rfl (by omega) | exact ic_get (by omega) | exact il_get (by omega)))) ?_
    try simp only [opv, n1, n2, n3, n4, Value.cells, List.getElem_toArray, List.getElem_cons_zero, List.getElem_cons_succ]
    rw [hk.e0]
    refine any_go (i := 2) (by rfl) (by decide +kernel) (by decide +kernel) (by unfold noLate; decide) (go_yields w_none (fun w hS => s_conv Try.underlying5 Try.underlying53 (hc := by first | exact wr_u64 (by omega) (by omega) | rfl))) ?_
    try simp only [opv, n1, n2, n3, n4, Value.cells]
    refine any_go (i := 3) (by rfl) (by decide +kernel) (by decide +kernel) (by unfold noLate; decide) (go_yields w_none (fun w hS => s_mul (hc := by first | exact wr_u64 (by omega) (by omega) | rfl))) ?_
    try simp only [opv, n1, n2, n3, n4, Value.cells]
    first | refine any_go (i := 4) (by rfl) (by decide +kernel) (by decide +kernel) (by unfold noLate; decide) (go_yields w_none (fun w hS => m_fieldAddr Try.underlying89 (hi := ti43))) ?_ | refine any_go (i := 4) (by rfl) (by decide +kernel) (by decide +kernel) (by unfold noLate; decide) (go_yields w_none (fun w hS => m_fieldAddr_rd Try.underlying89 (hi := ti43) (hS := hS))) ?_ | refine any_go (i := 4) (by rfl) (by decide +kernel) (by decide +kernel) (by unfold noLate; decide) (go_yields w_none (fun w hS => m_fieldAddr_vec Try.underlying89 (hi := ti43) (hS := hS))) ?_
    try simp only [opv, n1, n2, n3, n4, Value.cells, Nat.zero_add, Nat.add_zero, List.getElem_toArray, List.getElem_cons_zero, List.getElem_cons_succ]
    first | refine any_go (i := 5) (by rfl) (by decide +kernel) (by decide +kernel) (by unfold noLate; decide) (go_yields w_none (fun w hS => m_load_obj Try.underlying43 (hS := hS) (hv := by first | rfl | exact zi_get rfl (by omega) | exact ic_get (by omega) | exact il_get (by omega)))) ?_ | refine any_go (i := 5) (by rfl) (by decide +kernel) (by decide +kernel) (by unfold noLate; decide) (go_yields w_none (fun w hS => m_load_bx Try.underlying43 (hS := hS) (hv := by first | rfl | exact zi_get rfl (by omega) | exact ic_get (by omega) | exact il_get (by omega)))) ?_ | refine any_go (i := 5) (by rfl) (by decide +kernel) (by decide +kernel) (by unfold noLate; decide) (go_yields w_none (fun w hS => m_load_rd Try.underlying43 (hS := hS) (hv := by first | rfl | exact zi_get rfl (by omega) | exact ic_get (by omega) | exact il_get (by omega)))) ?_ | refine any_go (i := 5) (by rfl) (by decide +kernel) (by decide +kernel) (by unfold noLate; decide) (go_yields w_none (fun w hS => m_load_vec Try.underlying43 (hS := hS) (hv := by first | rfl | exact zi_get rfl (by omega) | exact ic_get (by omega) | exact il_get (by omega)))) ?_
    try simp only [opv, n1, n2, n3, n4, Value.cells, List.getElem_toArray, List.getElem_cons_zero, List.getElem_cons_succ]
    rw [hk.e1]
    refine any_go (i := 6) (by rfl) (by decide +kernel) (by decide +kernel) (by unfold noLate; decide) (go_yields w_none (fun w hS => s_conv Try.underlying43 Try.underlying53 (hc := by first | exact wr_u64 (by omega) (by omega) | rfl))) ?_
    try simp only [opv, n1, n2, n3, n4, Value.cells]
    refine any_go (i := 7) (by rfl) (by decide +kernel) (by decide +kernel) (by unfold noLate; decide) (go_yields w_none (fun w hS => s_add (hc := by first | exact wr_u64 (by omega) (by omega) | rfl))) ?_
    try simp only [opv, n1, n2, n3, n4, Value.cells]
    rw [show (kn x 0 : Int) * 65536 + (kn x 1 : Int) = (headN x : Int) by unfold headN; omega]
    first | refine any_go (i := 8) (by rfl) (by decide +kernel) (by decide +kernel) (by unfold noLate; decide) (go_yields w_none (fun w hS => m_fieldAddr Try.underlying89 (hi := ti70))) ?_ | refine any_go (i := 8) (by rfl) (by decide +kernel) (by decide +kernel) (by unfold noLate; decide) (go_yields w_none (fun w hS => m_fieldAddr_rd Try.underlying89 (hi := ti70) (hS := hS))) ?_ | refine any_go (i := 8) (by rfl) (by decide +kernel) (by decide +kernel) (by unfold noLate; decide) (go_yields w_none (fun w hS => m_fieldAddr_vec Try.underlying89 (hi := ti70) (hS := hS))) ?_
    try simp only [opv, n1, n2, n3, n4, Value.cells, Nat.zero_add, Nat.add_zero, List.getElem_toArray, List.getElem_cons_zero, List.getElem_cons_succ]
    first | refine any_go (i := 9) (by rfl) (by decide +kernel) (by decide +kernel) (by unfold noLate; decide) (go_yields w_none (fun w hS => m_load_row Try.underlying70 (hi := ti70) (hS := hS) (hfit := by first | omega | (rw [zi_size (by omega)]; first | rfl | decide) | (simp only [ic_size, List.length_map, List.size_toArray]; first | omega | decide) | rfl | (simp [*]; done) | (simp [*]; omega)))) ?_ | refine any_go (i := 9) (by rfl) (by decide +kernel) (by decide +kernel) (by unfold noLate; decide) (go_yields w_none (fun w hS => m_loada_obj Try.underlying70 (hi := ti70) (hS := hS) (hfit := by first | omega | (rw [zi_size (by omega)]; first | rfl | decide) | (simp only [ic_size, List.length_map, List.size_toArray]; first | omega | decide) | rfl | (simp [*]; done) | (simp [*]; omega)))) ?_ | refine any_go (i := 9) (by rfl) (by decide +kernel) (by decide +kernel) (by unfold noLate; decide) (go_yields w_none (fun w hS => m_loada_bx Try.underlying70 (hi := ti70) (hS := hS) (hfit := by first | omega | (rw [zi_size (by omega)]; first | rfl | decide) | (simp only [ic_size, List.length_map, List.size_toArray]; first | omega | decide) | rfl | (simp [*]; done) | (simp [*]; omega)))) ?_ | refine any_go (i := 9) (by rfl) (by decide +kernel) (by decide +kernel) (by unfold noLate; decide) (go_yields w_none (fun w hS => m_loada_rd Try.underlying70 (hi := ti70) (hS := hS) (hfit := by first | omega | (rw [zi_size (by omega)]; first | rfl | decide) | (simp only [ic_size, List.length_map, List.size_toArray]; first | omega | decide) | rfl | (simp [*]; done) | (simp [*]; omega)))) ?_ | refine any_go (i := 9) (by rfl) (by decide +kernel) (by decide +kernel) (by unfold noLate; decide) (go_yields w_none (fun w hS => m_loada_vec Try.underlying70 (hi := ti70) (hS := hS) (hfit := by first | omega | (rw [zi_size (by omega)]; first | rfl | decide) | (simp only [ic_size, List.length_map, List.size_toArray]; first | omega | decide) | rfl | (simp [*]; done) | (simp [*]; omega)))) ?_
    try simp only [opv, n1, n2, n3, n4, Value.cells, List.getElem_toArray, List.getElem_cons_zero, List.getElem_cons_succ]
    rw [key_item hkl]
    apply any_go (i := 10) (by rfl) (by decide +kernel) (by decide +kernel) (by unfold noLate; decide) (call_yields w_none en171 ?H1) ?K1
    case H1 =>
      intro w hS
      try simp only [opv, n1, n2, n3, n4, List.map_toArray, List.map_cons, List.map_nil, List.append_toArray, List.cons_append, List.nil_append, Array.append_empty]
      refine CallR.mono (c_ref06Number _ hil hib _) ?_
      rintro _ w1 ⟨rfl, hE⟩; exact ⟨rfl, hE⟩
    try simp only [opv, n1, n2, n3, n4, Value.cells]
    first | refine any_go (i := 11) (by rfl) (by decide +kernel) (by decide +kernel) (by unfold noLate; decide) (go_yields w_none (fun w hS => m_fieldAddr Try.underlying89 (hi := ti5))) ?_ | refine any_go (i := 11) (by rfl) (by decide +kernel) (by decide +kernel) (by unfold noLate; decide) (go_yields w_none (fun w hS => m_fieldAddr_rd Try.underlying89 (hi := ti5) (hS := hS))) ?_ | refine any_go (i := 11) (by rfl) (by decide +kernel) (by decide +kernel) (by unfold noLate; decide) (go_yields w_none (fun w hS => m_fieldAddr_vec Try.underlying89 (hi := ti5) (hS := hS))) ?_
    try simp only [opv, n1, n2, n3, n4, Value.cells, Nat.zero_add, Nat.add_zero, List.getElem_toArray, List.getElem_cons_zero, List.getElem_cons_succ]
    first | refine any_go (i := 12) (by rfl) (by decide +kernel) (by decide +kernel) (by unfold noLate; decide) (go_yields w_none (fun w hS => m_load_obj Try.underlying5 (hS := hS) (hv := by first | rfl | exact zi_get rfl (by omega) | exact ic_get (by omega) | exact il_get (by omega)))) ?_ | refine any_go (i := 12) (by rfl) (by decide +kernel) (by decide +kernel) (by unfold noLate; decide) (go_yields w_none (fun w hS => m_load_bx Try.underlying5 (hS := hS) (hv := by first | rfl | exact zi_get rfl (by omega) | exact ic_get (by omega) | exact il_get (by omega)))) ?_ | refine any_go (i := 12) (by rfl) (by decide +kernel) (by decide +kernel) (by unfold noLate; decide) (go_yields w_none (fun w hS => m_load_rd Try.underlying5 (hS := hS) (hv := by first | rfl | exact zi_get rfl (by omega) | exact ic_get (by omega) | exact il_get (by omega)))) ?_ | refine any_go (i := 12) (by rfl) (by decide +kernel) (by decide +kernel) (by unfold noLate; decide) (go_yields w_none (fun w hS => m_load_vec Try.underlying5 (hS := hS) (hv := by first | rfl | exact zi_get rfl (by omega) | exact ic_get (by omega) | exact il_get (by omega)))) ?_
    try simp only [opv, n1, n2, n3, n4, Value.cells, List.getElem_toArray, List.getElem_cons_zero, List.getElem_cons_succ]
    rw [hk.e10]
    refine any_go (i := 13) (by rfl) (by decide +kernel) (by decide +kernel) (by unfold noLate; decide) (go_yields w_none (fun w hS => s_conv Try.underlying5 Try.underlying53 (hc := by first | exact wr_u64 (by omega) (by omega) | rfl))) ?_
    try simp only [opv, n1, n2, n3, n4, Value.cells]
    refine any_go (i := 14) (by rfl) (by decide +kernel) (by decide +kernel) (by unfold noLate; decide) (go_yields w_none (fun w hS => s_mul (hc := by first | exact wr_u64 (by omega) (by omega) | rfl))) ?_
    try simp only [opv, n1, n2, n3, n4, Value.cells]
    first | refine any_go (i := 15) (by rfl) (by decide +kernel) (by decide +kernel) (by unfold noLate; decide) (go_yields w_none (fun w hS => m_fieldAddr Try.underlying89 (hi := ti22))) ?_ | refine any_go (i := 15) (by rfl) (by decide +kernel) (by decide +kernel) (by unfold noLate; decide) (go_yields w_none (fun w hS => m_fieldAddr_rd Try.underlying89 (hi := ti22) (hS := hS))) ?_ | refine any_go (i := 15) (by rfl) (by decide +kernel) (by decide +kernel) (by unfold noLate; decide) (go_yields w_none (fun w hS => m_fieldAddr_vec Try.underlying89 (hi := ti22) (hS := hS))) ?_
    try simp only [opv, n1, n2, n3, n4, Value.cells, Nat.zero_add, Nat.add_zero, List.getElem_toArray, List.getElem_cons_zero, List.getElem_cons_succ]
    first | refine any_go (i := 16) (by rfl) (by decide +kernel) (by decide +kernel) (by unfold noLate; decide) (go_yields w_none (fun w hS => m_load_obj Try.underlying22 (hS := hS) (hv := by first | rfl | exact zi_get rfl (by omega) | exact ic_get (by omega) | exact il_get (by omega)))) ?_ | refine any_go (i := 16) (by rfl) (by decide +kernel) (by decide +kernel) (by unfold noLate; decide) (go_yields w_none (fun w hS => m_load_bx Try.underlying22 (hS := hS) (hv := by first | rfl | exact zi_get rfl (by omega) | exact ic_get (by omega) | exact il_get (by omega)))) ?_ | refine any_go (i := 16) (by rfl) (by decide +kernel) (by decide +kernel) (by unfold noLate; decide) (go_yields w_none (fun w hS => m_load_rd Try.underlying22 (hS := hS) (hv := by first | rfl | exact zi_get rfl (by omega) | exact ic_get (by omega) | exact il_get (by omega)))) ?_ | refine any_go (i := 16) (by rfl) (by decide +kernel) (by decide +kernel) (by unfold noLate; decide) (go_yields w_none (fun w hS => m_load_vec Try.underlying22 (hS := hS) (hv := by first | rfl | exact zi_get rfl (by omega) | exact ic_get (by omega) | exact il_get (by omega)))) ?_
    try simp only [opv, n1, n2, n3, n4, Value.cells, List.getElem_toArray, List.getElem_cons_zero, List.getElem_cons_succ]
    rw [hk.e11]
    refine any_go (i := 17) (by rfl) (by decide +kernel) (by decide +kernel) (by unfold noLate; decide) (go_yields w_none (fun w hS => s_conv Try.underlying22 Try.underlying53 (hc := by first | exact wr_u64 (by omega) (by omega) | rfl))) ?_
    try simp only [opv, n1, n2, n3, n4, Value.cells]
    refine any_go (i := 18) (by rfl) (by decide +kernel) (by decide +kernel) (by unfold noLate; decide) (go_yields w_none (fun w hS => s_add (hc := by first | exact wr_u64 (by omega) (by omega) | rfl))) ?_
    try simp only [opv, n1, n2, n3, n4, Value.cells]
    rw [show (kn x 10 : Int) * 4294967296 + (kn x 11 : Int) = (dotN x : Int) by unfold dotN; omega]
    refine any_go (i := 19) (by rfl) (by decide +kernel) (by decide +kernel) (by unfold noLate; decide) (go_yields w_none (fun w hS => s_build_arr (cells := #[_, _, _]) Try.underlying93 ti93 ti53 (hc := by simp only [List.map_toArray, List.map_cons, List.map_nil, opv, n1, n2, n3, n4, Value.cells, List.toList_toArray]; (repeat (refine fill_cons rfl rfl (Nat.le_of_ble_eq_true rfl) ?_)); rfl))) ?_
    try simp only [opv, n1, n2, n3, n4, Value.cells]
    rw [show (#[.int .u64 (headN x : Int), .int .u64 (numN (kitem x) : Int), .int .u64 (dotN x : Int)] : Array Value) = ic .u64 (wordsL x) from rfl]
    refine any_step [20] (by kernel_rfl) (by decide) (fun w4 hE => ⟨fun _ => (hS.ext hE).sel (by repeat (first | exact Sel.nil | (refine Sel.cons (by repeat (first | exact Del.head | apply Del.tail)) ?_))), ?_⟩)
    replace hS := hS.ext hE
    intro i hi
    simp only [List.mem_cons, List.not_mem_nil, or_false] at hi
    subst hi
    ·
      refine any_op (by rfl) ?_
      first | refine m_store_obj ti93 (hS := hS) (hc := by first | exact zi_set rfl (by omega) | exact zi_whole (by omega) (by omega) | (first | exact splice_ic (by first | omega | (simp [*]; done) | (simp [*]; omega)) | exact splice_il (by first | omega | (simp [*]; done) | (simp [*]; omega)) | exact splice_whole (by first | (simp [opv, Value.cells, *]; done) | rfl) | (simp only [opv, n1, n2, Value.cells, splice, List.take_succ_cons, List.take_zero, List.drop_succ_cons, List.drop_zero, List.length_cons, List.length_nil, Nat.zero_add, Nat.reduceAdd, List.append_assoc, List.cons_append, List.nil_append]; rfl))) (hv := by first | rfl | (show (zi _ _).toArray.size = _; rw [zi_size (by omega)]; rfl) | (simp [opv, Value.cells, *]; done)) (hfit := by first | omega | (rw [zi_size (by omega)]; first | rfl | decide) | (simp only [ic_size, List.length_map, List.size_toArray]; first | omega | decide) | rfl | (simp [*]; done) | (simp [*]; omega)) (h1 := by first | exact zi_one _ _ | exact ic_one _ _ | simp [opv, Value.cells, Value.oneCell']) (h := fun w5 hS => ?_) | refine m_store_vec ti93 (hS := hS) (hc := by first | exact zi_set rfl (by omega) | exact zi_whole (by omega) (by omega) | (first | exact splice_ic (by first | omega | (simp [*]; done) | (simp [*]; omega)) | exact splice_il (by first | omega | (simp [*]; done) | (simp [*]; omega)) | exact splice_whole (by first | (simp [opv, Value.cells, *]; done) | rfl) | (simp only [opv, n1, n2, Value.cells, splice, List.take_succ_cons, List.take_zero, List.drop_succ_cons, List.drop_zero, List.length_cons, List.length_nil, Nat.zero_add, Nat.reduceAdd, List.append_assoc, List.cons_append, List.nil_append]; rfl))) (hv := by first | rfl | (show (zi _ _).toArray.size = _; rw [zi_size (by omega)]; rfl) | (simp [opv, Value.cells, *]; done)) (hfit := by first | omega | (rw [zi_size (by omega)]; first | rfl | decide) | (simp only [ic_size, List.length_map, List.size_toArray]; first | omega | decide) | rfl | (simp [*]; done) | (simp [*]; omega)) (h1 := by first | exact zi_one _ _ | exact ic_one _ _ | simp [opv, Value.cells, Value.oneCell']) (h := fun w5 hS => ?_)
      try simp only [opv, n1, n2, n3, n4, Value.cells, Array.toArray_toList] at hS ⊢
      refine x_nil ?_
      refine any_nil (by kernel_rfl) (fun w6 hE => ?_)
      replace hS := hS.ext hE
      refine ⟨fun hl => absurd (hl 20 (by decide)) (by decide +kernel), ?_⟩
      refine mix_leaf (by simp only [clob, List.foldl, n1, n2, n3, n4]) ?_
      try simp only [n1, n2]
      exact hS.sel (by repeat (first | exact Sel.nil | (refine Sel.cons (by repeat (first | exact Del.head | apply Del.tail)) ?_)))
  intro fm1 w7 hM
  replace hS := hM
  simp only [clob, List.foldl, n3, n4]
  refine hK2 _ _ ?_
  refine x_ret ?_
  refine r_cell_agg rfl Try.underlying93 ti93 (hS := hS) (hfit := by first | omega | (rw [zi_size (by omega)]; first | rfl | decide) | (simp only [ic_size, List.length_map, List.size_toArray]; first | omega | decide) | rfl | (simp [*]; done) | (simp [*]; omega)) (hR := ?_)
  exact ⟨rfl, hS.ext_of⟩


theorem rgt_a {p q : Prop} [Decidable p] [Decidable q] {b : Bool} (h : ¬ p) : false = (decide p && b && decide q) := by simp [h]
theorem rgt_b {p q : Prop} [Decidable p] [Decidable q] {b : Bool} (h : b = false) : false = (decide p && b && decide q) := by simp [h]
theorem rgt_c {p q q' : Prop} [Decidable p] [Decidable q] [Decidable q'] {b : Bool} (h : p) (hb : b = true) (hq : q' ↔ q) : decide q' = (decide p && b && decide q) := by simp [h, hb, hq]
theorem rgt_d {p p' q : Prop} [Decidable p] [Decidable p'] [Decidable q] {b : Bool} (h : q) (hb : b = true) (hq : p' ↔ p) : decide p' = (decide p && b && decide q) := by simp [h, hb, hq]
theorem rgt_e {p q : Prop} [Decidable p] [Decidable q] {b : Bool} (h : ¬ q) : false = (decide p && b && decide q) := by simp [h]
theorem kn_eq {a : Nat} {b : Int} (h : ¬ (a : Int) = b) : True := trivial


theorem c_keyRight (x : List Int) (hk : KeyOk x)  (w0 : World) :
    CallR Try.prog 86 #[.agg (KA x)] w0 fun v w' => v = .bool (keyR x) ∧ Ext w0 w' := by
  have hS : St NoB w0 w0 [] := St.start w0
  refine c_enter (l := [.agg (KA x), undef, undef, undef, undef, undef, undef, undef, undef, undef, undef, undef, undef, undef, undef, undef, undef, undef, undef, undef, undef, undef, undef, undef, undef, undef, undef, undef, undef, undef, undef, undef, undef, undef, undef, undef, undef, undef, undef, undef, undef, undef, undef, undef, undef, undef, undef]) Try.func86 rfl (by simp only [Try.ntmps86, List.size_toArray, List.length_cons, List.length_nil, Nat.reduceAdd, Nat.reduceSub, Array.replicate_succ, Array.replicate_zero, List.push_toArray, List.append_toArray, List.nil_append, List.cons_append]) ?_
  refine x_seq fun K1 hK1 => ?_
  refine x_region ?_
  have hkl := hk.len
  have hb0 := hk.b0
  have hb1 := hk.b1
  have hb10 := hk.b10
  have hb11 := hk.b11
  have hil := kitem_len hk.len
  have hib := hk.item
  refine m_box hS (fun w1 g1 hS => ?_)
  try simp only [opv, n1, n2, n3, n4, Value.cells, Array.toArray_toList] at hS ⊢
  refine s_go (s_assign) ?_
  try simp only [opv, n1, n2, n3, n4, Value.cells]
  refine x_nil ?_
  refine hK1 _ _ ?_
  refine x_seq fun K2 hK2 => ?_
  refine x_region ?_
  first | refine s_go (m_fieldAddr Try.underlying89 (hi := ti5)) ?_ | refine s_go (m_fieldAddr_rd Try.underlying89 (hi := ti5) (hS := hS)) ?_ | refine s_go (m_fieldAddr_vec Try.underlying89 (hi := ti5) (hS := hS)) ?_
  try simp only [opv, n1, n2, n3, n4, Value.cells, Nat.zero_add, Nat.add_zero, List.getElem_toArray, List.getElem_cons_zero, List.getElem_cons_succ]
  first | refine s_go (m_load_obj Try.underlying5 (hS := hS) (hv := by first | rfl | exact zi_get rfl (by omega) | exact ic_get (by omega) | exact il_get (by omega))) ?_ | refine s_go (m_load_bx Try.underlying5 (hS := hS) (hv := by first | rfl | exact zi_get rfl (by omega) | exact ic_get (by omega) | exact il_get (by omega))) ?_ | refine s_go (m_load_rd Try.underlying5 (hS := hS) (hv := by first | rfl | exact zi_get rfl (by omega) | exact ic_get (by omega) | exact il_get (by omega))) ?_ | refine s_go (m_load_vec Try.underlying5 (hS := hS) (hv := by first | rfl | exact zi_get rfl (by omega) | exact ic_get (by omega) | exact il_get (by omega))) ?_
  try simp only [opv, n1, n2, n3, n4, Value.cells, List.getElem_toArray, List.getElem_cons_zero, List.getElem_cons_succ]
  rw [hk.e0]
  first | refine s_go (m_fieldAddr Try.underlying89 (hi := ti43)) ?_ | refine s_go (m_fieldAddr_rd Try.underlying89 (hi := ti43) (hS := hS)) ?_ | refine s_go (m_fieldAddr_vec Try.underlying89 (hi := ti43) (hS := hS)) ?_
  try simp only [opv, n1, n2, n3, n4, Value.cells, Nat.zero_add, Nat.add_zero, List.getElem_toArray, List.getElem_cons_zero, List.getElem_cons_succ]
  first | refine s_go (m_load_obj Try.underlying43 (hS := hS) (hv := by first | rfl | exact zi_get rfl (by omega) | exact ic_get (by omega) | exact il_get (by omega))) ?_ | refine s_go (m_load_bx Try.underlying43 (hS := hS) (hv := by first | rfl | exact zi_get rfl (by omega) | exact ic_get (by omega) | exact il_get (by omega))) ?_ | refine s_go (m_load_rd Try.underlying43 (hS := hS) (hv := by first | rfl | exact zi_get rfl (by omega) | exact ic_get (by omega) | exact il_get (by omega))) ?_ | refine s_go (m_load_vec Try.underlying43 (hS := hS) (hv := by first | rfl | exact zi_get rfl (by omega) | exact ic_get (by omega) | exact il_get (by omega))) ?_
  try simp only [opv, n1, n2, n3, n4, Value.cells, List.getElem_toArray, List.getElem_cons_zero, List.getElem_cons_succ]
  rw [hk.e1]
  refine s_go (s_build_struct (cells := #[_, _, .int .u8 0, .int .u8 0, .int .u8 0, .int .u8 0, .int .u8 0, .int .u8 0, .int .u8 0, .int .u8 0, .int .u8 0, .int .u32 0]) Try.underlying89 ti89 bp89 (hc := by simp only [List.map_toArray, List.map_cons, List.map_nil, opv, n1, n2, n3, n4, Value.cells, List.toList_toArray]; (repeat (refine fill_cons rfl rfl (Nat.le_of_ble_eq_true rfl) ?_)); rfl)) ?_
  try simp only [opv, n1, n2, n3, n4, Value.cells]
  rw [show (#[.int .u8 (kn x 0 : Int), .int .u16 (kn x 1 : Int), .int .u8 0, .int .u8 0, .int .u8 0, .int .u8 0, .int .u8 0, .int .u8 0, .int .u8 0, .int .u8 0, .int .u8 0, .int .u32 0] : Array Value) = KA (bareK x) from rfl]
  have hbl : (bareK x).length = 12 := rfl
  refine m_alloc ti89 hS (fun w2 g2 hS => ?_)
  try simp only [opv, n1, n2, n3, n4, Value.cells, Array.toArray_toList] at hS ⊢
  first | refine m_store_obj ti89 (hS := hS) (hc := by first | exact zi_set rfl (by omega) | exact zi_whole (by omega) (by omega) | (first | exact splice_ic (by first | omega | (simp [*]; done) | (simp [*]; omega)) | exact splice_il (by first | omega | (simp [*]; done) | (simp [*]; omega)) | exact splice_whole (by first | (simp [opv, Value.cells, *]; done) | rfl) | (simp only [opv, n1, n2, Value.cells, splice, List.take_succ_cons, List.take_zero, List.drop_succ_cons, List.drop_zero, List.length_cons, List.length_nil, Nat.zero_add, Nat.reduceAdd, List.append_assoc, List.cons_append, List.nil_append]; rfl))) (hv := by first | rfl | (show (zi _ _).toArray.size = _; rw [zi_size (by omega)]; rfl) | (simp [opv, Value.cells, *]; done)) (hfit := by first | omega | (rw [zi_size (by omega)]; first | rfl | decide) | (simp only [ic_size, List.length_map, List.size_toArray]; first | omega | decide) | rfl | (simp [*]; done) | (simp [*]; omega)) (h1 := by first | exact zi_one _ _ | exact ic_one _ _ | simp [opv, Value.cells, Value.oneCell']) (h := fun w3 hS => ?_) | refine m_store_vec ti89 (hS := hS) (hc := by first | exact zi_set rfl (by omega) | exact zi_whole (by omega) (by omega) | (first | exact splice_ic (by first | omega | (simp [*]; done) | (simp [*]; omega)) | exact splice_il (by first | omega | (simp [*]; done) | (simp [*]; omega)) | exact splice_whole (by first | (simp [opv, Value.cells, *]; done) | rfl) | (simp only [opv, n1, n2, Value.cells, splice, List.take_succ_cons, List.take_zero, List.drop_succ_cons, List.drop_zero, List.length_cons, List.length_nil, Nat.zero_add, Nat.reduceAdd, List.append_assoc, List.cons_append, List.nil_append]; rfl))) (hv := by first | rfl | (show (zi _ _).toArray.size = _; rw [zi_size (by omega)]; rfl) | (simp [opv, Value.cells, *]; done)) (hfit := by first | omega | (rw [zi_size (by omega)]; first | rfl | decide) | (simp only [ic_size, List.length_map, List.size_toArray]; first | omega | decide) | rfl | (simp [*]; done) | (simp [*]; omega)) (h1 := by first | exact zi_one _ _ | exact ic_one _ _ | simp [opv, Value.cells, Value.oneCell']) (h := fun w3 hS => ?_)
  try simp only [opv, n1, n2, n3, n4, Value.cells, Array.toArray_toList] at hS ⊢
  have hS : St NoB w0 w3 [.obj g2 (.cells (KA (bareK x)) 89 (0, 0)), .obj g1 (.cells (KA x) 89 (0, 0))] := hS
  refine x_nil ?_
  refine hK2 _ _ ?_
  refine x_seq fun K3 hK3 => ?_
  refine x_seq fun K4 hK4 => ?_
  refine x_region ?_
  first | refine s_go (m_fieldAddr Try.underlying89 (hi := ti5)) ?_ | refine s_go (m_fieldAddr_rd Try.underlying89 (hi := ti5) (hS := hS)) ?_ | refine s_go (m_fieldAddr_vec Try.underlying89 (hi := ti5) (hS := hS)) ?_
  try simp only [opv, n1, n2, n3, n4, Value.cells, Nat.zero_add, Nat.add_zero, List.getElem_toArray, List.getElem_cons_zero, List.getElem_cons_succ]
  first | refine s_go (m_load_obj Try.underlying5 (hS := hS) (hv := by first | rfl | exact zi_get rfl (by omega) | exact ic_get (by omega) | exact il_get (by omega))) ?_ | refine s_go (m_load_bx Try.underlying5 (hS := hS) (hv := by first | rfl | exact zi_get rfl (by omega) | exact ic_get (by omega) | exact il_get (by omega))) ?_ | refine s_go (m_load_rd Try.underlying5 (hS := hS) (hv := by first | rfl | exact zi_get rfl (by omega) | exact ic_get (by omega) | exact il_get (by omega))) ?_ | refine s_go (m_load_vec Try.underlying5 (hS := hS) (hv := by first | rfl | exact zi_get rfl (by omega) | exact ic_get (by omega) | exact il_get (by omega))) ?_
  try simp only [opv, n1, n2, n3, n4, Value.cells, List.getElem_toArray, List.getElem_cons_zero, List.getElem_cons_succ]
  rw [hk.e0]
  refine x_nil ?_
  refine hK4 _ _ ?_
  refine x_block ?_
  refine x_seq fun K5 hK5 => ?_
  refine x_region ?_
  refine s_go (s_eql) ?_
  try simp only [opv, n1, n2, n3, n4, Value.cells]
  refine s_go (s_assign) ?_
  try simp only [opv, n1, n2, n3, n4, Value.cells]
  refine x_nil ?_
  refine hK5 _ _ ?_
  refine x_cond (ht := fun hc1 => ?_) (hf := fun hc1 => ?_)
  ·
    try simp only [decide_eq_true_eq, decide_eq_false_iff_not, Bool.not_eq_true', Bool.not_eq_false', Int.not_lt, Int.not_le, ne_eq, Decidable.not_not, bne_iff_ne, beq_iff_eq, not_true_eq_false, not_false_eq_true] at hc1
    first
    | (exfalso; omega)
    | skip
      have hR : keyR x = decide (x = bareK x) := by rw [keyR, if_pos (by omega)]
      refine x_seq fun K6 hK6 => ?_
      refine x_region ?_
      first | refine s_go (m_load_row Try.underlying89 (hi := ti89) (hS := hS) (hfit := by first | omega | (rw [zi_size (by omega)]; first | rfl | decide) | (simp only [ic_size, List.length_map, List.size_toArray]; first | omega | decide) | rfl | (simp [*]; done) | (simp [*]; omega))) ?_ | refine s_go (m_loada_obj Try.underlying89 (hi := ti89) (hS := hS) (hfit := by first | omega | (rw [zi_size (by omega)]; first | rfl | decide) | (simp only [ic_size, List.length_map, List.size_toArray]; first | omega | decide) | rfl | (simp [*]; done) | (simp [*]; omega))) ?_ | refine s_go (m_loada_bx Try.underlying89 (hi := ti89) (hS := hS) (hfit := by first | omega | (rw [zi_size (by omega)]; first | rfl | decide) | (simp only [ic_size, List.length_map, List.size_toArray]; first | omega | decide) | rfl | (simp [*]; done) | (simp [*]; omega))) ?_ | refine s_go (m_loada_rd Try.underlying89 (hi := ti89) (hS := hS) (hfit := by first | omega | (rw [zi_size (by omega)]; first | rfl | decide) | (simp only [ic_size, List.length_map, List.size_toArray]; first | omega | decide) | rfl | (simp [*]; done) | (simp [*]; omega))) ?_ | refine s_go (m_loada_vec Try.underlying89 (hi := ti89) (hS := hS) (hfit := by first | omega | (rw [zi_size (by omega)]; first | rfl | decide) | (simp only [ic_size, List.length_map, List.size_toArray]; first | omega | decide) | rfl | (simp [*]; done) | (simp [*]; omega))) ?_
      try simp only [opv, n1, n2, n3, n4, Value.cells, List.getElem_toArray, List.getElem_cons_zero, List.getElem_cons_succ]
      first | refine s_go (m_load_row Try.underlying89 (hi := ti89) (hS := hS) (hfit := by first | omega | (rw [zi_size (by omega)]; first | rfl | decide) | (simp only [ic_size, List.length_map, List.size_toArray]; first | omega | decide) | rfl | (simp [*]; done) | (simp [*]; omega))) ?_ | refine s_go (m_loada_obj Try.underlying89 (hi := ti89) (hS := hS) (hfit := by first | omega | (rw [zi_size (by omega)]; first | rfl | decide) | (simp only [ic_size, List.length_map, List.size_toArray]; first | omega | decide) | rfl | (simp [*]; done) | (simp [*]; omega))) ?_ | refine s_go (m_loada_bx Try.underlying89 (hi := ti89) (hS := hS) (hfit := by first | omega | (rw [zi_size (by omega)]; first | rfl | decide) | (simp only [ic_size, List.length_map, List.size_toArray]; first | omega | decide) | rfl | (simp [*]; done) | (simp [*]; omega))) ?_ | refine s_go (m_loada_rd Try.underlying89 (hi := ti89) (hS := hS) (hfit := by first | omega | (rw [zi_size (by omega)]; first | rfl | decide) | (simp only [ic_size, List.length_map, List.size_toArray]; first | omega | decide) | rfl | (simp [*]; done) | (simp [*]; omega))) ?_ | refine s_go (m_loada_vec Try.underlying89 (hi := ti89) (hS := hS) (hfit := by first | omega | (rw [zi_size (by omega)]; first | rfl | decide) | (simp only [ic_size, List.length_map, List.size_toArray]; first | omega | decide) | rfl | (simp [*]; done) | (simp [*]; omega))) ?_
      try simp only [opv, n1, n2, n3, n4, Value.cells, List.getElem_toArray, List.getElem_cons_zero, List.getElem_cons_succ]
      refine s_go (s_eql_agg eqv89 (hg := eg89) (hX := rfl) (hY := rfl) (h1 := by first | assumption | rfl) (h2 := by first | assumption | rfl)) ?_
      try simp only [opv, n1, n2, n3, n4, Value.cells]
      refine s_go (s_assign) ?_
      try simp only [opv, n1, n2, n3, n4, Value.cells]
      refine x_nil ?_
      refine hK6 _ _ ?_
      refine x_ret ?_
      refine r_tmp rfl ?_
      first | exact ⟨by rw [hR]; rfl, hS.ext_of⟩ | exact ⟨congrArg Value.bool (by rw [hR]; exact rgt_a (by omega)), hS.ext_of⟩ | exact ⟨congrArg Value.bool (by rw [hR]; exact rgt_b (by assumption)), hS.ext_of⟩ | exact ⟨congrArg Value.bool (by rw [hR]; exact rgt_c (by omega) (by assumption) (by omega)), hS.ext_of⟩ | exact ⟨congrArg Value.bool (by rw [hR]; exact rgt_d (by omega) (by assumption) (by omega)), hS.ext_of⟩ | exact ⟨congrArg Value.bool (by rw [hR]; exact rgt_e (by omega)), hS.ext_of⟩
  ·
    try simp only [decide_eq_true_eq, decide_eq_false_iff_not, Bool.not_eq_true', Bool.not_eq_false', Int.not_lt, Int.not_le, ne_eq, Decidable.not_not, bne_iff_ne, beq_iff_eq, not_true_eq_false, not_false_eq_true] at hc1
    first
    | (exfalso; omega)
    | skip
      refine x_seq fun K7 hK7 => ?_
      refine x_region ?_
      refine s_go (s_eql) ?_
      try simp only [opv, n1, n2, n3, n4, Value.cells]
      refine s_go (s_assign) ?_
      try simp only [opv, n1, n2, n3, n4, Value.cells]
      refine x_nil ?_
      refine hK7 _ _ ?_
      refine x_cond (ht := fun hc2 => ?_) (hf := fun hc2 => ?_)
      ·
        try simp only [decide_eq_true_eq, decide_eq_false_iff_not, Bool.not_eq_true', Bool.not_eq_false', Int.not_lt, Int.not_le, ne_eq, Decidable.not_not, bne_iff_ne, beq_iff_eq, not_true_eq_false, not_false_eq_true] at hc2
        first
        | (exfalso; omega)
        | skip
          have hR : keyR x = (decide (kn x 11 ≠ 0) && nright (kitem x) && decide (kn x 10 < 16)) := by rw [keyR, if_neg (by omega), if_pos (by omega)]
          refine x_seq fun K8 hK8 => ?_
          refine x_region ?_
          first | refine s_go (m_fieldAddr Try.underlying89 (hi := ti22)) ?_ | refine s_go (m_fieldAddr_rd Try.underlying89 (hi := ti22) (hS := hS)) ?_ | refine s_go (m_fieldAddr_vec Try.underlying89 (hi := ti22) (hS := hS)) ?_
          try simp only [opv, n1, n2, n3, n4, Value.cells, Nat.zero_add, Nat.add_zero, List.getElem_toArray, List.getElem_cons_zero, List.getElem_cons_succ]
          first | refine s_go (m_load_obj Try.underlying22 (hS := hS) (hv := by first | rfl | exact zi_get rfl (by omega) | exact ic_get (by omega) | exact il_get (by omega))) ?_ | refine s_go (m_load_bx Try.underlying22 (hS := hS) (hv := by first | rfl | exact zi_get rfl (by omega) | exact ic_get (by omega) | exact il_get (by omega))) ?_ | refine s_go (m_load_rd Try.underlying22 (hS := hS) (hv := by first | rfl | exact zi_get rfl (by omega) | exact ic_get (by omega) | exact il_get (by omega))) ?_ | refine s_go (m_load_vec Try.underlying22 (hS := hS) (hv := by first | rfl | exact zi_get rfl (by omega) | exact ic_get (by omega) | exact il_get (by omega))) ?_
          try simp only [opv, n1, n2, n3, n4, Value.cells, List.getElem_toArray, List.getElem_cons_zero, List.getElem_cons_succ]
          rw [hk.e11]
          refine s_go (s_neq) ?_
          try simp only [opv, n1, n2, n3, n4, Value.cells]
          refine s_go (s_move) ?_
          try simp only [opv, n1, n2, n3, n4, Value.cells]
          refine s_part 21 rfl (fun hp1 => ?_) (fun hp1 => ?_)
          ·
            try simp only [n3, n4]
            try simp only [decide_eq_true_eq, decide_eq_false_iff_not, Bool.not_eq_true', Bool.not_eq_false', Int.not_lt, Int.not_le, ne_eq, Decidable.not_not] at hp1
            first
            | (exfalso; omega)
            | skip
              refine g_on (yi (t := 21) rfl rfl) ?_
              first | refine s_go (m_fieldAddr Try.underlying89 (hi := ti70)) ?_ | refine s_go (m_fieldAddr_rd Try.underlying89 (hi := ti70) (hS := hS)) ?_ | refine s_go (m_fieldAddr_vec Try.underlying89 (hi := ti70) (hS := hS)) ?_
              try simp only [opv, n1, n2, n3, n4, Value.cells, Nat.zero_add, Nat.add_zero, List.getElem_toArray, List.getElem_cons_zero, List.getElem_cons_succ]
              refine g_on (yi (t := 21) rfl rfl) ?_
              first | refine s_go (m_load_row Try.underlying70 (hi := ti70) (hS := hS) (hfit := by first | omega | (rw [zi_size (by omega)]; first | rfl | decide) | (simp only [ic_size, List.length_map, List.size_toArray]; first | omega | decide) | rfl | (simp [*]; done) | (simp [*]; omega))) ?_ | refine s_go (m_loada_obj Try.underlying70 (hi := ti70) (hS := hS) (hfit := by first | omega | (rw [zi_size (by omega)]; first | rfl | decide) | (simp only [ic_size, List.length_map, List.size_toArray]; first | omega | decide) | rfl | (simp [*]; done) | (simp [*]; omega))) ?_ | refine s_go (m_loada_bx Try.underlying70 (hi := ti70) (hS := hS) (hfit := by first | omega | (rw [zi_size (by omega)]; first | rfl | decide) | (simp only [ic_size, List.length_map, List.size_toArray]; first | omega | decide) | rfl | (simp [*]; done) | (simp [*]; omega))) ?_ | refine s_go (m_loada_rd Try.underlying70 (hi := ti70) (hS := hS) (hfit := by first | omega | (rw [zi_size (by omega)]; first | rfl | decide) | (simp only [ic_size, List.length_map, List.size_toArray]; first | omega | decide) | rfl | (simp [*]; done) | (simp [*]; omega))) ?_ | refine s_go (m_loada_vec Try.underlying70 (hi := ti70) (hS := hS) (hfit := by first | omega | (rw [zi_size (by omega)]; first | rfl | decide) | (simp only [ic_size, List.length_map, List.size_toArray]; first | omega | decide) | rfl | (simp [*]; done) | (simp [*]; omega))) ?_
              try simp only [opv, n1, n2, n3, n4, Value.cells, List.getElem_toArray, List.getElem_cons_zero, List.getElem_cons_succ]
              rw [key_item hkl]
              refine g_on (yi (t := 21) rfl rfl) ?_
              refine s_call en174 ?_
              try simp only [opv, n1, n2, n3, n4, Value.cells, List.map_toArray, List.map_cons, List.map_nil, List.append_toArray, List.cons_append, List.nil_append, Array.append_empty]
              refine CallR.mono (c_nameRight _ hil hib _) ?_
              rintro _ w4 ⟨rfl, hE4⟩
              replace hS := hS.ext hE4
              try simp only [opv, n1, n2, n3, n4, Value.cells]
              first | refine s_go (s_pick_t) ?_ | refine s_go (s_pick_f) ?_
              try simp only [opv, n1, n2, n3, n4, Value.cells]
              refine s_go (s_move) ?_
              try simp only [opv, n1, n2, n3, n4, Value.cells]
              refine s_part 26 rfl (fun hp2 => ?_) (fun hp2 => ?_)
              ·
                try simp only [n3, n4]
                try simp only [decide_eq_true_eq, decide_eq_false_iff_not, Bool.not_eq_true', Bool.not_eq_false', Int.not_lt, Int.not_le, ne_eq, Decidable.not_not] at hp2
                first
                | (exfalso; omega)
                | skip
                  refine g_on (yi (t := 26) rfl rfl) ?_
                  first | refine s_go (m_fieldAddr Try.underlying89 (hi := ti5)) ?_ | refine s_go (m_fieldAddr_rd Try.underlying89 (hi := ti5) (hS := hS)) ?_ | refine s_go (m_fieldAddr_vec Try.underlying89 (hi := ti5) (hS := hS)) ?_
                  try simp only [opv, n1, n2, n3, n4, Value.cells, Nat.zero_add, Nat.add_zero, List.getElem_toArray, List.getElem_cons_zero, List.getElem_cons_succ]
                  refine g_on (yi (t := 26) rfl rfl) ?_
                  first | refine s_go (m_load_obj Try.underlying5 (hS := hS) (hv := by first | rfl | exact zi_get rfl (by omega) | exact ic_get (by omega) | exact il_get (by omega))) ?_ | refine s_go (m_load_bx Try.underlying5 (hS := hS) (hv := by first | rfl | exact zi_get rfl (by omega) | exact ic_get (by omega) | exact il_get (by omega))) ?_ | refine s_go (m_load_rd Try.underlying5 (hS := hS) (hv := by first | rfl | exact zi_get rfl (by omega) | exact ic_get (by omega) | exact il_get (by omega))) ?_ | refine s_go (m_load_vec Try.underlying5 (hS := hS) (hv := by first | rfl | exact zi_get rfl (by omega) | exact ic_get (by omega) | exact il_get (by omega))) ?_
                  try simp only [opv, n1, n2, n3, n4, Value.cells, List.getElem_toArray, List.getElem_cons_zero, List.getElem_cons_succ]
                  rw [hk.e10]
                  refine g_on (yi (t := 26) rfl rfl) ?_
                  refine s_go (s_lss) ?_
                  try simp only [opv, n1, n2, n3, n4, Value.cells]
                  first | refine s_go (s_pick_t) ?_ | refine s_go (s_pick_f) ?_
                  try simp only [opv, n1, n2, n3, n4, Value.cells]
                  refine s_go (s_assign) ?_
                  try simp only [opv, n1, n2, n3, n4, Value.cells]
                  refine x_nil ?_
                  refine hK8 _ _ ?_
                  refine x_ret ?_
                  refine r_tmp rfl ?_
                  first | exact ⟨by rw [hR]; rfl, hS.ext_of⟩ | exact ⟨congrArg Value.bool (by rw [hR]; exact rgt_a (by omega)), hS.ext_of⟩ | exact ⟨congrArg Value.bool (by rw [hR]; exact rgt_b (by assumption)), hS.ext_of⟩ | exact ⟨congrArg Value.bool (by rw [hR]; exact rgt_c (by omega) (by assumption) (by omega)), hS.ext_of⟩ | exact ⟨congrArg Value.bool (by rw [hR]; exact rgt_d (by omega) (by assumption) (by omega)), hS.ext_of⟩ | exact ⟨congrArg Value.bool (by rw [hR]; exact rgt_e (by omega)), hS.ext_of⟩
              ·
                try simp only [n3, n4]
                try simp only [decide_eq_true_eq, decide_eq_false_iff_not, Bool.not_eq_true', Bool.not_eq_false', Int.not_lt, Int.not_le, ne_eq, Decidable.not_not] at hp2
                first
                | (exfalso; omega)
                | skip
                  refine g_off (yi (t := 26) rfl rfl) ?_
                  try simp only [opv, n1, n2, n3, n4, Value.cells]
                  refine g_off (yi (t := 26) rfl rfl) ?_
                  try simp only [opv, n1, n2, n3, n4, Value.cells]
                  refine g_off (yi (t := 26) rfl rfl) ?_
                  try simp only [opv, n1, n2, n3, n4, Value.cells]
                  first | refine s_go (s_pick_t) ?_ | refine s_go (s_pick_f) ?_
                  try simp only [opv, n1, n2, n3, n4, Value.cells]
                  refine s_go (s_assign) ?_
                  try simp only [opv, n1, n2, n3, n4, Value.cells]
                  refine x_nil ?_
                  refine hK8 _ _ ?_
                  refine x_ret ?_
                  refine r_tmp rfl ?_
                  first | exact ⟨by rw [hR]; rfl, hS.ext_of⟩ | exact ⟨congrArg Value.bool (by rw [hR]; exact rgt_a (by omega)), hS.ext_of⟩ | exact ⟨congrArg Value.bool (by rw [hR]; exact rgt_b (by assumption)), hS.ext_of⟩ | exact ⟨congrArg Value.bool (by rw [hR]; exact rgt_c (by omega) (by assumption) (by omega)), hS.ext_of⟩ | exact ⟨congrArg Value.bool (by rw [hR]; exact rgt_d (by omega) (by assumption) (by omega)), hS.ext_of⟩ | exact ⟨congrArg Value.bool (by rw [hR]; exact rgt_e (by omega)), hS.ext_of⟩
          ·
            try simp only [n3, n4]
            try simp only [decide_eq_true_eq, decide_eq_false_iff_not, Bool.not_eq_true', Bool.not_eq_false', Int.not_lt, Int.not_le, ne_eq, Decidable.not_not] at hp1
            first
            | (exfalso; omega)
            | skip
              refine g_off (yi (t := 21) rfl rfl) ?_
              try simp only [opv, n1, n2, n3, n4, Value.cells]
              refine g_off (yi (t := 21) rfl rfl) ?_
              try simp only [opv, n1, n2, n3, n4, Value.cells]
              refine g_off (yi (t := 21) rfl rfl) ?_
              try simp only [opv, n1, n2, n3, n4, Value.cells]
              first | refine s_go (s_pick_t) ?_ | refine s_go (s_pick_f) ?_
              try simp only [opv, n1, n2, n3, n4, Value.cells]
              refine s_go (s_move) ?_
              try simp only [opv, n1, n2, n3, n4, Value.cells]
              refine g_off (yi (t := 26) rfl rfl) ?_
              try simp only [opv, n1, n2, n3, n4, Value.cells]
              refine g_off (yi (t := 26) rfl rfl) ?_
              try simp only [opv, n1, n2, n3, n4, Value.cells]
              refine g_off (yi (t := 26) rfl rfl) ?_
              try simp only [opv, n1, n2, n3, n4, Value.cells]
              first | refine s_go (s_pick_t) ?_ | refine s_go (s_pick_f) ?_
              try simp only [opv, n1, n2, n3, n4, Value.cells]
              refine s_go (s_assign) ?_
              try simp only [opv, n1, n2, n3, n4, Value.cells]
              refine x_nil ?_
              refine hK8 _ _ ?_
              refine x_ret ?_
              refine r_tmp rfl ?_
              first | exact ⟨by rw [hR]; rfl, hS.ext_of⟩ | exact ⟨congrArg Value.bool (by rw [hR]; exact rgt_a (by omega)), hS.ext_of⟩ | exact ⟨congrArg Value.bool (by rw [hR]; exact rgt_b (by assumption)), hS.ext_of⟩ | exact ⟨congrArg Value.bool (by rw [hR]; exact rgt_c (by omega) (by assumption) (by omega)), hS.ext_of⟩ | exact ⟨congrArg Value.bool (by rw [hR]; exact rgt_d (by omega) (by assumption) (by omega)), hS.ext_of⟩ | exact ⟨congrArg Value.bool (by rw [hR]; exact rgt_e (by omega)), hS.ext_of⟩
      ·
        try simp only [decide_eq_true_eq, decide_eq_false_iff_not, Bool.not_eq_true', Bool.not_eq_false', Int.not_lt, Int.not_le, ne_eq, Decidable.not_not, bne_iff_ne, beq_iff_eq, not_true_eq_false, not_false_eq_true] at hc2
        first
        | (exfalso; omega)
        | skip
          refine x_seq fun K9 hK9 => ?_
          refine x_seq fun K10 hK10 => ?_
          refine x_region ?_
          refine s_go (s_eql) ?_
          try simp only [opv, n1, n2, n3, n4, Value.cells]
          refine s_go (s_assign) ?_
          try simp only [opv, n1, n2, n3, n4, Value.cells]
          refine x_nil ?_
          refine hK10 _ _ ?_
          refine x_cond (ht := fun hc3 => ?_) (hf := fun hc3 => ?_)
          ·
            try simp only [decide_eq_true_eq, decide_eq_false_iff_not, Bool.not_eq_true', Bool.not_eq_false', Int.not_lt, Int.not_le, ne_eq, Decidable.not_not, bne_iff_ne, beq_iff_eq, not_true_eq_false, not_false_eq_true] at hc3
            first
            | (exfalso; omega)
            | skip
              try have hR : keyR x = (decide (kn x 11 = 0) && nright (kitem x) && decide (kn x 10 < 16)) := by rw [keyR, if_neg (by omega), if_neg (by omega), if_pos (by omega)]
              refine x_skip ?_
              refine hK9 _ _ ?_
              refine x_cond (ht := fun hc4 => ?_) (hf := fun hc4 => ?_)
              ·
                try simp only [decide_eq_true_eq, decide_eq_false_iff_not, Bool.not_eq_true', Bool.not_eq_false', Int.not_lt, Int.not_le, ne_eq, Decidable.not_not, bne_iff_ne, beq_iff_eq, not_true_eq_false, not_false_eq_true] at hc4
                first
                | (exfalso; omega)
                | skip
                  try have hR : keyR x = (decide (kn x 11 = 0) && nright (kitem x) && decide (kn x 10 < 16)) := by rw [keyR, if_neg (by omega), if_neg (by omega), if_pos (by omega)]
                  refine x_seq fun K11 hK11 => ?_
                  refine x_region ?_
                  first | refine s_go (m_fieldAddr Try.underlying89 (hi := ti22)) ?_ | refine s_go (m_fieldAddr_rd Try.underlying89 (hi := ti22) (hS := hS)) ?_ | refine s_go (m_fieldAddr_vec Try.underlying89 (hi := ti22) (hS := hS)) ?_
                  try simp only [opv, n1, n2, n3, n4, Value.cells, Nat.zero_add, Nat.add_zero, List.getElem_toArray, List.getElem_cons_zero, List.getElem_cons_succ]
                  first | refine s_go (m_load_obj Try.underlying22 (hS := hS) (hv := by first | rfl | exact zi_get rfl (by omega) | exact ic_get (by omega) | exact il_get (by omega))) ?_ | refine s_go (m_load_bx Try.underlying22 (hS := hS) (hv := by first | rfl | exact zi_get rfl (by omega) | exact ic_get (by omega) | exact il_get (by omega))) ?_ | refine s_go (m_load_rd Try.underlying22 (hS := hS) (hv := by first | rfl | exact zi_get rfl (by omega) | exact ic_get (by omega) | exact il_get (by omega))) ?_ | refine s_go (m_load_vec Try.underlying22 (hS := hS) (hv := by first | rfl | exact zi_get rfl (by omega) | exact ic_get (by omega) | exact il_get (by omega))) ?_
                  try simp only [opv, n1, n2, n3, n4, Value.cells, List.getElem_toArray, List.getElem_cons_zero, List.getElem_cons_succ]
                  rw [hk.e11]
                  refine s_go (s_eql) ?_
                  try simp only [opv, n1, n2, n3, n4, Value.cells]
                  refine s_go (s_move) ?_
                  try simp only [opv, n1, n2, n3, n4, Value.cells]
                  refine s_part 37 rfl (fun hp3 => ?_) (fun hp3 => ?_)
                  ·
                    try simp only [n3, n4]
                    try simp only [decide_eq_true_eq, decide_eq_false_iff_not, Bool.not_eq_true', Bool.not_eq_false', Int.not_lt, Int.not_le, ne_eq, Decidable.not_not] at hp3
                    first
                    | (exfalso; omega)
                    | skip
                      refine g_on (yi (t := 37) rfl rfl) ?_
                      first | refine s_go (m_fieldAddr Try.underlying89 (hi := ti70)) ?_ | refine s_go (m_fieldAddr_rd Try.underlying89 (hi := ti70) (hS := hS)) ?_ | refine s_go (m_fieldAddr_vec Try.underlying89 (hi := ti70) (hS := hS)) ?_
                      try simp only [opv, n1, n2, n3, n4, Value.cells, Nat.zero_add, Nat.add_zero, List.getElem_toArray, List.getElem_cons_zero, List.getElem_cons_succ]
                      refine g_on (yi (t := 37) rfl rfl) ?_
                      first | refine s_go (m_load_row Try.underlying70 (hi := ti70) (hS := hS) (hfit := by first | omega | (rw [zi_size (by omega)]; first | rfl | decide) | (simp only [ic_size, List.length_map, List.size_toArray]; first | omega | decide) | rfl | (simp [*]; done) | (simp [*]; omega))) ?_ | refine s_go (m_loada_obj Try.underlying70 (hi := ti70) (hS := hS) (hfit := by first | omega | (rw [zi_size (by omega)]; first | rfl | decide) | (simp only [ic_size, List.length_map, List.size_toArray]; first | omega | decide) | rfl | (simp [*]; done) | (simp [*]; omega))) ?_ | refine s_go (m_loada_bx Try.underlying70 (hi := ti70) (hS := hS) (hfit := by first | omega | (rw [zi_size (by omega)]; first | rfl | decide) | (simp only [ic_size, List.length_map, List.size_toArray]; first | omega | decide) | rfl | (simp [*]; done) | (simp [*]; omega))) ?_ | refine s_go (m_loada_rd Try.underlying70 (hi := ti70) (hS := hS) (hfit := by first | omega | (rw [zi_size (by omega)]; first | rfl | decide) | (simp only [ic_size, List.length_map, List.size_toArray]; first | omega | decide) | rfl | (simp [*]; done) | (simp [*]; omega))) ?_ | refine s_go (m_loada_vec Try.underlying70 (hi := ti70) (hS := hS) (hfit := by first | omega | (rw [zi_size (by omega)]; first | rfl | decide) | (simp only [ic_size, List.length_map, List.size_toArray]; first | omega | decide) | rfl | (simp [*]; done) | (simp [*]; omega))) ?_
                      try simp only [opv, n1, n2, n3, n4, Value.cells, List.getElem_toArray, List.getElem_cons_zero, List.getElem_cons_succ]
                      rw [key_item hkl]
                      refine g_on (yi (t := 37) rfl rfl) ?_
                      refine s_call en174 ?_
                      try simp only [opv, n1, n2, n3, n4, Value.cells, List.map_toArray, List.map_cons, List.map_nil, List.append_toArray, List.cons_append, List.nil_append, Array.append_empty]
                      refine CallR.mono (c_nameRight _ hil hib _) ?_
                      rintro _ w5 ⟨rfl, hE5⟩
                      replace hS := hS.ext hE5
                      try simp only [opv, n1, n2, n3, n4, Value.cells]
                      first | refine s_go (s_pick_t) ?_ | refine s_go (s_pick_f) ?_
                      try simp only [opv, n1, n2, n3, n4, Value.cells]
                      refine s_go (s_move) ?_
                      try simp only [opv, n1, n2, n3, n4, Value.cells]
                      refine s_part 42 rfl (fun hp4 => ?_) (fun hp4 => ?_)
                      ·
                        try simp only [n3, n4]
                        try simp only [decide_eq_true_eq, decide_eq_false_iff_not, Bool.not_eq_true', Bool.not_eq_false', Int.not_lt, Int.not_le, ne_eq, Decidable.not_not] at hp4
                        first
                        | (exfalso; omega)
                        | skip
                          refine g_on (yi (t := 42) rfl rfl) ?_
                          first | refine s_go (m_fieldAddr Try.underlying89 (hi := ti5)) ?_ | refine s_go (m_fieldAddr_rd Try.underlying89 (hi := ti5) (hS := hS)) ?_ | refine s_go (m_fieldAddr_vec Try.underlying89 (hi := ti5) (hS := hS)) ?_
                          try simp only [opv, n1, n2, n3, n4, Value.cells, Nat.zero_add, Nat.add_zero, List.getElem_toArray, List.getElem_cons_zero, List.getElem_cons_succ]
                          refine g_on (yi (t := 42) rfl rfl) ?_
                          first | refine s_go (m_load_obj Try.underlying5 (hS := hS) (hv := by first | rfl | exact zi_get rfl (by omega) | exact ic_get (by omega) | exact il_get (by omega))) ?_ | refine s_go (m_load_bx Try.underlying5 (hS := hS) (hv := by first | rfl | exact zi_get rfl (by omega) | exact ic_get (by omega) | exact il_get (by omega))) ?_ | refine s_go (m_load_rd Try.underlying5 (hS := hS) (hv := by first | rfl | exact zi_get rfl (by omega) | exact ic_get (by omega) | exact il_get (by omega))) ?_ | refine s_go (m_load_vec Try.underlying5 (hS := hS) (hv := by first | rfl | exact zi_get rfl (by omega) | exact ic_get (by omega) | exact il_get (by omega))) ?_
                          try simp only [opv, n1, n2, n3, n4, Value.cells, List.getElem_toArray, List.getElem_cons_zero, List.getElem_cons_succ]
                          rw [hk.e10]
                          refine g_on (yi (t := 42) rfl rfl) ?_
                          refine s_go (s_lss) ?_
                          try simp only [opv, n1, n2, n3, n4, Value.cells]
                          first | refine s_go (s_pick_t) ?_ | refine s_go (s_pick_f) ?_
                          try simp only [opv, n1, n2, n3, n4, Value.cells]
                          refine s_go (s_assign) ?_
                          try simp only [opv, n1, n2, n3, n4, Value.cells]
                          refine x_nil ?_
                          refine hK11 _ _ ?_
                          refine x_ret ?_
                          refine r_tmp rfl ?_
                          first | exact ⟨by rw [hR]; rfl, hS.ext_of⟩ | exact ⟨congrArg Value.bool (by rw [hR]; exact rgt_a (by omega)), hS.ext_of⟩ | exact ⟨congrArg Value.bool (by rw [hR]; exact rgt_b (by assumption)), hS.ext_of⟩ | exact ⟨congrArg Value.bool (by rw [hR]; exact rgt_c (by omega) (by assumption) (by omega)), hS.ext_of⟩ | exact ⟨congrArg Value.bool (by rw [hR]; exact rgt_d (by omega) (by assumption) (by omega)), hS.ext_of⟩ | exact ⟨congrArg Value.bool (by rw [hR]; exact rgt_e (by omega)), hS.ext_of⟩
                      ·
                        try simp only [n3, n4]
                        try simp only [decide_eq_true_eq, decide_eq_false_iff_not, Bool.not_eq_true', Bool.not_eq_false', Int.not_lt, Int.not_le, ne_eq, Decidable.not_not] at hp4
                        first
                        | (exfalso; omega)
                        | skip
                          refine g_off (yi (t := 42) rfl rfl) ?_
                          try simp only [opv, n1, n2, n3, n4, Value.cells]
                          refine g_off (yi (t := 42) rfl rfl) ?_
                          try simp only [opv, n1, n2, n3, n4, Value.cells]
                          refine g_off (yi (t := 42) rfl rfl) ?_
                          try simp only [opv, n1, n2, n3, n4, Value.cells]
                          first | refine s_go (s_pick_t) ?_ | refine s_go (s_pick_f) ?_
                          try simp only [opv, n1, n2, n3, n4, Value.cells]
                          refine s_go (s_assign) ?_
                          try simp only [opv, n1, n2, n3, n4, Value.cells]
                          refine x_nil ?_
                          refine hK11 _ _ ?_
                          refine x_ret ?_
                          refine r_tmp rfl ?_
                          first | exact ⟨by rw [hR]; rfl, hS.ext_of⟩ | exact ⟨congrArg Value.bool (by rw [hR]; exact rgt_a (by omega)), hS.ext_of⟩ | exact ⟨congrArg Value.bool (by rw [hR]; exact rgt_b (by assumption)), hS.ext_of⟩ | exact ⟨congrArg Value.bool (by rw [hR]; exact rgt_c (by omega) (by assumption) (by omega)), hS.ext_of⟩ | exact ⟨congrArg Value.bool (by rw [hR]; exact rgt_d (by omega) (by assumption) (by omega)), hS.ext_of⟩ | exact ⟨congrArg Value.bool (by rw [hR]; exact rgt_e (by omega)), hS.ext_of⟩
                  ·
                    try simp only [n3, n4]
                    try simp only [decide_eq_true_eq, decide_eq_false_iff_not, Bool.not_eq_true', Bool.not_eq_false', Int.not_lt, Int.not_le, ne_eq, Decidable.not_not] at hp3
                    first
                    | (exfalso; omega)
                    | skip
                      refine g_off (yi (t := 37) rfl rfl) ?_
                      try simp only [opv, n1, n2, n3, n4, Value.cells]
                      refine g_off (yi (t := 37) rfl rfl) ?_
                      try simp only [opv, n1, n2, n3, n4, Value.cells]
                      refine g_off (yi (t := 37) rfl rfl) ?_
                      try simp only [opv, n1, n2, n3, n4, Value.cells]
                      first | refine s_go (s_pick_t) ?_ | refine s_go (s_pick_f) ?_
                      try simp only [opv, n1, n2, n3, n4, Value.cells]
                      refine s_go (s_move) ?_
                      try simp only [opv, n1, n2, n3, n4, Value.cells]
                      refine g_off (yi (t := 42) rfl rfl) ?_
                      try simp only [opv, n1, n2, n3, n4, Value.cells]
                      refine g_off (yi (t := 42) rfl rfl) ?_
                      try simp only [opv, n1, n2, n3, n4, Value.cells]
                      refine g_off (yi (t := 42) rfl rfl) ?_
                      try simp only [opv, n1, n2, n3, n4, Value.cells]
                      first | refine s_go (s_pick_t) ?_ | refine s_go (s_pick_f) ?_
                      try simp only [opv, n1, n2, n3, n4, Value.cells]
                      refine s_go (s_assign) ?_
                      try simp only [opv, n1, n2, n3, n4, Value.cells]
                      refine x_nil ?_
                      refine hK11 _ _ ?_
                      refine x_ret ?_
                      refine r_tmp rfl ?_
                      first | exact ⟨by rw [hR]; rfl, hS.ext_of⟩ | exact ⟨congrArg Value.bool (by rw [hR]; exact rgt_a (by omega)), hS.ext_of⟩ | exact ⟨congrArg Value.bool (by rw [hR]; exact rgt_b (by assumption)), hS.ext_of⟩ | exact ⟨congrArg Value.bool (by rw [hR]; exact rgt_c (by omega) (by assumption) (by omega)), hS.ext_of⟩ | exact ⟨congrArg Value.bool (by rw [hR]; exact rgt_d (by omega) (by assumption) (by omega)), hS.ext_of⟩ | exact ⟨congrArg Value.bool (by rw [hR]; exact rgt_e (by omega)), hS.ext_of⟩
              ·
                try simp only [decide_eq_true_eq, decide_eq_false_iff_not, Bool.not_eq_true', Bool.not_eq_false', Int.not_lt, Int.not_le, ne_eq, Decidable.not_not, bne_iff_ne, beq_iff_eq, not_true_eq_false, not_false_eq_true] at hc4
                first
                | (exfalso; omega)
                | skip
                  try have hR : keyR x = false := by rw [keyR, if_neg (by omega), if_neg (by omega), if_neg (by omega)]
                  refine x_skip ?_
                  refine hK3 _ _ ?_
                  refine x_seq fun K12 hK12 => ?_
                  refine x_region ?_
                  refine s_go (s_assign) ?_
                  try simp only [opv, n1, n2, n3, n4, Value.cells]
                  refine x_nil ?_
                  refine hK12 _ _ ?_
                  refine x_ret ?_
                  refine r_tmp rfl ?_
                  first | exact ⟨by rw [hR]; rfl, hS.ext_of⟩ | exact ⟨congrArg Value.bool (by rw [hR]; exact rgt_a (by omega)), hS.ext_of⟩ | exact ⟨congrArg Value.bool (by rw [hR]; exact rgt_b (by assumption)), hS.ext_of⟩ | exact ⟨congrArg Value.bool (by rw [hR]; exact rgt_c (by omega) (by assumption) (by omega)), hS.ext_of⟩ | exact ⟨congrArg Value.bool (by rw [hR]; exact rgt_d (by omega) (by assumption) (by omega)), hS.ext_of⟩ | exact ⟨congrArg Value.bool (by rw [hR]; exact rgt_e (by omega)), hS.ext_of⟩
          ·
            try simp only [decide_eq_true_eq, decide_eq_false_iff_not, Bool.not_eq_true', Bool.not_eq_false', Int.not_lt, Int.not_le, ne_eq, Decidable.not_not, bne_iff_ne, beq_iff_eq, not_true_eq_false, not_false_eq_true] at hc3
            first
            | (exfalso; omega)
            | skip
              try have hR : keyR x = false := by rw [keyR, if_neg (by omega), if_neg (by omega), if_neg (by omega)]
              refine x_region ?_
              refine s_go (s_eql) ?_
              try simp only [opv, n1, n2, n3, n4, Value.cells]
              refine s_go (s_assign) ?_
              try simp only [opv, n1, n2, n3, n4, Value.cells]
              refine x_nil ?_
              refine hK9 _ _ ?_
              refine x_cond (ht := fun hc5 => ?_) (hf := fun hc5 => ?_)
              ·
                try simp only [decide_eq_true_eq, decide_eq_false_iff_not, Bool.not_eq_true', Bool.not_eq_false', Int.not_lt, Int.not_le, ne_eq, Decidable.not_not, bne_iff_ne, beq_iff_eq, not_true_eq_false, not_false_eq_true] at hc5
                first
                | (exfalso; omega)
                | skip
                  try have hR : keyR x = (decide (kn x 11 = 0) && nright (kitem x) && decide (kn x 10 < 16)) := by rw [keyR, if_neg (by omega), if_neg (by omega), if_pos (by omega)]
                  refine x_seq fun K13 hK13 => ?_
                  refine x_region ?_
                  first | refine s_go (m_fieldAddr Try.underlying89 (hi := ti22)) ?_ | refine s_go (m_fieldAddr_rd Try.underlying89 (hi := ti22) (hS := hS)) ?_ | refine s_go (m_fieldAddr_vec Try.underlying89 (hi := ti22) (hS := hS)) ?_
                  try simp only [opv, n1, n2, n3, n4, Value.cells, Nat.zero_add, Nat.add_zero, List.getElem_toArray, List.getElem_cons_zero, List.getElem_cons_succ]
                  first | refine s_go (m_load_obj Try.underlying22 (hS := hS) (hv := by first | rfl | exact zi_get rfl (by omega) | exact ic_get (by omega) | exact il_get (by omega))) ?_ | refine s_go (m_load_bx Try.underlying22 (hS := hS) (hv := by first | rfl | exact zi_get rfl (by omega) | exact ic_get (by omega) | exact il_get (by omega))) ?_ | refine s_go (m_load_rd Try.underlying22 (hS := hS) (hv := by first | rfl | exact zi_get rfl (by omega) | exact ic_get (by omega) | exact il_get (by omega))) ?_ | refine s_go (m_load_vec Try.underlying22 (hS := hS) (hv := by first | rfl | exact zi_get rfl (by omega) | exact ic_get (by omega) | exact il_get (by omega))) ?_
                  try simp only [opv, n1, n2, n3, n4, Value.cells, List.getElem_toArray, List.getElem_cons_zero, List.getElem_cons_succ]
                  rw [hk.e11]
                  refine s_go (s_eql) ?_
                  try simp only [opv, n1, n2, n3, n4, Value.cells]
                  refine s_go (s_move) ?_
                  try simp only [opv, n1, n2, n3, n4, Value.cells]
                  refine s_part 37 rfl (fun hp5 => ?_) (fun hp5 => ?_)
                  ·
                    try simp only [n3, n4]
                    try simp only [decide_eq_true_eq, decide_eq_false_iff_not, Bool.not_eq_true', Bool.not_eq_false', Int.not_lt, Int.not_le, ne_eq, Decidable.not_not] at hp5
                    first
                    | (exfalso; omega)
                    | skip
                      refine g_on (yi (t := 37) rfl rfl) ?_
                      first | refine s_go (m_fieldAddr Try.underlying89 (hi := ti70)) ?_ | refine s_go (m_fieldAddr_rd Try.underlying89 (hi := ti70) (hS := hS)) ?_ | refine s_go (m_fieldAddr_vec Try.underlying89 (hi := ti70) (hS := hS)) ?_
                      try simp only [opv, n1, n2, n3, n4, Value.cells, Nat.zero_add, Nat.add_zero, List.getElem_toArray, List.getElem_cons_zero, List.getElem_cons_succ]
                      refine g_on (yi (t := 37) rfl rfl) ?_
                      first | refine s_go (m_load_row Try.underlying70 (hi := ti70) (hS := hS) (hfit := by first | omega | (rw [zi_size (by omega)]; first | rfl | decide) | (simp only [ic_size, List.length_map, List.size_toArray]; first | omega | decide) | rfl | (simp [*]; done) | (simp [*]; omega))) ?_ | refine s_go (m_loada_obj Try.underlying70 (hi := ti70) (hS := hS) (hfit := by first | omega | (rw [zi_size (by omega)]; first | rfl | decide) | (simp only [ic_size, List.length_map, List.size_toArray]; first | omega | decide) | rfl | (simp [*]; done) | (simp [*]; omega))) ?_ | refine s_go (m_loada_bx Try.underlying70 (hi := ti70) (hS := hS) (hfit := by first | omega | (rw [zi_size (by omega)]; first | rfl | decide) | (simp only [ic_size, List.length_map, List.size_toArray]; first | omega | decide) | rfl | (simp [*]; done) | (simp [*]; omega))) ?_ | refine s_go (m_loada_rd Try.underlying70 (hi := ti70) (hS := hS) (hfit := by first | omega | (rw [zi_size (by omega)]; first | rfl | decide) | (simp only [ic_size, List.length_map, List.size_toArray]; first | omega | decide) | rfl | (simp [*]; done) | (simp [*]; omega))) ?_ | refine s_go (m_loada_vec Try.underlying70 (hi := ti70) (hS := hS) (hfit := by first | omega | (rw [zi_size (by omega)]; first | rfl | decide) | (simp only [ic_size, List.length_map, List.size_toArray]; first | omega | decide) | rfl | (simp [*]; done) | (simp [*]; omega))) ?_
                      try simp only [opv, n1, n2, n3, n4, Value.cells, List.getElem_toArray, List.getElem_cons_zero, List.getElem_cons_succ]
                      rw [key_item hkl]
                      refine g_on (yi (t := 37) rfl rfl) ?_
                      refine s_call en174 ?_
                      try simp only [opv, n1, n2, n3, n4, Value.cells, List.map_toArray, List.map_cons, List.map_nil, List.append_toArray, List.cons_append, List.nil_append, Array.append_empty]
                      refine CallR.mono (c_nameRight _ hil hib _) ?_
                      rintro _ w6 ⟨rfl, hE6⟩
                      replace hS := hS.ext hE6
                      try simp only [opv, n1, n2, n3, n4, Value.cells]
                      first | refine s_go (s_pick_t) ?_ | refine s_go (s_pick_f) ?_
                      try simp only [opv, n1, n2, n3, n4, Value.cells]
                      refine s_go (s_move) ?_
                      try simp only [opv, n1, n2, n3, n4, Value.cells]
                      refine s_part 42 rfl (fun hp6 => ?_) (fun hp6 => ?_)
                      ·
                        try simp only [n3, n4]
                        try simp only [decide_eq_true_eq, decide_eq_false_iff_not, Bool.not_eq_true', Bool.not_eq_false', Int.not_lt, Int.not_le, ne_eq, Decidable.not_not] at hp6
                        first
                        | (exfalso; omega)
                        | skip
                          refine g_on (yi (t := 42) rfl rfl) ?_
                          first | refine s_go (m_fieldAddr Try.underlying89 (hi := ti5)) ?_ | refine s_go (m_fieldAddr_rd Try.underlying89 (hi := ti5) (hS := hS)) ?_ | refine s_go (m_fieldAddr_vec Try.underlying89 (hi := ti5) (hS := hS)) ?_
                          try simp only [opv, n1, n2, n3, n4, Value.cells, Nat.zero_add, Nat.add_zero, List.getElem_toArray, List.getElem_cons_zero, List.getElem_cons_succ]
                          refine g_on (yi (t := 42) rfl rfl) ?_
                          first | refine s_go (m_load_obj Try.underlying5 (hS := hS) (hv := by first | rfl | exact zi_get rfl (by omega) | exact ic_get (by omega) | exact il_get (by omega))) ?_ | refine s_go (m_load_bx Try.underlying5 (hS := hS) (hv := by first | rfl | exact zi_get rfl (by omega) | exact ic_get (by omega) | exact il_get (by omega))) ?_ | refine s_go (m_load_rd Try.underlying5 (hS := hS) (hv := by first | rfl | exact zi_get rfl (by omega) | exact ic_get (by omega) | exact il_get (by omega))) ?_ | refine s_go (m_load_vec Try.underlying5 (hS := hS) (hv := by first | rfl | exact zi_get rfl (by omega) | exact ic_get (by omega) | exact il_get (by omega))) ?_
                          try simp only [opv, n1, n2, n3, n4, Value.cells, List.getElem_toArray, List.getElem_cons_zero, List.getElem_cons_succ]
                          rw [hk.e10]
                          refine g_on (yi (t := 42) rfl rfl) ?_
                          refine s_go (s_lss) ?_
                          try simp only [opv, n1, n2, n3, n4, Value.cells]
                          first | refine s_go (s_pick_t) ?_ | refine s_go (s_pick_f) ?_
                          try simp only [opv, n1, n2, n3, n4, Value.cells]
                          refine s_go (s_assign) ?_
                          try simp only [opv, n1, n2, n3, n4, Value.cells]
                          refine x_nil ?_
                          refine hK13 _ _ ?_
                          refine x_ret ?_
                          refine r_tmp rfl ?_
                          first | exact ⟨by rw [hR]; rfl, hS.ext_of⟩ | exact ⟨congrArg Value.bool (by rw [hR]; exact rgt_a (by omega)), hS.ext_of⟩ | exact ⟨congrArg Value.bool (by rw [hR]; exact rgt_b (by assumption)), hS.ext_of⟩ | exact ⟨congrArg Value.bool (by rw [hR]; exact rgt_c (by omega) (by assumption) (by omega)), hS.ext_of⟩ | exact ⟨congrArg Value.bool (by rw [hR]; exact rgt_d (by omega) (by assumption) (by omega)), hS.ext_of⟩ | exact ⟨congrArg Value.bool (by rw [hR]; exact rgt_e (by omega)), hS.ext_of⟩
                      ·
                        try simp only [n3, n4]
                        try simp only [decide_eq_true_eq, decide_eq_false_iff_not, Bool.not_eq_true', Bool.not_eq_false', Int.not_lt, Int.not_le, ne_eq, Decidable.not_not] at hp6
                        first
                        | (exfalso; omega)
                        | skip
                          refine g_off (yi (t := 42) rfl rfl) ?_
                          try simp only [opv, n1, n2, n3, n4, Value.cells]
                          refine g_off (yi (t := 42) rfl rfl) ?_
                          try simp only [opv, n1, n2, n3, n4, Value.cells]
                          refine g_off (yi (t := 42) rfl rfl) ?_
                          try simp only [opv, n1, n2, n3, n4, Value.cells]
                          first | refine s_go (s_pick_t) ?_ | refine s_go (s_pick_f) ?_
                          try simp only [opv, n1, n2, n3, n4, Value.cells]
                          refine s_go (s_assign) ?_
                          try simp only [opv, n1, n2, n3, n4, Value.cells]
                          refine x_nil ?_
                          refine hK13 _ _ ?_
                          refine x_ret ?_
                          refine r_tmp rfl ?_
                          first | exact ⟨by rw [hR]; rfl, hS.ext_of⟩ | exact ⟨congrArg Value.bool (by rw [hR]; exact rgt_a (by omega)), hS.ext_of⟩ | exact ⟨congrArg Value.bool (by rw [hR]; exact rgt_b (by assumption)), hS.ext_of⟩ | exact ⟨congrArg Value.bool (by rw [hR]; exact rgt_c (by omega) (by assumption) (by omega)), hS.ext_of⟩ | exact ⟨congrArg Value.bool (by rw [hR]; exact rgt_d (by omega) (by assumption) (by omega)), hS.ext_of⟩ | exact ⟨congrArg Value.bool (by rw [hR]; exact rgt_e (by omega)), hS.ext_of⟩
                  ·
                    try simp only [n3, n4]
                    try simp only [decide_eq_true_eq, decide_eq_false_iff_not, Bool.not_eq_true', Bool.not_eq_false', Int.not_lt, Int.not_le, ne_eq, Decidable.not_not] at hp5
                    first
                    | (exfalso; omega)
                    | skip
                      refine g_off (yi (t := 37) rfl rfl) ?_
                      try simp only [opv, n1, n2, n3, n4, Value.cells]
                      refine g_off (yi (t := 37) rfl rfl) ?_
                      try simp only [opv, n1, n2, n3, n4, Value.cells]
                      refine g_off (yi (t := 37) rfl rfl) ?_
                      try simp only [opv, n1, n2, n3, n4, Value.cells]
                      first | refine s_go (s_pick_t) ?_ | refine s_go (s_pick_f) ?_
                      try simp only [opv, n1, n2, n3, n4, Value.cells]
                      refine s_go (s_move) ?_
                      try simp only [opv, n1, n2, n3, n4, Value.cells]
                      refine g_off (yi (t := 42) rfl rfl) ?_
                      try simp only [opv, n1, n2, n3, n4, Value.cells]
                      refine g_off (yi (t := 42) rfl rfl) ?_
                      try simp only [opv, n1, n2, n3, n4, Value.cells]
                      refine g_off (yi (t := 42) rfl rfl) ?_
                      try simp only [opv, n1, n2, n3, n4, Value.cells]
                      first | refine s_go (s_pick_t) ?_ | refine s_go (s_pick_f) ?_
                      try simp only [opv, n1, n2, n3, n4, Value.cells]
                      refine s_go (s_assign) ?_
                      try simp only [opv, n1, n2, n3, n4, Value.cells]
                      refine x_nil ?_
                      refine hK13 _ _ ?_
                      refine x_ret ?_
                      refine r_tmp rfl ?_
                      first | exact ⟨by rw [hR]; rfl, hS.ext_of⟩ | exact ⟨congrArg Value.bool (by rw [hR]; exact rgt_a (by omega)), hS.ext_of⟩ | exact ⟨congrArg Value.bool (by rw [hR]; exact rgt_b (by assumption)), hS.ext_of⟩ | exact ⟨congrArg Value.bool (by rw [hR]; exact rgt_c (by omega) (by assumption) (by omega)), hS.ext_of⟩ | exact ⟨congrArg Value.bool (by rw [hR]; exact rgt_d (by omega) (by assumption) (by omega)), hS.ext_of⟩ | exact ⟨congrArg Value.bool (by rw [hR]; exact rgt_e (by omega)), hS.ext_of⟩
              ·
                try simp only [decide_eq_true_eq, decide_eq_false_iff_not, Bool.not_eq_true', Bool.not_eq_false', Int.not_lt, Int.not_le, ne_eq, Decidable.not_not, bne_iff_ne, beq_iff_eq, not_true_eq_false, not_false_eq_true] at hc5
                first
                | (exfalso; omega)
                | skip
                  try have hR : keyR x = false := by rw [keyR, if_neg (by omega), if_neg (by omega), if_neg (by omega)]
                  refine x_skip ?_
                  refine hK3 _ _ ?_
                  refine x_seq fun K14 hK14 => ?_
                  refine x_region ?_
                  refine s_go (s_assign) ?_
                  try simp only [opv, n1, n2, n3, n4, Value.cells]
                  refine x_nil ?_
                  refine hK14 _ _ ?_
                  refine x_ret ?_
                  refine r_tmp rfl ?_
                  first | exact ⟨by rw [hR]; rfl, hS.ext_of⟩ | exact ⟨congrArg Value.bool (by rw [hR]; exact rgt_a (by omega)), hS.ext_of⟩ | exact ⟨congrArg Value.bool (by rw [hR]; exact rgt_b (by assumption)), hS.ext_of⟩ | exact ⟨congrArg Value.bool (by rw [hR]; exact rgt_c (by omega) (by assumption) (by omega)), hS.ext_of⟩ | exact ⟨congrArg Value.bool (by rw [hR]; exact rgt_d (by omega) (by assumption) (by omega)), hS.ext_of⟩ | exact ⟨congrArg Value.bool (by rw [hR]; exact rgt_e (by omega)), hS.ext_of⟩

theorem c_ref08Right (x : List Int) (hk : KeyOk x)  (w0 : World) :
    CallR Try.prog 87 #[.agg (KA x)] w0 fun v w' => v = .bool (keyR x) ∧ Ext w0 w' := by
  have hS : St NoB w0 w0 [] := St.start w0
  refine c_enter (l := [.agg (KA x), undef, undef, undef, undef, undef, undef, undef, undef, undef, undef, undef, undef, undef, undef, undef, undef, undef, undef, undef, undef, undef, undef, undef, undef, undef, undef, undef, undef, undef, undef, undef, undef, undef, undef, undef, undef, undef, undef, undef, undef, undef, undef]) Try.func87 rfl (by simp only [Try.ntmps87, List.size_toArray, List.length_cons, List.length_nil, Nat.reduceAdd, Nat.reduceSub, Array.replicate_succ, Array.replicate_zero, List.push_toArray, List.append_toArray, List.nil_append, List.cons_append]) ?_
  refine x_seq fun K1 hK1 => ?_
  refine x_region ?_
  have hkl := hk.len
  have hb0 := hk.b0
  have hb1 := hk.b1
  have hb10 := hk.b10
  have hb11 := hk.b11
  have hil := kitem_len hk.len
  have hib := hk.item
  refine m_box hS (fun w1 g1 hS => ?_)
  try simp only [opv, n1, n2, n3, n4, Value.cells, Array.toArray_toList] at hS ⊢
  refine s_go (s_assign) ?_
  try simp only [opv, n1, n2, n3, n4, Value.cells]
  refine x_nil ?_
  refine hK1 _ _ ?_
  refine x_seq fun K2 hK2 => ?_
  refine x_seq fun K3 hK3 => ?_
  refine x_region ?_
  first | refine s_go (m_fieldAddr Try.underlying89 (hi := ti5)) ?_ | refine s_go (m_fieldAddr_rd Try.underlying89 (hi := ti5) (hS := hS)) ?_ | refine s_go (m_fieldAddr_vec Try.underlying89 (hi := ti5) (hS := hS)) ?_
  try simp only [opv, n1, n2, n3, n4, Value.cells, Nat.zero_add, Nat.add_zero, List.getElem_toArray, List.getElem_cons_zero, List.getElem_cons_succ]
  first | refine s_go (m_load_obj Try.underlying5 (hS := hS) (hv := by first | rfl | exact zi_get rfl (by omega) | exact ic_get (by omega) | exact il_get (by omega))) ?_ | refine s_go (m_load_bx Try.underlying5 (hS := hS) (hv := by first | rfl | exact zi_get rfl (by omega) | exact ic_get (by omega) | exact il_get (by omega))) ?_ | refine s_go (m_load_rd Try.underlying5 (hS := hS) (hv := by first | rfl | exact zi_get rfl (by omega) | exact ic_get (by omega) | exact il_get (by omega))) ?_ | refine s_go (m_load_vec Try.underlying5 (hS := hS) (hv := by first | rfl | exact zi_get rfl (by omega) | exact ic_get (by omega) | exact il_get (by omega))) ?_
  try simp only [opv, n1, n2, n3, n4, Value.cells, List.getElem_toArray, List.getElem_cons_zero, List.getElem_cons_succ]
  rw [hk.e0]
  refine x_nil ?_
  refine hK3 _ _ ?_
  refine x_block ?_
  refine x_seq fun K4 hK4 => ?_
  refine x_region ?_
  refine s_go (s_eql) ?_
  try simp only [opv, n1, n2, n3, n4, Value.cells]
  refine s_go (s_assign) ?_
  try simp only [opv, n1, n2, n3, n4, Value.cells]
  refine x_nil ?_
  refine hK4 _ _ ?_
  refine x_cond (ht := fun hc1 => ?_) (hf := fun hc1 => ?_)
  ·
    try simp only [decide_eq_true_eq, decide_eq_false_iff_not, Bool.not_eq_true', Bool.not_eq_false', Int.not_lt, Int.not_le, ne_eq, Decidable.not_not, bne_iff_ne, beq_iff_eq, not_true_eq_false, not_false_eq_true] at hc1
    first
    | (exfalso; omega)
    | skip
      have hR : keyR x = (decide (kn x 11 ≠ 0) && nright (kitem x) && decide (kn x 10 < 16)) := by rw [keyR, if_neg (by omega), if_pos (by omega)]
      refine x_seq fun K5 hK5 => ?_
      refine x_region ?_
      first | refine s_go (m_fieldAddr Try.underlying89 (hi := ti70)) ?_ | refine s_go (m_fieldAddr_rd Try.underlying89 (hi := ti70) (hS := hS)) ?_ | refine s_go (m_fieldAddr_vec Try.underlying89 (hi := ti70) (hS := hS)) ?_
      try simp only [opv, n1, n2, n3, n4, Value.cells, Nat.zero_add, Nat.add_zero, List.getElem_toArray, List.getElem_cons_zero, List.getElem_cons_succ]
      first | refine s_go (m_load_row Try.underlying70 (hi := ti70) (hS := hS) (hfit := by first | omega | (rw [zi_size (by omega)]; first | rfl | decide) | (simp only [ic_size, List.length_map, List.size_toArray]; first | omega | decide) | rfl | (simp [*]; done) | (simp [*]; omega))) ?_ | refine s_go (m_loada_obj Try.underlying70 (hi := ti70) (hS := hS) (hfit := by first | omega | (rw [zi_size (by omega)]; first | rfl | decide) | (simp only [ic_size, List.length_map, List.size_toArray]; first | omega | decide) | rfl | (simp [*]; done) | (simp [*]; omega))) ?_ | refine s_go (m_loada_bx Try.underlying70 (hi := ti70) (hS := hS) (hfit := by first | omega | (rw [zi_size (by omega)]; first | rfl | decide) | (simp only [ic_size, List.length_map, List.size_toArray]; first | omega | decide) | rfl | (simp [*]; done) | (simp [*]; omega))) ?_ | refine s_go (m_loada_rd Try.underlying70 (hi := ti70) (hS := hS) (hfit := by first | omega | (rw [zi_size (by omega)]; first | rfl | decide) | (simp only [ic_size, List.length_map, List.size_toArray]; first | omega | decide) | rfl | (simp [*]; done) | (simp [*]; omega))) ?_ | refine s_go (m_loada_vec Try.underlying70 (hi := ti70) (hS := hS) (hfit := by first | omega | (rw [zi_size (by omega)]; first | rfl | decide) | (simp only [ic_size, List.length_map, List.size_toArray]; first | omega | decide) | rfl | (simp [*]; done) | (simp [*]; omega))) ?_
      try simp only [opv, n1, n2, n3, n4, Value.cells, List.getElem_toArray, List.getElem_cons_zero, List.getElem_cons_succ]
      rw [key_item hkl]
      refine s_call en78 ?_
      try simp only [opv, n1, n2, n3, n4, Value.cells, List.map_toArray, List.map_cons, List.map_nil, List.append_toArray, List.cons_append, List.nil_append, Array.append_empty]
      refine CallR.mono (c_ref06Right _ hil hib _) ?_
      rintro _ w2 ⟨rfl, hE2⟩
      replace hS := hS.ext hE2
      try simp only [opv, n1, n2, n3, n4, Value.cells]
      refine s_go (s_move) ?_
      try simp only [opv, n1, n2, n3, n4, Value.cells]
      refine s_part 10 rfl (fun hp1 => ?_) (fun hp1 => ?_)
      ·
        try simp only [n3, n4]
        try simp only [decide_eq_true_eq, decide_eq_false_iff_not, Bool.not_eq_true', Bool.not_eq_false', Int.not_lt, Int.not_le, ne_eq, Decidable.not_not] at hp1
        first
        | (exfalso; omega)
        | skip
          refine g_on (yi (t := 10) rfl rfl) ?_
          first | refine s_go (m_fieldAddr Try.underlying89 (hi := ti5)) ?_ | refine s_go (m_fieldAddr_rd Try.underlying89 (hi := ti5) (hS := hS)) ?_ | refine s_go (m_fieldAddr_vec Try.underlying89 (hi := ti5) (hS := hS)) ?_
          try simp only [opv, n1, n2, n3, n4, Value.cells, Nat.zero_add, Nat.add_zero, List.getElem_toArray, List.getElem_cons_zero, List.getElem_cons_succ]
          refine g_on (yi (t := 10) rfl rfl) ?_
          first | refine s_go (m_load_obj Try.underlying5 (hS := hS) (hv := by first | rfl | exact zi_get rfl (by omega) | exact ic_get (by omega) | exact il_get (by omega))) ?_ | refine s_go (m_load_bx Try.underlying5 (hS := hS) (hv := by first | rfl | exact zi_get rfl (by omega) | exact ic_get (by omega) | exact il_get (by omega))) ?_ | refine s_go (m_load_rd Try.underlying5 (hS := hS) (hv := by first | rfl | exact zi_get rfl (by omega) | exact ic_get (by omega) | exact il_get (by omega))) ?_ | refine s_go (m_load_vec Try.underlying5 (hS := hS) (hv := by first | rfl | exact zi_get rfl (by omega) | exact ic_get (by omega) | exact il_get (by omega))) ?_
          try simp only [opv, n1, n2, n3, n4, Value.cells, List.getElem_toArray, List.getElem_cons_zero, List.getElem_cons_succ]
          rw [hk.e10]
          refine g_on (yi (t := 10) rfl rfl) ?_
          refine s_go (s_lss) ?_
          try simp only [opv, n1, n2, n3, n4, Value.cells]
          first | refine s_go (s_pick_t) ?_ | refine s_go (s_pick_f) ?_
          try simp only [opv, n1, n2, n3, n4, Value.cells]
          refine s_go (s_move) ?_
          try simp only [opv, n1, n2, n3, n4, Value.cells]
          refine s_part 15 rfl (fun hp2 => ?_) (fun hp2 => ?_)
          ·
            try simp only [n3, n4]
            try simp only [decide_eq_true_eq, decide_eq_false_iff_not, Bool.not_eq_true', Bool.not_eq_false', Int.not_lt, Int.not_le, ne_eq, Decidable.not_not] at hp2
            first
            | (exfalso; omega)
            | skip
              refine g_on (yi (t := 15) rfl rfl) ?_
              first | refine s_go (m_fieldAddr Try.underlying89 (hi := ti22)) ?_ | refine s_go (m_fieldAddr_rd Try.underlying89 (hi := ti22) (hS := hS)) ?_ | refine s_go (m_fieldAddr_vec Try.underlying89 (hi := ti22) (hS := hS)) ?_
              try simp only [opv, n1, n2, n3, n4, Value.cells, Nat.zero_add, Nat.add_zero, List.getElem_toArray, List.getElem_cons_zero, List.getElem_cons_succ]
              refine g_on (yi (t := 15) rfl rfl) ?_
              first | refine s_go (m_load_obj Try.underlying22 (hS := hS) (hv := by first | rfl | exact zi_get rfl (by omega) | exact ic_get (by omega) | exact il_get (by omega))) ?_ | refine s_go (m_load_bx Try.underlying22 (hS := hS) (hv := by first | rfl | exact zi_get rfl (by omega) | exact ic_get (by omega) | exact il_get (by omega))) ?_ | refine s_go (m_load_rd Try.underlying22 (hS := hS) (hv := by first | rfl | exact zi_get rfl (by omega) | exact ic_get (by omega) | exact il_get (by omega))) ?_ | refine s_go (m_load_vec Try.underlying22 (hS := hS) (hv := by first | rfl | exact zi_get rfl (by omega) | exact ic_get (by omega) | exact il_get (by omega))) ?_
              try simp only [opv, n1, n2, n3, n4, Value.cells, List.getElem_toArray, List.getElem_cons_zero, List.getElem_cons_succ]
              rw [hk.e11]
              refine g_on (yi (t := 15) rfl rfl) ?_
              refine s_go (s_gtr) ?_
              try simp only [opv, n1, n2, n3, n4, Value.cells]
              first | refine s_go (s_pick_t) ?_ | refine s_go (s_pick_f) ?_
              try simp only [opv, n1, n2, n3, n4, Value.cells]
              refine s_go (s_assign) ?_
              try simp only [opv, n1, n2, n3, n4, Value.cells]
              refine x_nil ?_
              refine hK5 _ _ ?_
              refine x_ret ?_
              refine r_tmp rfl ?_
              first | exact ⟨by rw [hR]; rfl, hS.ext_of⟩ | exact ⟨congrArg Value.bool (by rw [hR]; exact rgt_a (by omega)), hS.ext_of⟩ | exact ⟨congrArg Value.bool (by rw [hR]; exact rgt_b (by assumption)), hS.ext_of⟩ | exact ⟨congrArg Value.bool (by rw [hR]; exact rgt_c (by omega) (by assumption) (by omega)), hS.ext_of⟩ | exact ⟨congrArg Value.bool (by rw [hR]; exact rgt_d (by omega) (by assumption) (by omega)), hS.ext_of⟩ | exact ⟨congrArg Value.bool (by rw [hR]; exact rgt_e (by omega)), hS.ext_of⟩
          ·
            try simp only [n3, n4]
            try simp only [decide_eq_true_eq, decide_eq_false_iff_not, Bool.not_eq_true', Bool.not_eq_false', Int.not_lt, Int.not_le, ne_eq, Decidable.not_not] at hp2
            first
            | (exfalso; omega)
            | skip
              refine g_off (yi (t := 15) rfl rfl) ?_
              try simp only [opv, n1, n2, n3, n4, Value.cells]
              refine g_off (yi (t := 15) rfl rfl) ?_
              try simp only [opv, n1, n2, n3, n4, Value.cells]
              refine g_off (yi (t := 15) rfl rfl) ?_
              try simp only [opv, n1, n2, n3, n4, Value.cells]
              first | refine s_go (s_pick_t) ?_ | refine s_go (s_pick_f) ?_
              try simp only [opv, n1, n2, n3, n4, Value.cells]
              refine s_go (s_assign) ?_
              try simp only [opv, n1, n2, n3, n4, Value.cells]
              refine x_nil ?_
              refine hK5 _ _ ?_
              refine x_ret ?_
              refine r_tmp rfl ?_
              first | exact ⟨by rw [hR]; rfl, hS.ext_of⟩ | exact ⟨congrArg Value.bool (by rw [hR]; exact rgt_a (by omega)), hS.ext_of⟩ | exact ⟨congrArg Value.bool (by rw [hR]; exact rgt_b (by assumption)), hS.ext_of⟩ | exact ⟨congrArg Value.bool (by rw [hR]; exact rgt_c (by omega) (by assumption) (by omega)), hS.ext_of⟩ | exact ⟨congrArg Value.bool (by rw [hR]; exact rgt_d (by omega) (by assumption) (by omega)), hS.ext_of⟩ | exact ⟨congrArg Value.bool (by rw [hR]; exact rgt_e (by omega)), hS.ext_of⟩
      ·
        try simp only [n3, n4]
        try simp only [decide_eq_true_eq, decide_eq_false_iff_not, Bool.not_eq_true', Bool.not_eq_false', Int.not_lt, Int.not_le, ne_eq, Decidable.not_not] at hp1
        first
        | (exfalso; omega)
        | skip
          refine g_off (yi (t := 10) rfl rfl) ?_
          try simp only [opv, n1, n2, n3, n4, Value.cells]
          refine g_off (yi (t := 10) rfl rfl) ?_
          try simp only [opv, n1, n2, n3, n4, Value.cells]
          refine g_off (yi (t := 10) rfl rfl) ?_
          try simp only [opv, n1, n2, n3, n4, Value.cells]
          first | refine s_go (s_pick_t) ?_ | refine s_go (s_pick_f) ?_
          try simp only [opv, n1, n2, n3, n4, Value.cells]
          refine s_go (s_move) ?_
          try simp only [opv, n1, n2, n3, n4, Value.cells]
          refine g_off (yi (t := 15) rfl rfl) ?_
          try simp only [opv, n1, n2, n3, n4, Value.cells]
          refine g_off (yi (t := 15) rfl rfl) ?_
          try simp only [opv, n1, n2, n3, n4, Value.cells]
          refine g_off (yi (t := 15) rfl rfl) ?_
          try simp only [opv, n1, n2, n3, n4, Value.cells]
          first | refine s_go (s_pick_t) ?_ | refine s_go (s_pick_f) ?_
          try simp only [opv, n1, n2, n3, n4, Value.cells]
          refine s_go (s_assign) ?_
          try simp only [opv, n1, n2, n3, n4, Value.cells]
          refine x_nil ?_
          refine hK5 _ _ ?_
          refine x_ret ?_
          refine r_tmp rfl ?_
          first | exact ⟨by rw [hR]; rfl, hS.ext_of⟩ | exact ⟨congrArg Value.bool (by rw [hR]; exact rgt_a (by omega)), hS.ext_of⟩ | exact ⟨congrArg Value.bool (by rw [hR]; exact rgt_b (by assumption)), hS.ext_of⟩ | exact ⟨congrArg Value.bool (by rw [hR]; exact rgt_c (by omega) (by assumption) (by omega)), hS.ext_of⟩ | exact ⟨congrArg Value.bool (by rw [hR]; exact rgt_d (by omega) (by assumption) (by omega)), hS.ext_of⟩ | exact ⟨congrArg Value.bool (by rw [hR]; exact rgt_e (by omega)), hS.ext_of⟩
  ·
    try simp only [decide_eq_true_eq, decide_eq_false_iff_not, Bool.not_eq_true', Bool.not_eq_false', Int.not_lt, Int.not_le, ne_eq, Decidable.not_not, bne_iff_ne, beq_iff_eq, not_true_eq_false, not_false_eq_true] at hc1
    first
    | (exfalso; omega)
    | skip
      refine x_seq fun K6 hK6 => ?_
      refine x_seq fun K7 hK7 => ?_
      refine x_region ?_
      refine s_go (s_eql) ?_
      try simp only [opv, n1, n2, n3, n4, Value.cells]
      refine s_go (s_assign) ?_
      try simp only [opv, n1, n2, n3, n4, Value.cells]
      refine x_nil ?_
      refine hK7 _ _ ?_
      refine x_cond (ht := fun hc2 => ?_) (hf := fun hc2 => ?_)
      ·
        try simp only [decide_eq_true_eq, decide_eq_false_iff_not, Bool.not_eq_true', Bool.not_eq_false', Int.not_lt, Int.not_le, ne_eq, Decidable.not_not, bne_iff_ne, beq_iff_eq, not_true_eq_false, not_false_eq_true] at hc2
        first
        | (exfalso; omega)
        | skip
          try have hR : keyR x = (decide (kn x 11 = 0) && nright (kitem x) && decide (kn x 10 < 16)) := by rw [keyR, if_neg (by omega), if_neg (by omega), if_pos (by omega)]
          refine x_skip ?_
          refine hK6 _ _ ?_
          refine x_cond (ht := fun hc3 => ?_) (hf := fun hc3 => ?_)
          ·
            try simp only [decide_eq_true_eq, decide_eq_false_iff_not, Bool.not_eq_true', Bool.not_eq_false', Int.not_lt, Int.not_le, ne_eq, Decidable.not_not, bne_iff_ne, beq_iff_eq, not_true_eq_false, not_false_eq_true] at hc3
            first
            | (exfalso; omega)
            | skip
              try have hR : keyR x = (decide (kn x 11 = 0) && nright (kitem x) && decide (kn x 10 < 16)) := by rw [keyR, if_neg (by omega), if_neg (by omega), if_pos (by omega)]
              refine x_seq fun K8 hK8 => ?_
              refine x_region ?_
              first | refine s_go (m_fieldAddr Try.underlying89 (hi := ti70)) ?_ | refine s_go (m_fieldAddr_rd Try.underlying89 (hi := ti70) (hS := hS)) ?_ | refine s_go (m_fieldAddr_vec Try.underlying89 (hi := ti70) (hS := hS)) ?_
              try simp only [opv, n1, n2, n3, n4, Value.cells, Nat.zero_add, Nat.add_zero, List.getElem_toArray, List.getElem_cons_zero, List.getElem_cons_succ]
              first | refine s_go (m_load_row Try.underlying70 (hi := ti70) (hS := hS) (hfit := by first | omega | (rw [zi_size (by omega)]; first | rfl | decide) | (simp only [ic_size, List.length_map, List.size_toArray]; first | omega | decide) | rfl | (simp [*]; done) | (simp [*]; omega))) ?_ | refine s_go (m_loada_obj Try.underlying70 (hi := ti70) (hS := hS) (hfit := by first | omega | (rw [zi_size (by omega)]; first | rfl | decide) | (simp only [ic_size, List.length_map, List.size_toArray]; first | omega | decide) | rfl | (simp [*]; done) | (simp [*]; omega))) ?_ | refine s_go (m_loada_bx Try.underlying70 (hi := ti70) (hS := hS) (hfit := by first | omega | (rw [zi_size (by omega)]; first | rfl | decide) | (simp only [ic_size, List.length_map, List.size_toArray]; first | omega | decide) | rfl | (simp [*]; done) | (simp [*]; omega))) ?_ | refine s_go (m_loada_rd Try.underlying70 (hi := ti70) (hS := hS) (hfit := by first | omega | (rw [zi_size (by omega)]; first | rfl | decide) | (simp only [ic_size, List.length_map, List.size_toArray]; first | omega | decide) | rfl | (simp [*]; done) | (simp [*]; omega))) ?_ | refine s_go (m_loada_vec Try.underlying70 (hi := ti70) (hS := hS) (hfit := by first | omega | (rw [zi_size (by omega)]; first | rfl | decide) | (simp only [ic_size, List.length_map, List.size_toArray]; first | omega | decide) | rfl | (simp [*]; done) | (simp [*]; omega))) ?_
              try simp only [opv, n1, n2, n3, n4, Value.cells, List.getElem_toArray, List.getElem_cons_zero, List.getElem_cons_succ]
              rw [key_item hkl]
              refine s_call en78 ?_
              try simp only [opv, n1, n2, n3, n4, Value.cells, List.map_toArray, List.map_cons, List.map_nil, List.append_toArray, List.cons_append, List.nil_append, Array.append_empty]
              refine CallR.mono (c_ref06Right _ hil hib _) ?_
              rintro _ w3 ⟨rfl, hE3⟩
              replace hS := hS.ext hE3
              try simp only [opv, n1, n2, n3, n4, Value.cells]
              refine s_go (s_move) ?_
              try simp only [opv, n1, n2, n3, n4, Value.cells]
              refine s_part 26 rfl (fun hp3 => ?_) (fun hp3 => ?_)
              ·
                try simp only [n3, n4]
                try simp only [decide_eq_true_eq, decide_eq_false_iff_not, Bool.not_eq_true', Bool.not_eq_false', Int.not_lt, Int.not_le, ne_eq, Decidable.not_not] at hp3
                first
                | (exfalso; omega)
                | skip
                  refine g_on (yi (t := 26) rfl rfl) ?_
                  first | refine s_go (m_fieldAddr Try.underlying89 (hi := ti5)) ?_ | refine s_go (m_fieldAddr_rd Try.underlying89 (hi := ti5) (hS := hS)) ?_ | refine s_go (m_fieldAddr_vec Try.underlying89 (hi := ti5) (hS := hS)) ?_
                  try simp only [opv, n1, n2, n3, n4, Value.cells, Nat.zero_add, Nat.add_zero, List.getElem_toArray, List.getElem_cons_zero, List.getElem_cons_succ]
                  refine g_on (yi (t := 26) rfl rfl) ?_
                  first | refine s_go (m_load_obj Try.underlying5 (hS := hS) (hv := by first | rfl | exact zi_get rfl (by omega) | exact ic_get (by omega) | exact il_get (by omega))) ?_ | refine s_go (m_load_bx Try.underlying5 (hS := hS) (hv := by first | rfl | exact zi_get rfl (by omega) | exact ic_get (by omega) | exact il_get (by omega))) ?_ | refine s_go (m_load_rd Try.underlying5 (hS := hS) (hv := by first | rfl | exact zi_get rfl (by omega) | exact ic_get (by omega) | exact il_get (by omega))) ?_ | refine s_go (m_load_vec Try.underlying5 (hS := hS) (hv := by first | rfl | exact zi_get rfl (by omega) | exact ic_get (by omega) | exact il_get (by omega))) ?_
                  try simp only [opv, n1, n2, n3, n4, Value.cells, List.getElem_toArray, List.getElem_cons_zero, List.getElem_cons_succ]
                  rw [hk.e10]
                  refine g_on (yi (t := 26) rfl rfl) ?_
                  refine s_go (s_lss) ?_
                  try simp only [opv, n1, n2, n3, n4, Value.cells]
                  first | refine s_go (s_pick_t) ?_ | refine s_go (s_pick_f) ?_
                  try simp only [opv, n1, n2, n3, n4, Value.cells]
                  refine s_go (s_move) ?_
                  try simp only [opv, n1, n2, n3, n4, Value.cells]
                  refine s_part 31 rfl (fun hp4 => ?_) (fun hp4 => ?_)
                  ·
                    try simp only [n3, n4]
                    try simp only [decide_eq_true_eq, decide_eq_false_iff_not, Bool.not_eq_true', Bool.not_eq_false', Int.not_lt, Int.not_le, ne_eq, Decidable.not_not] at hp4
                    first
                    | (exfalso; omega)
                    | skip
                      refine g_on (yi (t := 31) rfl rfl) ?_
                      first | refine s_go (m_fieldAddr Try.underlying89 (hi := ti22)) ?_ | refine s_go (m_fieldAddr_rd Try.underlying89 (hi := ti22) (hS := hS)) ?_ | refine s_go (m_fieldAddr_vec Try.underlying89 (hi := ti22) (hS := hS)) ?_
                      try simp only [opv, n1, n2, n3, n4, Value.cells, Nat.zero_add, Nat.add_zero, List.getElem_toArray, List.getElem_cons_zero, List.getElem_cons_succ]
                      refine g_on (yi (t := 31) rfl rfl) ?_
                      first | refine s_go (m_load_obj Try.underlying22 (hS := hS) (hv := by first | rfl | exact zi_get rfl (by omega) | exact ic_get (by omega) | exact il_get (by omega))) ?_ | refine s_go (m_load_bx Try.underlying22 (hS := hS) (hv := by first | rfl | exact zi_get rfl (by omega) | exact ic_get (by omega) | exact il_get (by omega))) ?_ | refine s_go (m_load_rd Try.underlying22 (hS := hS) (hv := by first | rfl | exact zi_get rfl (by omega) | exact ic_get (by omega) | exact il_get (by omega))) ?_ | refine s_go (m_load_vec Try.underlying22 (hS := hS) (hv := by first | rfl | exact zi_get rfl (by omega) | exact ic_get (by omega) | exact il_get (by omega))) ?_
                      try simp only [opv, n1, n2, n3, n4, Value.cells, List.getElem_toArray, List.getElem_cons_zero, List.getElem_cons_succ]
                      rw [hk.e11]
                      refine g_on (yi (t := 31) rfl rfl) ?_
                      refine s_go (s_eql) ?_
                      try simp only [opv, n1, n2, n3, n4, Value.cells]
                      first | refine s_go (s_pick_t) ?_ | refine s_go (s_pick_f) ?_
                      try simp only [opv, n1, n2, n3, n4, Value.cells]
                      refine s_go (s_assign) ?_
                      try simp only [opv, n1, n2, n3, n4, Value.cells]
                      refine x_nil ?_
                      refine hK8 _ _ ?_
                      refine x_ret ?_
                      refine r_tmp rfl ?_
                      first | exact ⟨by rw [hR]; rfl, hS.ext_of⟩ | exact ⟨congrArg Value.bool (by rw [hR]; exact rgt_a (by omega)), hS.ext_of⟩ | exact ⟨congrArg Value.bool (by rw [hR]; exact rgt_b (by assumption)), hS.ext_of⟩ | exact ⟨congrArg Value.bool (by rw [hR]; exact rgt_c (by omega) (by assumption) (by omega)), hS.ext_of⟩ | exact ⟨congrArg Value.bool (by rw [hR]; exact rgt_d (by omega) (by assumption) (by omega)), hS.ext_of⟩ | exact ⟨congrArg Value.bool (by rw [hR]; exact rgt_e (by omega)), hS.ext_of⟩
                  ·
                    try simp only [n3, n4]
                    try simp only [decide_eq_true_eq, decide_eq_false_iff_not, Bool.not_eq_true', Bool.not_eq_false', Int.not_lt, Int.not_le, ne_eq, Decidable.not_not] at hp4
                    first
                    | (exfalso; omega)
                    | skip
                      refine g_off (yi (t := 31) rfl rfl) ?_
                      try simp only [opv, n1, n2, n3, n4, Value.cells]
                      refine g_off (yi (t := 31) rfl rfl) ?_
                      try simp only [opv, n1, n2, n3, n4, Value.cells]
                      refine g_off (yi (t := 31) rfl rfl) ?_
                      try simp only [opv, n1, n2, n3, n4, Value.cells]
                      first | refine s_go (s_pick_t) ?_ | refine s_go (s_pick_f) ?_
                      try simp only [opv, n1, n2, n3, n4, Value.cells]
                      refine s_go (s_assign) ?_
                      try simp only [opv, n1, n2, n3, n4, Value.cells]
                      refine x_nil ?_
                      refine hK8 _ _ ?_
                      refine x_ret ?_
                      refine r_tmp rfl ?_
                      first | exact ⟨by rw [hR]; rfl, hS.ext_of⟩ | exact ⟨congrArg Value.bool (by rw [hR]; exact rgt_a (by omega)), hS.ext_of⟩ | exact ⟨congrArg Value.bool (by rw [hR]; exact rgt_b (by assumption)), hS.ext_of⟩ | exact ⟨congrArg Value.bool (by rw [hR]; exact rgt_c (by omega) (by assumption) (by omega)), hS.ext_of⟩ | exact ⟨congrArg Value.bool (by rw [hR]; exact rgt_d (by omega) (by assumption) (by omega)), hS.ext_of⟩ | exact ⟨congrArg Value.bool (by rw [hR]; exact rgt_e (by omega)), hS.ext_of⟩
              ·
                try simp only [n3, n4]
                try simp only [decide_eq_true_eq, decide_eq_false_iff_not, Bool.not_eq_true', Bool.not_eq_false', Int.not_lt, Int.not_le, ne_eq, Decidable.not_not] at hp3
                first
                | (exfalso; omega)
                | skip
                  refine g_off (yi (t := 26) rfl rfl) ?_
                  try simp only [opv, n1, n2, n3, n4, Value.cells]
                  refine g_off (yi (t := 26) rfl rfl) ?_
                  try simp only [opv, n1, n2, n3, n4, Value.cells]
                  refine g_off (yi (t := 26) rfl rfl) ?_
                  try simp only [opv, n1, n2, n3, n4, Value.cells]
                  first | refine s_go (s_pick_t) ?_ | refine s_go (s_pick_f) ?_
                  try simp only [opv, n1, n2, n3, n4, Value.cells]
                  refine s_go (s_move) ?_
                  try simp only [opv, n1, n2, n3, n4, Value.cells]
                  refine g_off (yi (t := 31) rfl rfl) ?_
                  try simp only [opv, n1, n2, n3, n4, Value.cells]
                  refine g_off (yi (t := 31) rfl rfl) ?_
                  try simp only [opv, n1, n2, n3, n4, Value.cells]
                  refine g_off (yi (t := 31) rfl rfl) ?_
                  try simp only [opv, n1, n2, n3, n4, Value.cells]
                  first | refine s_go (s_pick_t) ?_ | refine s_go (s_pick_f) ?_
                  try simp only [opv, n1, n2, n3, n4, Value.cells]
                  refine s_go (s_assign) ?_
                  try simp only [opv, n1, n2, n3, n4, Value.cells]
                  refine x_nil ?_
                  refine hK8 _ _ ?_
                  refine x_ret ?_
                  refine r_tmp rfl ?_
                  first | exact ⟨by rw [hR]; rfl, hS.ext_of⟩ | exact ⟨congrArg Value.bool (by rw [hR]; exact rgt_a (by omega)), hS.ext_of⟩ | exact ⟨congrArg Value.bool (by rw [hR]; exact rgt_b (by assumption)), hS.ext_of⟩ | exact ⟨congrArg Value.bool (by rw [hR]; exact rgt_c (by omega) (by assumption) (by omega)), hS.ext_of⟩ | exact ⟨congrArg Value.bool (by rw [hR]; exact rgt_d (by omega) (by assumption) (by omega)), hS.ext_of⟩ | exact ⟨congrArg Value.bool (by rw [hR]; exact rgt_e (by omega)), hS.ext_of⟩
          ·
            try simp only [decide_eq_true_eq, decide_eq_false_iff_not, Bool.not_eq_true', Bool.not_eq_false', Int.not_lt, Int.not_le, ne_eq, Decidable.not_not, bne_iff_ne, beq_iff_eq, not_true_eq_false, not_false_eq_true] at hc3
            first
            | (exfalso; omega)
            | skip
              refine x_seq fun K9 hK9 => ?_
              refine x_region ?_
              refine s_go (s_eql) ?_
              try simp only [opv, n1, n2, n3, n4, Value.cells]
              refine s_go (s_assign) ?_
              try simp only [opv, n1, n2, n3, n4, Value.cells]
              refine x_nil ?_
              refine hK9 _ _ ?_
              refine x_cond (ht := fun hc4 => ?_) (hf := fun hc4 => ?_)
              ·
                try simp only [decide_eq_true_eq, decide_eq_false_iff_not, Bool.not_eq_true', Bool.not_eq_false', Int.not_lt, Int.not_le, ne_eq, Decidable.not_not, bne_iff_ne, beq_iff_eq, not_true_eq_false, not_false_eq_true] at hc4
                first
                | (exfalso; omega)
                | skip
                  have hR : keyR x = decide (x = bareK x) := by rw [keyR, if_pos (by omega)]
                  refine x_seq fun K10 hK10 => ?_
                  refine x_region ?_
                  first | refine s_go (m_load_row Try.underlying89 (hi := ti89) (hS := hS) (hfit := by first | omega | (rw [zi_size (by omega)]; first | rfl | decide) | (simp only [ic_size, List.length_map, List.size_toArray]; first | omega | decide) | rfl | (simp [*]; done) | (simp [*]; omega))) ?_ | refine s_go (m_loada_obj Try.underlying89 (hi := ti89) (hS := hS) (hfit := by first | omega | (rw [zi_size (by omega)]; first | rfl | decide) | (simp only [ic_size, List.length_map, List.size_toArray]; first | omega | decide) | rfl | (simp [*]; done) | (simp [*]; omega))) ?_ | refine s_go (m_loada_bx Try.underlying89 (hi := ti89) (hS := hS) (hfit := by first | omega | (rw [zi_size (by omega)]; first | rfl | decide) | (simp only [ic_size, List.length_map, List.size_toArray]; first | omega | decide) | rfl | (simp [*]; done) | (simp [*]; omega))) ?_ | refine s_go (m_loada_rd Try.underlying89 (hi := ti89) (hS := hS) (hfit := by first | omega | (rw [zi_size (by omega)]; first | rfl | decide) | (simp only [ic_size, List.length_map, List.size_toArray]; first | omega | decide) | rfl | (simp [*]; done) | (simp [*]; omega))) ?_ | refine s_go (m_loada_vec Try.underlying89 (hi := ti89) (hS := hS) (hfit := by first | omega | (rw [zi_size (by omega)]; first | rfl | decide) | (simp only [ic_size, List.length_map, List.size_toArray]; first | omega | decide) | rfl | (simp [*]; done) | (simp [*]; omega))) ?_
                  try simp only [opv, n1, n2, n3, n4, Value.cells, List.getElem_toArray, List.getElem_cons_zero, List.getElem_cons_succ]
                  first | refine s_go (m_fieldAddr Try.underlying89 (hi := ti43)) ?_ | refine s_go (m_fieldAddr_rd Try.underlying89 (hi := ti43) (hS := hS)) ?_ | refine s_go (m_fieldAddr_vec Try.underlying89 (hi := ti43) (hS := hS)) ?_
                  try simp only [opv, n1, n2, n3, n4, Value.cells, Nat.zero_add, Nat.add_zero, List.getElem_toArray, List.getElem_cons_zero, List.getElem_cons_succ]
                  first | refine s_go (m_load_obj Try.underlying43 (hS := hS) (hv := by first | rfl | exact zi_get rfl (by omega) | exact ic_get (by omega) | exact il_get (by omega))) ?_ | refine s_go (m_load_bx Try.underlying43 (hS := hS) (hv := by first | rfl | exact zi_get rfl (by omega) | exact ic_get (by omega) | exact il_get (by omega))) ?_ | refine s_go (m_load_rd Try.underlying43 (hS := hS) (hv := by first | rfl | exact zi_get rfl (by omega) | exact ic_get (by omega) | exact il_get (by omega))) ?_ | refine s_go (m_load_vec Try.underlying43 (hS := hS) (hv := by first | rfl | exact zi_get rfl (by omega) | exact ic_get (by omega) | exact il_get (by omega))) ?_
                  try simp only [opv, n1, n2, n3, n4, Value.cells, List.getElem_toArray, List.getElem_cons_zero, List.getElem_cons_succ]
                  rw [hk.e1]
                  have hbl : (bareK x).length = 12 := rfl
                  refine s_go (s_build_struct (cells := #[_, _, .int .u8 0, .int .u8 0, .int .u8 0, .int .u8 0, .int .u8 0, .int .u8 0, .int .u8 0, .int .u8 0, .int .u8 0, .int .u32 0]) Try.underlying89 ti89 bp89 (hc := by simp only [List.map_toArray, List.map_cons, List.map_nil, opv, n1, n2, n3, n4, Value.cells, List.toList_toArray]; (repeat (refine fill_cons rfl rfl (Nat.le_of_ble_eq_true rfl) ?_)); rfl)) ?_
                  try simp only [opv, n1, n2, n3, n4, Value.cells]
                  rw [show (#[.int .u8 4, .int .u16 (kn x 1 : Int), .int .u8 0, .int .u8 0, .int .u8 0, .int .u8 0, .int .u8 0, .int .u8 0, .int .u8 0, .int .u8 0, .int .u8 0, .int .u32 0] : Array Value) = KA (bareK x) by rw [bareK, show kn x 0 = 4 by omega]; rfl]
                  refine s_go (s_eql_agg eqv89 (hg := eg89) (hX := rfl) (hY := rfl) (h1 := by first | assumption | rfl) (h2 := by first | assumption | rfl)) ?_
                  try simp only [opv, n1, n2, n3, n4, Value.cells]
                  refine s_go (s_assign) ?_
                  try simp only [opv, n1, n2, n3, n4, Value.cells]
                  refine x_nil ?_
                  refine hK10 _ _ ?_
                  refine x_ret ?_
                  refine r_tmp rfl ?_
                  first | exact ⟨by rw [hR]; rfl, hS.ext_of⟩ | exact ⟨congrArg Value.bool (by rw [hR]; exact rgt_a (by omega)), hS.ext_of⟩ | exact ⟨congrArg Value.bool (by rw [hR]; exact rgt_b (by assumption)), hS.ext_of⟩ | exact ⟨congrArg Value.bool (by rw [hR]; exact rgt_c (by omega) (by assumption) (by omega)), hS.ext_of⟩ | exact ⟨congrArg Value.bool (by rw [hR]; exact rgt_d (by omega) (by assumption) (by omega)), hS.ext_of⟩ | exact ⟨congrArg Value.bool (by rw [hR]; exact rgt_e (by omega)), hS.ext_of⟩
              ·
                try simp only [decide_eq_true_eq, decide_eq_false_iff_not, Bool.not_eq_true', Bool.not_eq_false', Int.not_lt, Int.not_le, ne_eq, Decidable.not_not, bne_iff_ne, beq_iff_eq, not_true_eq_false, not_false_eq_true] at hc4
                first
                | (exfalso; omega)
                | skip
                  have hR : keyR x = false := by rw [keyR, if_neg (by omega), if_neg (by omega), if_neg (by omega)]
                  refine x_skip ?_
                  refine hK2 _ _ ?_
                  refine x_seq fun K11 hK11 => ?_
                  refine x_region ?_
                  refine s_go (s_assign) ?_
                  try simp only [opv, n1, n2, n3, n4, Value.cells]
                  refine x_nil ?_
                  refine hK11 _ _ ?_
                  refine x_ret ?_
                  refine r_tmp rfl ?_
                  first | exact ⟨by rw [hR]; rfl, hS.ext_of⟩ | exact ⟨congrArg Value.bool (by rw [hR]; exact rgt_a (by omega)), hS.ext_of⟩ | exact ⟨congrArg Value.bool (by rw [hR]; exact rgt_b (by assumption)), hS.ext_of⟩ | exact ⟨congrArg Value.bool (by rw [hR]; exact rgt_c (by omega) (by assumption) (by omega)), hS.ext_of⟩ | exact ⟨congrArg Value.bool (by rw [hR]; exact rgt_d (by omega) (by assumption) (by omega)), hS.ext_of⟩ | exact ⟨congrArg Value.bool (by rw [hR]; exact rgt_e (by omega)), hS.ext_of⟩
      ·
        try simp only [decide_eq_true_eq, decide_eq_false_iff_not, Bool.not_eq_true', Bool.not_eq_false', Int.not_lt, Int.not_le, ne_eq, Decidable.not_not, bne_iff_ne, beq_iff_eq, not_true_eq_false, not_false_eq_true] at hc2
        first
        | (exfalso; omega)
        | skip
          refine x_region ?_
          refine s_go (s_eql) ?_
          try simp only [opv, n1, n2, n3, n4, Value.cells]
          refine s_go (s_assign) ?_
          try simp only [opv, n1, n2, n3, n4, Value.cells]
          refine x_nil ?_
          refine hK6 _ _ ?_
          refine x_cond (ht := fun hc5 => ?_) (hf := fun hc5 => ?_)
          ·
            try simp only [decide_eq_true_eq, decide_eq_false_iff_not, Bool.not_eq_true', Bool.not_eq_false', Int.not_lt, Int.not_le, ne_eq, Decidable.not_not, bne_iff_ne, beq_iff_eq, not_true_eq_false, not_false_eq_true] at hc5
            first
            | (exfalso; omega)
            | skip
              try have hR : keyR x = (decide (kn x 11 = 0) && nright (kitem x) && decide (kn x 10 < 16)) := by rw [keyR, if_neg (by omega), if_neg (by omega), if_pos (by omega)]
              refine x_seq fun K12 hK12 => ?_
              refine x_region ?_
              first | refine s_go (m_fieldAddr Try.underlying89 (hi := ti70)) ?_ | refine s_go (m_fieldAddr_rd Try.underlying89 (hi := ti70) (hS := hS)) ?_ | refine s_go (m_fieldAddr_vec Try.underlying89 (hi := ti70) (hS := hS)) ?_
              try simp only [opv, n1, n2, n3, n4, Value.cells, Nat.zero_add, Nat.add_zero, List.getElem_toArray, List.getElem_cons_zero, List.getElem_cons_succ]
              first | refine s_go (m_load_row Try.underlying70 (hi := ti70) (hS := hS) (hfit := by first | omega | (rw [zi_size (by omega)]; first | rfl | decide) | (simp only [ic_size, List.length_map, List.size_toArray]; first | omega | decide) | rfl | (simp [*]; done) | (simp [*]; omega))) ?_ | refine s_go (m_loada_obj Try.underlying70 (hi := ti70) (hS := hS) (hfit := by first | omega | (rw [zi_size (by omega)]; first | rfl | decide) | (simp only [ic_size, List.length_map, List.size_toArray]; first | omega | decide) | rfl | (simp [*]; done) | (simp [*]; omega))) ?_ | refine s_go (m_loada_bx Try.underlying70 (hi := ti70) (hS := hS) (hfit := by first | omega | (rw [zi_size (by omega)]; first | rfl | decide) | (simp only [ic_size, List.length_map, List.size_toArray]; first | omega | decide) | rfl | (simp [*]; done) | (simp [*]; omega))) ?_ | refine s_go (m_loada_rd Try.underlying70 (hi := ti70) (hS := hS) (hfit := by first | omega | (rw [zi_size (by omega)]; first | rfl | decide) | (simp only [ic_size, List.length_map, List.size_toArray]; first | omega | decide) | rfl | (simp [*]; done) | (simp [*]; omega))) ?_ | refine s_go (m_loada_vec Try.underlying70 (hi := ti70) (hS := hS) (hfit := by first | omega | (rw [zi_size (by omega)]; first | rfl | decide) | (simp only [ic_size, List.length_map, List.size_toArray]; first | omega | decide) | rfl | (simp [*]; done) | (simp [*]; omega))) ?_
              try simp only [opv, n1, n2, n3, n4, Value.cells, List.getElem_toArray, List.getElem_cons_zero, List.getElem_cons_succ]
              rw [key_item hkl]
              refine s_call en78 ?_
              try simp only [opv, n1, n2, n3, n4, Value.cells, List.map_toArray, List.map_cons, List.map_nil, List.append_toArray, List.cons_append, List.nil_append, Array.append_empty]
              refine CallR.mono (c_ref06Right _ hil hib _) ?_
              rintro _ w4 ⟨rfl, hE4⟩
              replace hS := hS.ext hE4
              try simp only [opv, n1, n2, n3, n4, Value.cells]
              refine s_go (s_move) ?_
              try simp only [opv, n1, n2, n3, n4, Value.cells]
              refine s_part 26 rfl (fun hp5 => ?_) (fun hp5 => ?_)
              ·
                try simp only [n3, n4]
                try simp only [decide_eq_true_eq, decide_eq_false_iff_not, Bool.not_eq_true', Bool.not_eq_false', Int.not_lt, Int.not_le, ne_eq, Decidable.not_not] at hp5
                first
                | (exfalso; omega)
                | skip
                  refine g_on (yi (t := 26) rfl rfl) ?_
                  first | refine s_go (m_fieldAddr Try.underlying89 (hi := ti5)) ?_ | refine s_go (m_fieldAddr_rd Try.underlying89 (hi := ti5) (hS := hS)) ?_ | refine s_go (m_fieldAddr_vec Try.underlying89 (hi := ti5) (hS := hS)) ?_
                  try simp only [opv, n1, n2, n3, n4, Value.cells, Nat.zero_add, Nat.add_zero, List.getElem_toArray, List.getElem_cons_zero, List.getElem_cons_succ]
                  refine g_on (yi (t := 26) rfl rfl) ?_
                  first | refine s_go (m_load_obj Try.underlying5 (hS := hS) (hv := by first | rfl | exact zi_get rfl (by omega) | exact ic_get (by omega) | exact il_get (by omega))) ?_ | refine s_go (m_load_bx Try.underlying5 (hS := hS) (hv := by first | rfl | exact zi_get rfl (by omega) | exact ic_get (by omega) | exact il_get (by omega))) ?_ | refine s_go (m_load_rd Try.underlying5 (hS := hS) (hv := by first | rfl | exact zi_get rfl (by omega) | exact ic_get (by omega) | exact il_get (by omega))) ?_ | refine s_go (m_load_vec Try.underlying5 (hS := hS) (hv := by first | rfl | exact zi_get rfl (by omega) | exact ic_get (by omega) | exact il_get (by omega))) ?_
                  try simp only [opv, n1, n2, n3, n4, Value.cells, List.getElem_toArray, List.getElem_cons_zero, List.getElem_cons_succ]
                  rw [hk.e10]
                  refine g_on (yi (t := 26) rfl rfl) ?_
                  refine s_go (s_lss) ?_
                  try simp only [opv, n1, n2, n3, n4, Value.cells]
                  first | refine s_go (s_pick_t) ?_ | refine s_go (s_pick_f) ?_
                  try simp only [opv, n1, n2, n3, n4, Value.cells]
                  refine s_go (s_move) ?_
                  try simp only [opv, n1, n2, n3, n4, Value.cells]
                  refine s_part 31 rfl (fun hp6 => ?_) (fun hp6 => ?_)
                  ·
                    try simp only [n3, n4]
                    try simp only [decide_eq_true_eq, decide_eq_false_iff_not, Bool.not_eq_true', Bool.not_eq_false', Int.not_lt, Int.not_le, ne_eq, Decidable.not_not] at hp6
                    first
                    | (exfalso; omega)
                    | skip
                      refine g_on (yi (t := 31) rfl rfl) ?_
                      first | refine s_go (m_fieldAddr Try.underlying89 (hi := ti22)) ?_ | refine s_go (m_fieldAddr_rd Try.underlying89 (hi := ti22) (hS := hS)) ?_ | refine s_go (m_fieldAddr_vec Try.underlying89 (hi := ti22) (hS := hS)) ?_
                      try simp only [opv, n1, n2, n3, n4, Value.cells, Nat.zero_add, Nat.add_zero, List.getElem_toArray, List.getElem_cons_zero, List.getElem_cons_succ]
                      refine g_on (yi (t := 31) rfl rfl) ?_
                      first | refine s_go (m_load_obj Try.underlying22 (hS := hS) (hv := by first | rfl | exact zi_get rfl (by omega) | exact ic_get (by omega) | exact il_get (by omega))) ?_ | refine s_go (m_load_bx Try.underlying22 (hS := hS) (hv := by first | rfl | exact zi_get rfl (by omega) | exact ic_get (by omega) | exact il_get (by omega))) ?_ | refine s_go (m_load_rd Try.underlying22 (hS := hS) (hv := by first | rfl | exact zi_get rfl (by omega) | exact ic_get (by omega) | exact il_get (by omega))) ?_ | refine s_go (m_load_vec Try.underlying22 (hS := hS) (hv := by first | rfl | exact zi_get rfl (by omega) | exact ic_get (by omega) | exact il_get (by omega))) ?_
                      try simp only [opv, n1, n2, n3, n4, Value.cells, List.getElem_toArray, List.getElem_cons_zero, List.getElem_cons_succ]
                      rw [hk.e11]
                      refine g_on (yi (t := 31) rfl rfl) ?_
                      refine s_go (s_eql) ?_
                      try simp only [opv, n1, n2, n3, n4, Value.cells]
                      first | refine s_go (s_pick_t) ?_ | refine s_go (s_pick_f) ?_
                      try simp only [opv, n1, n2, n3, n4, Value.cells]
                      refine s_go (s_assign) ?_
                      try simp only [opv, n1, n2, n3, n4, Value.cells]
                      refine x_nil ?_
                      refine hK12 _ _ ?_
                      refine x_ret ?_
                      refine r_tmp rfl ?_
                      first | exact ⟨by rw [hR]; rfl, hS.ext_of⟩ | exact ⟨congrArg Value.bool (by rw [hR]; exact rgt_a (by omega)), hS.ext_of⟩ | exact ⟨congrArg Value.bool (by rw [hR]; exact rgt_b (by assumption)), hS.ext_of⟩ | exact ⟨congrArg Value.bool (by rw [hR]; exact rgt_c (by omega) (by assumption) (by omega)), hS.ext_of⟩ | exact ⟨congrArg Value.bool (by rw [hR]; exact rgt_d (by omega) (by assumption) (by omega)), hS.ext_of⟩ | exact ⟨congrArg Value.bool (by rw [hR]; exact rgt_e (by omega)), hS.ext_of⟩
                  ·
                    try simp only [n3, n4]
                    try simp only [decide_eq_true_eq, decide_eq_false_iff_not, Bool.not_eq_true', Bool.not_eq_false', Int.not_lt, Int.not_le, ne_eq, Decidable.not_not] at hp6
                    first
                    | (exfalso; omega)
                    | skip
                      refine g_off (yi (t := 31) rfl rfl) ?_
                      try simp only [opv, n1, n2, n3, n4, Value.cells]
                      refine g_off (yi (t := 31) rfl rfl) ?_
                      try simp only [opv, n1, n2, n3, n4, Value.cells]
                      refine g_off (yi (t := 31) rfl rfl) ?_
                      try simp only [opv, n1, n2, n3, n4, Value.cells]
                      first | refine s_go (s_pick_t) ?_ | refine s_go (s_pick_f) ?_
                      try simp only [opv, n1, n2, n3, n4, Value.cells]
                      refine s_go (s_assign) ?_
                      try simp only [opv, n1, n2, n3, n4, Value.cells]
                      refine x_nil ?_
                      refine hK12 _ _ ?_
                      refine x_ret ?_
                      refine r_tmp rfl ?_
                      first | exact ⟨by rw [hR]; rfl, hS.ext_of⟩ | exact ⟨congrArg Value.bool (by rw [hR]; exact rgt_a (by omega)), hS.ext_of⟩ | exact ⟨congrArg Value.bool (by rw [hR]; exact rgt_b (by assumption)), hS.ext_of⟩ | exact ⟨congrArg Value.bool (by rw [hR]; exact rgt_c (by omega) (by assumption) (by omega)), hS.ext_of⟩ | exact ⟨congrArg Value.bool (by rw [hR]; exact rgt_d (by omega) (by assumption) (by omega)), hS.ext_of⟩ | exact ⟨congrArg Value.bool (by rw [hR]; exact rgt_e (by omega)), hS.ext_of⟩
              ·
                try simp only [n3, n4]
                try simp only [decide_eq_true_eq, decide_eq_false_iff_not, Bool.not_eq_true', Bool.not_eq_false', Int.not_lt, Int.not_le, ne_eq, Decidable.not_not] at hp5
                first
                | (exfalso; omega)
                | skip
                  refine g_off (yi (t := 26) rfl rfl) ?_
                  try simp only [opv, n1, n2, n3, n4, Value.cells]
                  refine g_off (yi (t := 26) rfl rfl) ?_
                  try simp only [opv, n1, n2, n3, n4, Value.cells]
                  refine g_off (yi (t := 26) rfl rfl) ?_
                  try simp only [opv, n1, n2, n3, n4, Value.cells]
                  first | refine s_go (s_pick_t) ?_ | refine s_go (s_pick_f) ?_
                  try simp only [opv, n1, n2, n3, n4, Value.cells]
                  refine s_go (s_move) ?_
                  try simp only [opv, n1, n2, n3, n4, Value.cells]
                  refine g_off (yi (t := 31) rfl rfl) ?_
                  try simp only [opv, n1, n2, n3, n4, Value.cells]
                  refine g_off (yi (t := 31) rfl rfl) ?_
                  try simp only [opv, n1, n2, n3, n4, Value.cells]
                  refine g_off (yi (t := 31) rfl rfl) ?_
                  try simp only [opv, n1, n2, n3, n4, Value.cells]
                  first | refine s_go (s_pick_t) ?_ | refine s_go (s_pick_f) ?_
                  try simp only [opv, n1, n2, n3, n4, Value.cells]
                  refine s_go (s_assign) ?_
                  try simp only [opv, n1, n2, n3, n4, Value.cells]
                  refine x_nil ?_
                  refine hK12 _ _ ?_
                  refine x_ret ?_
                  refine r_tmp rfl ?_
                  first | exact ⟨by rw [hR]; rfl, hS.ext_of⟩ | exact ⟨congrArg Value.bool (by rw [hR]; exact rgt_a (by omega)), hS.ext_of⟩ | exact ⟨congrArg Value.bool (by rw [hR]; exact rgt_b (by assumption)), hS.ext_of⟩ | exact ⟨congrArg Value.bool (by rw [hR]; exact rgt_c (by omega) (by assumption) (by omega)), hS.ext_of⟩ | exact ⟨congrArg Value.bool (by rw [hR]; exact rgt_d (by omega) (by assumption) (by omega)), hS.ext_of⟩ | exact ⟨congrArg Value.bool (by rw [hR]; exact rgt_e (by omega)), hS.ext_of⟩
          ·
            try simp only [decide_eq_true_eq, decide_eq_false_iff_not, Bool.not_eq_true', Bool.not_eq_false', Int.not_lt, Int.not_le, ne_eq, Decidable.not_not, bne_iff_ne, beq_iff_eq, not_true_eq_false, not_false_eq_true] at hc5
            first
            | (exfalso; omega)
            | skip
              refine x_seq fun K13 hK13 => ?_
              refine x_region ?_
              refine s_go (s_eql) ?_
              try simp only [opv, n1, n2, n3, n4, Value.cells]
              refine s_go (s_assign) ?_
              try simp only [opv, n1, n2, n3, n4, Value.cells]
              refine x_nil ?_
              refine hK13 _ _ ?_
              refine x_cond (ht := fun hc6 => ?_) (hf := fun hc6 => ?_)
              ·
                try simp only [decide_eq_true_eq, decide_eq_false_iff_not, Bool.not_eq_true', Bool.not_eq_false', Int.not_lt, Int.not_le, ne_eq, Decidable.not_not, bne_iff_ne, beq_iff_eq, not_true_eq_false, not_false_eq_true] at hc6
                first
                | (exfalso; omega)
                | skip
                  have hR : keyR x = decide (x = bareK x) := by rw [keyR, if_pos (by omega)]
                  refine x_seq fun K14 hK14 => ?_
                  refine x_region ?_
                  first | refine s_go (m_load_row Try.underlying89 (hi := ti89) (hS := hS) (hfit := by first | omega | (rw [zi_size (by omega)]; first | rfl | decide) | (simp only [ic_size, List.length_map, List.size_toArray]; first | omega | decide) | rfl | (simp [*]; done) | (simp [*]; omega))) ?_ | refine s_go (m_loada_obj Try.underlying89 (hi := ti89) (hS := hS) (hfit := by first | omega | (rw [zi_size (by omega)]; first | rfl | decide) | (simp only [ic_size, List.length_map, List.size_toArray]; first | omega | decide) | rfl | (simp [*]; done) | (simp [*]; omega))) ?_ | refine s_go (m_loada_bx Try.underlying89 (hi := ti89) (hS := hS) (hfit := by first | omega | (rw [zi_size (by omega)]; first | rfl | decide) | (simp only [ic_size, List.length_map, List.size_toArray]; first | omega | decide) | rfl | (simp [*]; done) | (simp [*]; omega))) ?_ | refine s_go (m_loada_rd Try.underlying89 (hi := ti89) (hS := hS) (hfit := by first | omega | (rw [zi_size (by omega)]; first | rfl | decide) | (simp only [ic_size, List.length_map, List.size_toArray]; first | omega | decide) | rfl | (simp [*]; done) | (simp [*]; omega))) ?_ | refine s_go (m_loada_vec Try.underlying89 (hi := ti89) (hS := hS) (hfit := by first | omega | (rw [zi_size (by omega)]; first | rfl | decide) | (simp only [ic_size, List.length_map, List.size_toArray]; first | omega | decide) | rfl | (simp [*]; done) | (simp [*]; omega))) ?_
                  try simp only [opv, n1, n2, n3, n4, Value.cells, List.getElem_toArray, List.getElem_cons_zero, List.getElem_cons_succ]
                  first | refine s_go (m_fieldAddr Try.underlying89 (hi := ti43)) ?_ | refine s_go (m_fieldAddr_rd Try.underlying89 (hi := ti43) (hS := hS)) ?_ | refine s_go (m_fieldAddr_vec Try.underlying89 (hi := ti43) (hS := hS)) ?_
                  try simp only [opv, n1, n2, n3, n4, Value.cells, Nat.zero_add, Nat.add_zero, List.getElem_toArray, List.getElem_cons_zero, List.getElem_cons_succ]
                  first | refine s_go (m_load_obj Try.underlying43 (hS := hS) (hv := by first | rfl | exact zi_get rfl (by omega) | exact ic_get (by omega) | exact il_get (by omega))) ?_ | refine s_go (m_load_bx Try.underlying43 (hS := hS) (hv := by first | rfl | exact zi_get rfl (by omega) | exact ic_get (by omega) | exact il_get (by omega))) ?_ | refine s_go (m_load_rd Try.underlying43 (hS := hS) (hv := by first | rfl | exact zi_get rfl (by omega) | exact ic_get (by omega) | exact il_get (by omega))) ?_ | refine s_go (m_load_vec Try.underlying43 (hS := hS) (hv := by first | rfl | exact zi_get rfl (by omega) | exact ic_get (by omega) | exact il_get (by omega))) ?_
                  try simp only [opv, n1, n2, n3, n4, Value.cells, List.getElem_toArray, List.getElem_cons_zero, List.getElem_cons_succ]
                  rw [hk.e1]
                  have hbl : (bareK x).length = 12 := rfl
                  refine s_go (s_build_struct (cells := #[_, _, .int .u8 0, .int .u8 0, .int .u8 0, .int .u8 0, .int .u8 0, .int .u8 0, .int .u8 0, .int .u8 0, .int .u8 0, .int .u32 0]) Try.underlying89 ti89 bp89 (hc := by simp only [List.map_toArray, List.map_cons, List.map_nil, opv, n1, n2, n3, n4, Value.cells, List.toList_toArray]; (repeat (refine fill_cons rfl rfl (Nat.le_of_ble_eq_true rfl) ?_)); rfl)) ?_
                  try simp only [opv, n1, n2, n3, n4, Value.cells]
                  rw [show (#[.int .u8 4, .int .u16 (kn x 1 : Int), .int .u8 0, .int .u8 0, .int .u8 0, .int .u8 0, .int .u8 0, .int .u8 0, .int .u8 0, .int .u8 0, .int .u8 0, .int .u32 0] : Array Value) = KA (bareK x) by rw [bareK, show kn x 0 = 4 by omega]; rfl]
                  refine s_go (s_eql_agg eqv89 (hg := eg89) (hX := rfl) (hY := rfl) (h1 := by first | assumption | rfl) (h2 := by first | assumption | rfl)) ?_
                  try simp only [opv, n1, n2, n3, n4, Value.cells]
                  refine s_go (s_assign) ?_
                  try simp only [opv, n1, n2, n3, n4, Value.cells]
                  refine x_nil ?_
                  refine hK14 _ _ ?_
                  refine x_ret ?_
                  refine r_tmp rfl ?_
                  first | exact ⟨by rw [hR]; rfl, hS.ext_of⟩ | exact ⟨congrArg Value.bool (by rw [hR]; exact rgt_a (by omega)), hS.ext_of⟩ | exact ⟨congrArg Value.bool (by rw [hR]; exact rgt_b (by assumption)), hS.ext_of⟩ | exact ⟨congrArg Value.bool (by rw [hR]; exact rgt_c (by omega) (by assumption) (by omega)), hS.ext_of⟩ | exact ⟨congrArg Value.bool (by rw [hR]; exact rgt_d (by omega) (by assumption) (by omega)), hS.ext_of⟩ | exact ⟨congrArg Value.bool (by rw [hR]; exact rgt_e (by omega)), hS.ext_of⟩
              ·
                try simp only [decide_eq_true_eq, decide_eq_false_iff_not, Bool.not_eq_true', Bool.not_eq_false', Int.not_lt, Int.not_le, ne_eq, Decidable.not_not, bne_iff_ne, beq_iff_eq, not_true_eq_false, not_false_eq_true] at hc6
                first
                | (exfalso; omega)
                | skip
                  have hR : keyR x = false := by rw [keyR, if_neg (by omega), if_neg (by omega), if_neg (by omega)]
                  refine x_skip ?_
                  refine hK2 _ _ ?_
                  refine x_seq fun K15 hK15 => ?_
                  refine x_region ?_
                  refine s_go (s_assign) ?_
                  try simp only [opv, n1, n2, n3, n4, Value.cells]
                  refine x_nil ?_
                  refine hK15 _ _ ?_
                  refine x_ret ?_
                  refine r_tmp rfl ?_
                  first | exact ⟨by rw [hR]; rfl, hS.ext_of⟩ | exact ⟨congrArg Value.bool (by rw [hR]; exact rgt_a (by omega)), hS.ext_of⟩ | exact ⟨congrArg Value.bool (by rw [hR]; exact rgt_b (by assumption)), hS.ext_of⟩ | exact ⟨congrArg Value.bool (by rw [hR]; exact rgt_c (by omega) (by assumption) (by omega)), hS.ext_of⟩ | exact ⟨congrArg Value.bool (by rw [hR]; exact rgt_d (by omega) (by assumption) (by omega)), hS.ext_of⟩ | exact ⟨congrArg Value.bool (by rw [hR]; exact rgt_e (by omega)), hS.ext_of⟩
end Go.Proofs.Ytjgbcaegofpggaa
