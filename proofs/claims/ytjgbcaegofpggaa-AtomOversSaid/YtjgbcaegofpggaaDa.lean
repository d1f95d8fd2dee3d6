/- Contracts of functions, printed by a program of this seat (wip/tools/gen.py) out of its specs. -/
import Derived.Test.YtjgbcaegofpggaaCz
set_option linter.unusedSimpArgs false
set_option linter.unusedVariables false
set_option maxHeartbeats 800000
set_option maxRecDepth 100000
namespace Go.Proofs.Ytjgbcaegofpggaa
open Go.RowKit

theorem c_atomRules  (w0 : World) :
    CallR Try.prog 185 #[] w0 fun v w' => ∃ q, v = .agg #[.func (.func 235) #[] #[], .func (.func 236) #[] #[.pointer (some ⟨q, 0, none⟩)], .func (.func 234) #[] #[.pointer (some ⟨q, 0, none⟩)], .func (.func 234) #[] #[.pointer (some ⟨q, 0, none⟩)], .func (.func 237) #[] #[.pointer (some ⟨q, 0, none⟩)]] ∧ St NoB w0 w' [.obj q (.cells #[.func (.func 233) #[] #[]] 207 (0, 0))] := by
  have hS : St NoB w0 w0 [] := St.start w0
  refine c_enter (l := [undef, undef, undef, undef, undef, undef, undef, undef, undef]) Try.func185 rfl (by simp only [Try.ntmps185, List.size_toArray, List.length_cons, List.length_nil, Nat.reduceAdd, Nat.reduceSub, Array.replicate_succ, Array.replicate_zero, List.push_toArray, List.append_toArray, List.nil_append, List.cons_append]) ?_
  refine x_seq fun K1 hK1 => ?_
  refine x_region ?_
  refine m_alloc ti208 hS (fun w1 g1 hS => ?_)
  try simp only [opv, n1, n2, n3, n4, Value.cells, Array.toArray_toList] at hS ⊢
  refine x_nil ?_
  refine hK1 _ _ ?_
  refine x_seq fun K2 hK2 => ?_
  refine x_region ?_
  refine m_alloc ti207 hS (fun w2 g2 hS => ?_)
  try simp only [opv, n1, n2, n3, n4, Value.cells, Array.toArray_toList] at hS ⊢
  first | refine m_store_obj ti207 (hS := hS) (h := fun w3 hS => ?_) | refine m_store_vec ti207 (hS := hS) (h := fun w3 hS => ?_)
  try simp only [opv, n1, n2, n3, n4, Value.cells, Array.toArray_toList] at hS ⊢
  refine x_nil ?_
  refine hK2 _ _ ?_
  refine x_seq fun K3 hK3 => ?_
  refine x_region ?_
  refine s_go (s_makeFunc) ?_
  try simp only [opv, n1, n2, n3, n4, Value.cells, List.map_toArray, List.map_cons, List.map_nil]
  refine s_go (s_assign) ?_
  try simp only [opv, n1, n2, n3, n4, Value.cells]
  refine x_nil ?_
  refine hK3 _ _ ?_
  refine x_seq fun K4 hK4 => ?_
  refine x_region ?_
  refine s_go (s_makeFunc) ?_
  try simp only [opv, n1, n2, n3, n4, Value.cells, List.map_toArray, List.map_cons, List.map_nil]
  refine s_go (s_move) ?_
  try simp only [opv, n1, n2, n3, n4, Value.cells]
  refine s_go (s_move) ?_
  try simp only [opv, n1, n2, n3, n4, Value.cells]
  refine s_go (s_makeFunc) ?_
  try simp only [opv, n1, n2, n3, n4, Value.cells, List.map_toArray, List.map_cons, List.map_nil]
  refine s_go (s_build_arr (cells := #[_, _, _, _, _]) Try.underlying208 ti208 ti207 (hc := by simp only [List.map_toArray, List.map_cons, List.map_nil, opv, n1, n2, n3, n4, Value.cells, List.toList_toArray]; (repeat (refine fill_cons rfl rfl (Nat.le_of_ble_eq_true rfl) ?_)); rfl)) ?_
  try simp only [opv, n1, n2, n3, n4, Value.cells]
  first | refine m_store_obj ti208 (hS := hS) (h := fun w4 hS => ?_) | refine m_store_vec ti208 (hS := hS) (h := fun w4 hS => ?_)
  try simp only [opv, n1, n2, n3, n4, Value.cells, Array.toArray_toList] at hS ⊢
  refine x_nil ?_
  refine hK4 _ _ ?_
  refine x_ret ?_
  refine r_cell_agg rfl Try.underlying208 ti208 (hS := hS) (hR := ?_)
  exact ⟨_, rfl, hS.sel (by repeat (first | exact Sel.nil | (refine Sel.cons (by repeat (first | exact Del.head | apply Del.tail)) ?_)))⟩


def ruleN (s : Nat) : FuncId := if s = 1 then 236 else if s = 4 then 237 else 234
theorem rule_en {s : Nat} (h : 1 ≤ s ∧ s ≤ 4) : Enters Try.prog (ruleN s) := by
  have : s = 1 ∨ s = 2 ∨ s = 3 ∨ s = 4 := by omega
  rcases this with rfl | rfl | rfl | rfl
  · exact en236
  · exact en234
  · exact en234
  · exact en237
theorem rule_at {s q : Nat} (h : 1 ≤ s ∧ s ≤ 4) : (#[.func (.func 235) #[] #[], .func (.func 236) #[] #[.pointer (some ⟨q, 0, none⟩)], .func (.func 234) #[] #[.pointer (some ⟨q, 0, none⟩)], .func (.func 234) #[] #[.pointer (some ⟨q, 0, none⟩)], .func (.func 237) #[] #[.pointer (some ⟨q, 0, none⟩)]] : Array Value)[s * 1]? = some (.func (.func (ruleN s)) #[] #[.pointer (some ⟨q, 0, none⟩)]) := by
  have : s = 1 ∨ s = 2 ∨ s = 3 ∨ s = 4 := by omega
  rcases this with rfl | rfl | rfl | rfl <;> rfl
theorem c_rule (w0 : World) (s : Nat) (h : 1 ≤ s ∧ s ≤ 4) (v : List Int) (hv : ValOk v) (q : Nat) (hq : Rd w0 (some ⟨q, 0, none⟩) 1 1 [.func (.func 233) #[] #[]]) : CallR Try.prog (ruleN s) #[.agg (VA v), .pointer (some ⟨q, 0, none⟩)] w0 fun u w' => u = .bool (valR s v) ∧ Ext w0 w' := by
  have : s = 1 ∨ s = 2 ∨ s = 3 ∨ s = 4 := by omega
  rcases this with rfl | rfl | rfl | rfl
  · exact c_rule4 w0 v hv q hq
  · exact c_rule2 w0 v hv q hq
  · exact c_rule2 w0 v hv q hq
  · exact c_rule5 w0 v hv q hq
theorem keyR_sort {x : List Int} (h : keyR x = true) : 1 ≤ kn x 0 ∧ kn x 0 ≤ 4 := by
  unfold keyR at h
  split at h
  · omega
  split at h
  · omega
  split at h
  · omega
  · cases h
theorem akey_0 {a : List Int} (h : a.length = 21) : a.getD 0 0 = (akey a).getD 0 0 ∧ kn a 0 = kn (akey a) 0 := by
  match a, h with
  | _ :: _, _ => exact ⟨rfl, rfl⟩


theorem c_atomRight (a : List Int) (ha : AtomOk a)  (w0 : World) :
    CallR Try.prog 98 #[.agg (AA a)] w0 fun v w' => v = .bool (atomR a) ∧ Ext w0 w' := by
  have hS : St NoB w0 w0 [] := St.start w0
  refine c_enter (l := [.agg (AA a), undef, undef, undef, undef, undef, undef, undef, undef, undef, undef, undef, undef, undef, undef, undef]) Try.func98 rfl (by simp only [Try.ntmps98, List.size_toArray, List.length_cons, List.length_nil, Nat.reduceAdd, Nat.reduceSub, Array.replicate_succ, Array.replicate_zero, List.push_toArray, List.append_toArray, List.nil_append, List.cons_append]) ?_
  refine x_seq fun K1 hK1 => ?_
  refine x_region ?_
  have hal := ha.len
  have hk := ha.key
  have hv := ha.val
  have hvl := hv.len
  have hkl := hk.len
  have h00 := akey_0 hal
  have htl := vtext_len hvl
  have htb := hv.text
  have hvb := hv.b0
  refine m_box hS (fun w1 g1 hS => ?_)
  try simp only [opv, n1, n2, n3, n4, Value.cells, Array.toArray_toList] at hS ⊢
  refine s_go (s_assign) ?_
  try simp only [opv, n1, n2, n3, n4, Value.cells]
  refine x_nil ?_
  refine hK1 _ _ ?_
  refine x_seq fun K2 hK2 => ?_
  refine x_mixed_f [] 0 [2, 3, 4, 5, 6, 7, 8, 9, 10, 11, 12, 13, 14, 15] (fun f w => f 2 = .bool (atomR a) ∧ Ext w0 w) (by kernel_rfl) (by kernel_rfl) (by kernel_rfl) (by decide) hS (fun w2 hS => ?mixpre101) ?mixrest101
  case mixpre101 =>
    refine p_nil ?_
    simp only [List.length_cons, List.length_nil, Nat.reduceAdd, Nat.reduceSub]
    first | refine any_go (i := 0) (by rfl) (by decide +kernel) (by decide +kernel) noLate_nil (go_yields w_none (fun w hS => m_fieldAddr Try.underlying114 (hi := ti89))) ?_ | refine any_go (i := 0) (by rfl) (by decide +kernel) (by decide +kernel) noLate_nil (go_yields w_none (fun w hS => m_fieldAddr_rd Try.underlying114 (hi := ti89) (hS := hS))) ?_ | refine any_go (i := 0) (by rfl) (by decide +kernel) (by decide +kernel) noLate_nil (go_yields w_none (fun w hS => m_fieldAddr_vec Try.underlying114 (hi := ti89) (hS := hS))) ?_
    try simp only [opv, n1, n2, n3, n4, Value.cells, Nat.zero_add, Nat.add_zero, List.getElem_toArray, List.getElem_cons_zero, List.getElem_cons_succ]
    first | refine any_go (i := 1) (by rfl) (by decide +kernel) (by decide +kernel) noLate_nil (go_yields w_none (fun w hS => m_load_row Try.underlying89 (hi := ti89) (hS := hS) (hfit := by first | omega | (rw [zi_size (by omega)]; first | rfl | decide) | (simp only [ic_size, List.length_map, List.size_toArray]; first | omega | decide) | rfl | (simp [*]; done) | (simp [*]; omega)))) ?_ | refine any_go (i := 1) (by rfl) (by decide +kernel) (by decide +kernel) noLate_nil (go_yields w_none (fun w hS => m_loada_obj Try.underlying89 (hi := ti89) (hS := hS) (hfit := by first | omega | (rw [zi_size (by omega)]; first | rfl | decide) | (simp only [ic_size, List.length_map, List.size_toArray]; first | omega | decide) | rfl | (simp [*]; done) | (simp [*]; omega)))) ?_ | refine any_go (i := 1) (by rfl) (by decide +kernel) (by decide +kernel) noLate_nil (go_yields w_none (fun w hS => m_loada_bx Try.underlying89 (hi := ti89) (hS := hS) (hfit := by first | omega | (rw [zi_size (by omega)]; first | rfl | decide) | (simp only [ic_size, List.length_map, List.size_toArray]; first | omega | decide) | rfl | (simp [*]; done) | (simp [*]; omega)))) ?_ | refine any_go (i := 1) (by rfl) (by decide +kernel) (by decide +kernel) noLate_nil (go_yields w_none (fun w hS => m_loada_rd Try.underlying89 (hi := ti89) (hS := hS) (hfit := by first | omega | (rw [zi_size (by omega)]; first | rfl | decide) | (simp only [ic_size, List.length_map, List.size_toArray]; first | omega | decide) | rfl | (simp [*]; done) | (simp [*]; omega)))) ?_ | refine any_go (i := 1) (by rfl) (by decide +kernel) (by decide +kernel) noLate_nil (go_yields w_none (fun w hS => m_loada_vec Try.underlying89 (hi := ti89) (hS := hS) (hfit := by first | omega | (rw [zi_size (by omega)]; first | rfl | decide) | (simp only [ic_size, List.length_map, List.size_toArray]; first | omega | decide) | rfl | (simp [*]; done) | (simp [*]; omega)))) ?_
    try simp only [opv, n1, n2, n3, n4, Value.cells, List.getElem_toArray, List.getElem_cons_zero, List.getElem_cons_succ]
    rw [atom_key hal]
    apply any_go (i := 2) (by rfl) (by decide +kernel) (by decide +kernel) noLate_nil (call_yields w_none en86 ?H1) ?K1
    case H1 =>
      intro w hS
      try simp only [opv, n1, n2, n3, n4, List.map_toArray, List.map_cons, List.map_nil, List.append_toArray, List.cons_append, List.nil_append, Array.append_empty]
      refine CallR.mono (c_keyRight _ hk _) ?_
      rintro _ w1 ⟨rfl, hE⟩; exact ⟨rfl, hE⟩
    try simp only [opv, n1, n2, n3, n4, Value.cells]
    refine any_go (i := 3) (by rfl) (by decide +kernel) (by decide +kernel) noLate_nil (go_yields w_none (fun w hS => s_move)) ?_
    try simp only [opv, n1, n2, n3, n4, Value.cells]
    refine any_part 6 rfl (fun hp1 => ?_) (fun hp1 => ?_)
    ·
      try simp only [n3, n4]
      try simp only [decide_eq_true_eq, decide_eq_false_iff_not, Bool.not_eq_true', Bool.not_eq_false', Int.not_lt, Int.not_le, ne_eq, Decidable.not_not] at hp1
      have hs := keyR_sort hp1
      rw [← h00.2] at hs
      first | refine any_go (i := 5) (by rfl) (by decide +kernel) (by decide +kernel) noLate_nil (go_yields (w_on (yi (t := 6) rfl rfl)) (fun w hS => m_fieldAddr Try.underlying114 (hi := ti89))) ?_ | refine any_go (i := 5) (by rfl) (by decide +kernel) (by decide +kernel) noLate_nil (go_yields (w_on (yi (t := 6) rfl rfl)) (fun w hS => m_fieldAddr_rd Try.underlying114 (hi := ti89) (hS := hS))) ?_ | refine any_go (i := 5) (by rfl) (by decide +kernel) (by decide +kernel) noLate_nil (go_yields (w_on (yi (t := 6) rfl rfl)) (fun w hS => m_fieldAddr_vec Try.underlying114 (hi := ti89) (hS := hS))) ?_
      try simp only [opv, n1, n2, n3, n4, Value.cells, Nat.zero_add, Nat.add_zero, List.getElem_toArray, List.getElem_cons_zero, List.getElem_cons_succ]
      first | refine any_go (i := 6) (by rfl) (by decide +kernel) (by decide +kernel) noLate_nil (go_yields (w_on (yi (t := 6) rfl rfl)) (fun w hS => m_fieldAddr Try.underlying89 (hi := ti5))) ?_ | refine any_go (i := 6) (by rfl) (by decide +kernel) (by decide +kernel) noLate_nil (go_yields (w_on (yi (t := 6) rfl rfl)) (fun w hS => m_fieldAddr_rd Try.underlying89 (hi := ti5) (hS := hS))) ?_ | refine any_go (i := 6) (by rfl) (by decide +kernel) (by decide +kernel) noLate_nil (go_yields (w_on (yi (t := 6) rfl rfl)) (fun w hS => m_fieldAddr_vec Try.underlying89 (hi := ti5) (hS := hS))) ?_
      try simp only [opv, n1, n2, n3, n4, Value.cells, Nat.zero_add, Nat.add_zero, List.getElem_toArray, List.getElem_cons_zero, List.getElem_cons_succ]
      first | refine any_go (i := 7) (by rfl) (by decide +kernel) (by decide +kernel) noLate_nil (go_yields (w_on (yi (t := 6) rfl rfl)) (fun w hS => m_load_obj Try.underlying5 (hS := hS) (hv := by first | rfl | exact zi_get rfl (by omega) | exact ic_get (by omega) | exact il_get (by omega)))) ?_ | refine any_go (i := 7) (by rfl) (by decide +kernel) (by decide +kernel) noLate_nil (go_yields (w_on (yi (t := 6) rfl rfl)) (fun w hS => m_load_bx Try.underlying5 (hS := hS) (hv := by first | rfl | exact zi_get rfl (by omega) | exact ic_get (by omega) | exact il_get (by omega)))) ?_ | refine any_go (i := 7) (by rfl) (by decide +kernel) (by decide +kernel) noLate_nil (go_yields (w_on (yi (t := 6) rfl rfl)) (fun w hS => m_load_rd Try.underlying5 (hS := hS) (hv := by first | rfl | exact zi_get rfl (by omega) | exact ic_get (by omega) | exact il_get (by omega)))) ?_ | refine any_go (i := 7) (by rfl) (by decide +kernel) (by decide +kernel) noLate_nil (go_yields (w_on (yi (t := 6) rfl rfl)) (fun w hS => m_load_vec Try.underlying5 (hS := hS) (hv := by first | rfl | exact zi_get rfl (by omega) | exact ic_get (by omega) | exact il_get (by omega)))) ?_
      try simp only [opv, n1, n2, n3, n4, Value.cells, List.getElem_toArray, List.getElem_cons_zero, List.getElem_cons_succ]
      rw [h00.1, hk.e0, ← h00.2]
      first | refine any_go (i := 9) (by rfl) (by decide +kernel) (by decide +kernel) noLate_nil (go_yields (w_on (yi (t := 6) rfl rfl)) (fun w hS => m_fieldAddr Try.underlying114 (hi := ti112))) ?_ | refine any_go (i := 9) (by rfl) (by decide +kernel) (by decide +kernel) noLate_nil (go_yields (w_on (yi (t := 6) rfl rfl)) (fun w hS => m_fieldAddr_rd Try.underlying114 (hi := ti112) (hS := hS))) ?_ | refine any_go (i := 9) (by rfl) (by decide +kernel) (by decide +kernel) noLate_nil (go_yields (w_on (yi (t := 6) rfl rfl)) (fun w hS => m_fieldAddr_vec Try.underlying114 (hi := ti112) (hS := hS))) ?_
      try simp only [opv, n1, n2, n3, n4, Value.cells, Nat.zero_add, Nat.add_zero, List.getElem_toArray, List.getElem_cons_zero, List.getElem_cons_succ]
      first | refine any_go (i := 10) (by rfl) (by decide +kernel) (by decide +kernel) noLate_nil (go_yields (w_on (yi (t := 6) rfl rfl)) (fun w hS => m_load_row Try.underlying112 (hi := ti112) (hS := hS) (hfit := by first | omega | (rw [zi_size (by omega)]; first | rfl | decide) | (simp only [ic_size, List.length_map, List.size_toArray]; first | omega | decide) | rfl | (simp [*]; done) | (simp [*]; omega)))) ?_ | refine any_go (i := 10) (by rfl) (by decide +kernel) (by decide +kernel) noLate_nil (go_yields (w_on (yi (t := 6) rfl rfl)) (fun w hS => m_loada_obj Try.underlying112 (hi := ti112) (hS := hS) (hfit := by first | omega | (rw [zi_size (by omega)]; first | rfl | decide) | (simp only [ic_size, List.length_map, List.size_toArray]; first | omega | decide) | rfl | (simp [*]; done) | (simp [*]; omega)))) ?_ | refine any_go (i := 10) (by rfl) (by decide +kernel) (by decide +kernel) noLate_nil (go_yields (w_on (yi (t := 6) rfl rfl)) (fun w hS => m_loada_bx Try.underlying112 (hi := ti112) (hS := hS) (hfit := by first | omega | (rw [zi_size (by omega)]; first | rfl | decide) | (simp only [ic_size, List.length_map, List.size_toArray]; first | omega | decide) | rfl | (simp [*]; done) | (simp [*]; omega)))) ?_ | refine any_go (i := 10) (by rfl) (by decide +kernel) (by decide +kernel) noLate_nil (go_yields (w_on (yi (t := 6) rfl rfl)) (fun w hS => m_loada_rd Try.underlying112 (hi := ti112) (hS := hS) (hfit := by first | omega | (rw [zi_size (by omega)]; first | rfl | decide) | (simp only [ic_size, List.length_map, List.size_toArray]; first | omega | decide) | rfl | (simp [*]; done) | (simp [*]; omega)))) ?_ | refine any_go (i := 10) (by rfl) (by decide +kernel) (by decide +kernel) noLate_nil (go_yields (w_on (yi (t := 6) rfl rfl)) (fun w hS => m_loada_vec Try.underlying112 (hi := ti112) (hS := hS) (hfit := by first | omega | (rw [zi_size (by omega)]; first | rfl | decide) | (simp only [ic_size, List.length_map, List.size_toArray]; first | omega | decide) | rfl | (simp [*]; done) | (simp [*]; omega)))) ?_
      try simp only [opv, n1, n2, n3, n4, Value.cells, List.getElem_toArray, List.getElem_cons_zero, List.getElem_cons_succ]
      rw [atom_val hal]
      refine any_step [4] (by kernel_rfl) (by decide) (fun w3 hE => ⟨fun _ => (hS.ext hE).sel (by repeat (first | exact Sel.nil | (refine Sel.cons (by repeat (first | exact Del.head | apply Del.tail)) ?_))), ?_⟩)
      replace hS := hS.ext hE
      intro i hi
      simp only [List.mem_cons, List.not_mem_nil, or_false] at hi
      subst hi
      ·
        refine any_op (by rfl) ?_
        refine g_on (yi (t := 6) rfl rfl) ?_
        refine s_call en185 ?_
        try simp only [opv, n1, n2, n3, n4, Value.cells, List.map_toArray, List.map_cons, List.map_nil, List.append_toArray, List.cons_append, List.nil_append, Array.append_empty]
        refine CallR.mono (c_atomRules _) ?_
        rintro _ w4 ⟨q, rfl, hC4⟩
        replace hS := hS.call hC4
        simp only [List.cons_append, List.nil_append] at hS
        try simp only [opv, n1, n2, n3, n4, Value.cells]
        refine x_nil ?_
        refine any_step [8] (by kernel_rfl) (by decide) (fun w5 hE => ⟨fun _ => (hS.ext hE).sel (by repeat (first | exact Sel.nil | (refine Sel.cons (by repeat (first | exact Del.head | apply Del.tail)) ?_))), ?_⟩)
        replace hS := hS.ext hE
        intro i hi
        simp only [List.mem_cons, List.not_mem_nil, or_false] at hi
        subst hi
        ·
          refine any_op (by rfl) ?_
          refine g_on (yi (t := 6) rfl rfl) ?_
          refine s_go (s_index_one Try.underlying208 ti207 Try.underlying207 (hv := by rw [Int.toNat_natCast]; exact rule_at hs)) ?_
          try simp only [opv, n1, n2, n3, n4, Value.cells]
          refine x_nil ?_
          refine any_step [11] (by kernel_rfl) (by decide) (fun w6 hE => ⟨fun _ => (hS.ext hE).sel (by repeat (first | exact Sel.nil | (refine Sel.cons (by repeat (first | exact Del.head | apply Del.tail)) ?_))), ?_⟩)
          replace hS := hS.ext hE
          intro i hi
          simp only [List.mem_cons, List.not_mem_nil, or_false] at hi
          subst hi
          ·
            refine any_op (by rfl) ?_
            refine g_on (yi (t := 6) rfl rfl) ?_
            refine s_callv (hv := rfl) (rule_en hs) ?_
            try simp only [opv, n1, n2, n3, n4, Value.cells, List.map_toArray, List.map_cons, List.map_nil, List.append_toArray, List.cons_append, List.nil_append, Array.append_empty]
            refine CallR.mono (c_rule _ _ hs _ hv q (by exact hS.objRd (g := q) (cs := #[.func (.func 233) #[] #[]]) (by repeat (first | exact Has.head | apply Has.tail)))) ?_
            rintro _ w7 ⟨rfl, hE7⟩
            replace hS := hS.ext hE7
            try simp only [opv, n1, n2, n3, n4, Value.cells]
            refine x_nil ?_
            first | refine any_go (i := 12) (by rfl) (by decide +kernel) (by decide +kernel) noLate_nil (go_yields w_none (fun w hS => s_pick_t)) ?_ | refine any_go (i := 12) (by rfl) (by decide +kernel) (by decide +kernel) noLate_nil (go_yields w_none (fun w hS => s_pick_f)) ?_
            try simp only [opv, n1, n2, n3, n4, Value.cells]
            refine any_go (i := 13) (by rfl) (by decide +kernel) (by decide +kernel) noLate_nil (go_yields w_none (fun w hS => s_assign)) ?_
            try simp only [opv, n1, n2, n3, n4, Value.cells]
            refine any_nil (by kernel_rfl) (fun w8 hE => ?_)
            replace hS := hS.ext hE
            refine ⟨fun _ => hS.sel (by repeat (first | exact Sel.nil | (refine Sel.cons (by repeat (first | exact Del.head | apply Del.tail)) ?_))), ?_⟩
            refine mix_leaf (by simp only [clob, List.foldl, n1, n2, n3, n4]) ?_
            try simp only [n1, n2]
            exact ⟨congrArg Value.bool (by simp only [atomR, *, Bool.false_and, Bool.true_and]), hS.ext_of⟩
    ·
      try simp only [n3, n4]
      try simp only [decide_eq_true_eq, decide_eq_false_iff_not, Bool.not_eq_true', Bool.not_eq_false', Int.not_lt, Int.not_le, ne_eq, Decidable.not_not] at hp1
      refine any_go (i := 4) (by rfl) (by decide +kernel) (by decide +kernel) noLate_nil (off_yields (yi (t := 6) rfl rfl)) ?_
      try simp only [opv, n1, n2, n3, n4, Value.cells]
      refine any_go (i := 5) (by rfl) (by decide +kernel) (by decide +kernel) noLate_nil (off_yields (yi (t := 6) rfl rfl)) ?_
      try simp only [opv, n1, n2, n3, n4, Value.cells]
      refine any_go (i := 6) (by rfl) (by decide +kernel) (by decide +kernel) noLate_nil (off_yields (yi (t := 6) rfl rfl)) ?_
      try simp only [opv, n1, n2, n3, n4, Value.cells]
      refine any_go (i := 7) (by rfl) (by decide +kernel) (by decide +kernel) noLate_nil (off_yields (yi (t := 6) rfl rfl)) ?_
      try simp only [opv, n1, n2, n3, n4, Value.cells]
      refine any_go (i := 8) (by rfl) (by decide +kernel) (by decide +kernel) noLate_nil (off_yields (yi (t := 6) rfl rfl)) ?_
      try simp only [opv, n1, n2, n3, n4, Value.cells]
      refine any_go (i := 9) (by rfl) (by decide +kernel) (by decide +kernel) noLate_nil (off_yields (yi (t := 6) rfl rfl)) ?_
      try simp only [opv, n1, n2, n3, n4, Value.cells]
      refine any_go (i := 10) (by rfl) (by decide +kernel) (by decide +kernel) noLate_nil (off_yields (yi (t := 6) rfl rfl)) ?_
      try simp only [opv, n1, n2, n3, n4, Value.cells]
      refine any_go (i := 11) (by rfl) (by decide +kernel) (by decide +kernel) noLate_nil (off_yields (yi (t := 6) rfl rfl)) ?_
      try simp only [opv, n1, n2, n3, n4, Value.cells]
      first | refine any_go (i := 12) (by rfl) (by decide +kernel) (by decide +kernel) noLate_nil (go_yields w_none (fun w hS => s_pick_t)) ?_ | refine any_go (i := 12) (by rfl) (by decide +kernel) (by decide +kernel) noLate_nil (go_yields w_none (fun w hS => s_pick_f)) ?_
      try simp only [opv, n1, n2, n3, n4, Value.cells]
      refine any_go (i := 13) (by rfl) (by decide +kernel) (by decide +kernel) noLate_nil (go_yields w_none (fun w hS => s_assign)) ?_
      try simp only [opv, n1, n2, n3, n4, Value.cells]
      refine any_nil (by kernel_rfl) (fun w9 hE => ?_)
      replace hS := hS.ext hE
      refine ⟨fun _ => hS.sel (by repeat (first | exact Sel.nil | (refine Sel.cons (by repeat (first | exact Del.head | apply Del.tail)) ?_))), ?_⟩
      refine mix_leaf (by simp only [clob, List.foldl, n1, n2, n3, n4]) ?_
      try simp only [n1, n2]
      exact ⟨congrArg Value.bool (by simp only [atomR, *, Bool.false_and, Bool.true_and]), hS.ext_of⟩
  intro fm1 w10 hM
  obtain ⟨h2, hEE⟩ := hM
  simp only [clob, List.foldl, n3, n4, h2]
  refine hK2 _ _ ?_
  refine x_ret ?_
  refine r_tmp rfl ?_
  exact ⟨rfl, hEE⟩
end Go.Proofs.Ytjgbcaegofpggaa
