/- Contracts of functions, printed by a program of this seat (wip/tools/gen.py) out of its specs. -/
import Derived.Test.YtpjpaipkkcengaaDi
set_option linter.unusedSimpArgs false
set_option linter.unusedVariables false
set_option maxHeartbeats 2000000
set_option maxRecDepth 100000
namespace Go.Proofs.Ytpjpaipkkcengaa
open Go.RowKit

theorem c_law07read (w0 : World) (g : Nat) (e : Int) (A : Option Addr) (c : Nat) (xs : List Int) (hc : xs.length ≤ c) (hw : Byt xs) (hn : xs.length ≤ 1000000000) (p : Pc) (hpx : p.x < 18446744073709551616) (hpn : p.n ≤ 9223372036854775807) (hM : St (OwnB [.obj g (.cells #[.int .i64 e, .slice A xs.length c] 162 (0, 0)), .rd A 1 xs.length (xs.map (Value.int .u8))]) w0 w0 [.obj g (.cells #[.int .i64 e, .slice A xs.length c] 162 (0, 0)), .rd A 1 xs.length (xs.map (Value.int .u8))]) :
    CallR Try.prog 33 #[.pointer (some ⟨g, 0, none⟩), .agg (pP p)] w0 fun v w' => ∃ (B : Option Addr) (k : Nat), v = .agg (pA p.d (rdS p.d p.x p.n e xs).1.1 (rdS p.d p.x p.n e xs).1.2.1 (rdS p.d p.x p.n e xs).1.2.2.1 B (rdS p.d p.x p.n e xs).1.2.2.2.length k 0) ∧ CuSt w0 w' [.obj g (.cells #[.int .i64 e, .slice A xs.length c] 162 (0, 0)), .rd A 1 xs.length (xs.map (Value.int .u8))] g (rdS p.d p.x p.n e xs).2.1 (rdS p.d p.x p.n e xs).2.2 [.vec B k 5 1 (rdS p.d p.x p.n e xs).1.2.2.2.length ((rdS p.d p.x p.n e xs).1.2.2.2.map (Value.int .u8))] := by
  have hS := hM
  have hnsl := namS_len e xs
  refine c_enter (l := [.pointer (some ⟨g, 0, none⟩), .agg (pP p), undef, undef, undef, undef, undef, undef, undef, undef, undef, undef, undef, undef, undef, undef, undef, undef, undef, undef, undef, undef, undef, undef, undef, undef, undef, undef, undef, undef, undef, undef, undef, undef]) Try.func33 rfl (by simp only [Try.ntmps33, List.size_toArray, List.length_cons, List.length_nil, Nat.reduceAdd, Nat.reduceSub, Array.replicate_succ, Array.replicate_zero, List.push_toArray, List.append_toArray, List.nil_append, List.cons_append]) ?_
  refine x_seq fun K1 hK1 => ?_
  refine x_region ?_
  refine m_box hS (fun w1 g1 hS => ?_)
  try simp only [opv, n1, n2, n3, n4, Value.cells, Array.toArray_toList] at hS ⊢
  refine m_alloc ti45 hS (fun w2 g2 hS => ?_)
  try simp only [opv, n1, n2, n3, n4, Value.cells, Array.toArray_toList] at hS ⊢
  replace hS : St (OwnB [.obj g (.cells #[.int .i64 e, .slice A xs.length c] 162 (0, 0)), .rd A 1 xs.length (xs.map (Value.int .u8))]) w0 w2 (.obj _ (.cells (pA 0 0 0 nm0 none 0 0 0) 45 (0, 0)) :: _) := hS
  refine x_nil ?_
  refine hK1 _ _ ?_
  refine x_seq fun K2 hK2 => ?_
  refine x_region ?_
  first | refine s_go (m_fieldAddr Try.underlying45 (hi := ti3)) ?_ | refine s_go (m_fieldAddr_rd Try.underlying45 (hi := ti3) (hS := hS)) ?_ | refine s_go (m_fieldAddr_vec Try.underlying45 (hi := ti3) (hS := hS)) ?_
  try simp only [opv, n1, n2, n3, n4, Value.cells, Nat.zero_add, Nat.add_zero, List.getElem_toArray, List.getElem_cons_zero, List.getElem_cons_succ]
  first | refine s_go (m_load_obj Try.underlying3 (hS := hS)) ?_ | refine s_go (m_load_bx Try.underlying3 (hS := hS)) ?_ | refine s_go (m_load_rd Try.underlying3 (hS := hS)) ?_ | refine s_go (m_load_vec Try.underlying3 (hS := hS)) ?_
  try simp only [opv, n1, n2, n3, n4, Value.cells, List.getElem_toArray, List.getElem_cons_zero, List.getElem_cons_succ]
  refine s_go (s_build_struct (cells := #[_, .int .u64 0, .int .u8 0, .int .u8 0, .int .u8 0, .int .u8 0, .int .u8 0, .int .u8 0, .int .u8 0, .int .u8 0, .int .u8 0, .slice none 0 0, .int .i64 0]) Try.underlying45 ti45 bp45 (hc := by simp only [List.map_toArray, List.map_cons, List.map_nil, opv, n1, n2, n3, n4, Value.cells, List.toList_toArray]; (repeat (refine fill_cons rfl rfl (Nat.le_of_ble_eq_true rfl) ?_)); rfl)) ?_
  try simp only [opv, n1, n2, n3, n4, Value.cells]
  refine m_alloc ti45 hS (fun w3 g3 hS => ?_)
  try simp only [opv, n1, n2, n3, n4, Value.cells, Array.toArray_toList] at hS ⊢
  first | refine m_store_obj ti45 (hS := hS) (h := fun w4 hS => ?_) | refine m_store_vec ti45 (hS := hS) (h := fun w4 hS => ?_)
  try simp only [opv, n1, n2, n3, n4, Value.cells, Array.toArray_toList] at hS ⊢
  replace hS : St (OwnB [.obj g (.cells #[.int .i64 e, .slice A xs.length c] 162 (0, 0)), .rd A 1 xs.length (xs.map (Value.int .u8))]) w0 w4 (.obj _ (.cells (pA p.d 0 0 nm0 none 0 0 0) 45 (0, 0)) :: _) := hS
  refine x_nil ?_
  refine hK2 _ _ ?_
  refine x_seq fun K3 hK3 => ?_
  refine x_seq fun K4 hK4 => ?_
  refine x_region ?_
  first | refine s_go (m_fieldAddr Try.underlying45 (hi := ti3)) ?_ | refine s_go (m_fieldAddr_rd Try.underlying45 (hi := ti3) (hS := hS)) ?_ | refine s_go (m_fieldAddr_vec Try.underlying45 (hi := ti3) (hS := hS)) ?_
  try simp only [opv, n1, n2, n3, n4, Value.cells, Nat.zero_add, Nat.add_zero, List.getElem_toArray, List.getElem_cons_zero, List.getElem_cons_succ]
  first | refine s_go (m_load_obj Try.underlying3 (hS := hS)) ?_ | refine s_go (m_load_bx Try.underlying3 (hS := hS)) ?_ | refine s_go (m_load_rd Try.underlying3 (hS := hS)) ?_ | refine s_go (m_load_vec Try.underlying3 (hS := hS)) ?_
  try simp only [opv, n1, n2, n3, n4, Value.cells, List.getElem_toArray, List.getElem_cons_zero, List.getElem_cons_succ]
  refine x_nil ?_
  refine hK4 _ _ ?_
  refine x_block ?_
  refine x_seq fun K5 hK5 => ?_
  refine x_region ?_
  refine s_go (s_eql) ?_
  try simp only [opv, n1, n2, n3, n4, Value.cells]
  refine s_go (s_assign) ?_
  try simp only [opv, n1, n2, n3, n4, Value.cells]
  refine x_nil ?_
  refine hK5 _ _ ?_
  refine x_cond (ht := fun hc1 => ?_) (hf := fun hc1 => ?_)
  ·
    try simp only [decide_eq_true_eq, decide_eq_false_iff_not, Bool.not_eq_true', Bool.not_eq_false', Int.not_lt, Int.not_le, ne_eq, Decidable.not_not, bne_iff_ne, beq_iff_eq, not_true_eq_false, not_false_eq_true] at hc1
    have h0 : p.d = 0 := hc1
    have hz : rdS p.d p.x p.n e xs = (((numS p.x e xs).1, 0, nm0, []), (numS p.x e xs).2) := by rw [rdS, if_pos h0]
    refine x_region ?_
    refine s_go (s_move) ?_
    try simp only [opv, n1, n2, n3, n4, Value.cells]
    first | refine s_go (m_fieldAddr Try.underlying45 (hi := ti40)) ?_ | refine s_go (m_fieldAddr_rd Try.underlying45 (hi := ti40) (hS := hS)) ?_ | refine s_go (m_fieldAddr_vec Try.underlying45 (hi := ti40) (hS := hS)) ?_
    try simp only [opv, n1, n2, n3, n4, Value.cells, Nat.zero_add, Nat.add_zero, List.getElem_toArray, List.getElem_cons_zero, List.getElem_cons_succ]
    first | refine s_go (m_load_obj Try.underlying40 (hS := hS)) ?_ | refine s_go (m_load_bx Try.underlying40 (hS := hS)) ?_ | refine s_go (m_load_rd Try.underlying40 (hS := hS)) ?_ | refine s_go (m_load_vec Try.underlying40 (hS := hS)) ?_
    try simp only [opv, n1, n2, n3, n4, Value.cells, List.getElem_toArray, List.getElem_cons_zero, List.getElem_cons_succ]
    refine s_call en122 ?_
    try simp only [opv, n1, n2, n3, n4, Value.cells, List.map_toArray, List.map_cons, List.map_nil, List.append_toArray, List.cons_append, List.nil_append, Array.append_empty]
    refine CallR.mono (c_cNum _ g e A c xs hc hw hn p.x hpx (hS.owns (by repeat (first | exact Spl.nil | (apply Spl.cons (by repeat (first | exact Del.head | apply Del.tail))))))) ?_
    rintro _ w5 ⟨rfl, A5, c5, hcp5, hR5, hC5⟩
    have hY5 := RdIn.trans hM hS (by repeat (first | exact Spl.nil | (apply Spl.cons (by repeat (first | exact Del.head | apply Del.tail))))) hR5 (by intro s hs q hb; simp only [List.mem_cons, List.not_mem_nil, or_false] at hs; rcases hs with rfl | rfl <;> first | (simp [Res.reads] at hb; done) | exact .inr ⟨_, List.mem_cons_of_mem _ (List.mem_cons_self ..), .inr hb⟩ | exact hR1 q hb | exact hR2 q hb | exact hR3 q hb | exact hR4 q hb | exact hR5 q hb | exact hR6 q hb | exact hR7 q hb | exact hR8 q hb | exact hR9 q hb | exact hR10 q hb | exact hR11 q hb | exact hR12 q hb | exact hRa q hb | exact hRb q hb | exact hRc q hb | exact hRd q hb | exact hRe q hb | exact hRf q hb | exact hRg q hb | exact hRh q hb)
    replace hS := hS.frame (by repeat (first | exact Spl.nil | (apply Spl.cons (by repeat (first | exact Del.head | apply Del.tail))))) hC5 (by intro r hr b hb; simp only [List.mem_cons, List.not_mem_nil, or_false] at hr; rcases hr with rfl | rfl <;> first | (simp [Res.reads] at hb; done) | exact hR5 b hb)
    replace hR5 := hY5
    simp only [List.cons_append, List.nil_append] at hS
    try simp only [opv, n1, n2, n3, n4, Value.cells]
    first | refine s_go (m_fieldAddr Try.underlying45 (hi := ti40)) ?_ | refine s_go (m_fieldAddr_rd Try.underlying45 (hi := ti40) (hS := hS)) ?_ | refine s_go (m_fieldAddr_vec Try.underlying45 (hi := ti40) (hS := hS)) ?_
    try simp only [opv, n1, n2, n3, n4, Value.cells, Nat.zero_add, Nat.add_zero, List.getElem_toArray, List.getElem_cons_zero, List.getElem_cons_succ]
    first | refine m_store_obj ti40 (hS := hS) (h := fun w6 hS => ?_) | refine m_store_vec ti40 (hS := hS) (h := fun w6 hS => ?_)
    try simp only [opv, n1, n2, n3, n4, Value.cells, Array.toArray_toList] at hS ⊢
    refine x_nil ?_
    refine hK3 _ _ ?_
    refine x_seq fun K6 hK6 => ?_
    refine x_region ?_
    first | refine s_go (m_load_row Try.underlying45 (hi := ti45) (hS := hS)) ?_ | refine s_go (m_loada_obj Try.underlying45 (hi := ti45) (hS := hS)) ?_ | refine s_go (m_loada_bx Try.underlying45 (hi := ti45) (hS := hS)) ?_ | refine s_go (m_loada_rd Try.underlying45 (hi := ti45) (hS := hS)) ?_ | refine s_go (m_loada_vec Try.underlying45 (hi := ti45) (hS := hS)) ?_
    try simp only [opv, n1, n2, n3, n4, Value.cells, List.getElem_toArray, List.getElem_cons_zero, List.getElem_cons_succ]
    first | refine m_store_obj ti45 (hS := hS) (h := fun w7 hS => ?_) | refine m_store_vec ti45 (hS := hS) (h := fun w7 hS => ?_)
    try simp only [opv, n1, n2, n3, n4, Value.cells, Array.toArray_toList] at hS ⊢
    refine x_nil ?_
    refine hK6 _ _ ?_
    refine x_ret ?_
    refine r_cell_agg rfl Try.underlying45 ti45 (hS := hS) (hR := ?_)
    replace hS := hS.nil_vec 5 1
    exact ⟨none, 0, by rw [hz] <;> rfl, _, _, by rw [hz]; assumption, by rw [hz]; assumption, by rw [hz]; exact hS.sel (by repeat (first | exact Sel.nil | (refine Sel.cons (by repeat (first | exact Del.head | apply Del.tail)) ?_)))⟩
  ·
    try simp only [decide_eq_true_eq, decide_eq_false_iff_not, Bool.not_eq_true', Bool.not_eq_false', Int.not_lt, Int.not_le, ne_eq, Decidable.not_not, bne_iff_ne, beq_iff_eq, not_true_eq_false, not_false_eq_true] at hc1
    have h0 : ¬ p.d = 0 := hc1
    refine x_seq fun K7 hK7 => ?_
    refine x_region ?_
    refine s_go (s_eql) ?_
    try simp only [opv, n1, n2, n3, n4, Value.cells]
    refine s_go (s_assign) ?_
    try simp only [opv, n1, n2, n3, n4, Value.cells]
    refine x_nil ?_
    refine hK7 _ _ ?_
    refine x_cond (ht := fun hc2 => ?_) (hf := fun hc2 => ?_)
    ·
      try simp only [decide_eq_true_eq, decide_eq_false_iff_not, Bool.not_eq_true', Bool.not_eq_false', Int.not_lt, Int.not_le, ne_eq, Decidable.not_not, bne_iff_ne, beq_iff_eq, not_true_eq_false, not_false_eq_true] at hc2
      have h1 : p.d = 1 := hc2
      have hz : rdS p.d p.x p.n e xs = ((0, (oneS e xs).1, nm0, []), (oneS e xs).2) := by rw [rdS, if_neg h0, if_pos h1]
      refine x_region ?_
      refine s_go (s_move) ?_
      try simp only [opv, n1, n2, n3, n4, Value.cells]
      refine s_call en123 ?_
      try simp only [opv, n1, n2, n3, n4, Value.cells, List.map_toArray, List.map_cons, List.map_nil, List.append_toArray, List.cons_append, List.nil_append, Array.append_empty]
      refine CallR.mono (c_cByte _ g e A c xs hc hw hn (hS.owns (by repeat (first | exact Spl.nil | (apply Spl.cons (by repeat (first | exact Del.head | apply Del.tail))))))) ?_
      rintro _ w8 ⟨rfl, A8, c8, hcp8, hR8, hC8⟩
      have hY8 := RdIn.trans hM hS (by repeat (first | exact Spl.nil | (apply Spl.cons (by repeat (first | exact Del.head | apply Del.tail))))) hR8 (by intro s hs q hb; simp only [List.mem_cons, List.not_mem_nil, or_false] at hs; rcases hs with rfl | rfl <;> first | (simp [Res.reads] at hb; done) | exact .inr ⟨_, List.mem_cons_of_mem _ (List.mem_cons_self ..), .inr hb⟩ | exact hR1 q hb | exact hR2 q hb | exact hR3 q hb | exact hR4 q hb | exact hR5 q hb | exact hR6 q hb | exact hR7 q hb | exact hR8 q hb | exact hR9 q hb | exact hR10 q hb | exact hR11 q hb | exact hR12 q hb | exact hRa q hb | exact hRb q hb | exact hRc q hb | exact hRd q hb | exact hRe q hb | exact hRf q hb | exact hRg q hb | exact hRh q hb)
      replace hS := hS.frame (by repeat (first | exact Spl.nil | (apply Spl.cons (by repeat (first | exact Del.head | apply Del.tail))))) hC8 (by intro r hr b hb; simp only [List.mem_cons, List.not_mem_nil, or_false] at hr; rcases hr with rfl | rfl <;> first | (simp [Res.reads] at hb; done) | exact hR8 b hb)
      replace hR8 := hY8
      simp only [List.cons_append, List.nil_append] at hS
      try simp only [opv, n1, n2, n3, n4, Value.cells]
      first | refine s_go (m_fieldAddr Try.underlying45 (hi := ti5)) ?_ | refine s_go (m_fieldAddr_rd Try.underlying45 (hi := ti5) (hS := hS)) ?_ | refine s_go (m_fieldAddr_vec Try.underlying45 (hi := ti5) (hS := hS)) ?_
      try simp only [opv, n1, n2, n3, n4, Value.cells, Nat.zero_add, Nat.add_zero, List.getElem_toArray, List.getElem_cons_zero, List.getElem_cons_succ]
      first | refine m_store_obj ti5 (hS := hS) (h := fun w9 hS => ?_) | refine m_store_vec ti5 (hS := hS) (h := fun w9 hS => ?_)
      try simp only [opv, n1, n2, n3, n4, Value.cells, Array.toArray_toList] at hS ⊢
      refine x_nil ?_
      refine hK3 _ _ ?_
      refine x_seq fun K8 hK8 => ?_
      refine x_region ?_
      first | refine s_go (m_load_row Try.underlying45 (hi := ti45) (hS := hS)) ?_ | refine s_go (m_loada_obj Try.underlying45 (hi := ti45) (hS := hS)) ?_ | refine s_go (m_loada_bx Try.underlying45 (hi := ti45) (hS := hS)) ?_ | refine s_go (m_loada_rd Try.underlying45 (hi := ti45) (hS := hS)) ?_ | refine s_go (m_loada_vec Try.underlying45 (hi := ti45) (hS := hS)) ?_
      try simp only [opv, n1, n2, n3, n4, Value.cells, List.getElem_toArray, List.getElem_cons_zero, List.getElem_cons_succ]
      first | refine m_store_obj ti45 (hS := hS) (h := fun w10 hS => ?_) | refine m_store_vec ti45 (hS := hS) (h := fun w10 hS => ?_)
      try simp only [opv, n1, n2, n3, n4, Value.cells, Array.toArray_toList] at hS ⊢
      refine x_nil ?_
      refine hK8 _ _ ?_
      refine x_ret ?_
      refine r_cell_agg rfl Try.underlying45 ti45 (hS := hS) (hR := ?_)
      replace hS := hS.nil_vec 5 1
      exact ⟨none, 0, by rw [hz] <;> rfl, _, _, by rw [hz]; assumption, by rw [hz]; assumption, by rw [hz]; exact hS.sel (by repeat (first | exact Sel.nil | (refine Sel.cons (by repeat (first | exact Del.head | apply Del.tail)) ?_)))⟩
    ·
      try simp only [decide_eq_true_eq, decide_eq_false_iff_not, Bool.not_eq_true', Bool.not_eq_false', Int.not_lt, Int.not_le, ne_eq, Decidable.not_not, bne_iff_ne, beq_iff_eq, not_true_eq_false, not_false_eq_true] at hc2
      have h1 : ¬ p.d = 1 := hc2
      refine x_seq fun K9 hK9 => ?_
      refine x_region ?_
      refine s_go (s_eql) ?_
      try simp only [opv, n1, n2, n3, n4, Value.cells]
      refine s_go (s_assign) ?_
      try simp only [opv, n1, n2, n3, n4, Value.cells]
      refine x_nil ?_
      refine hK9 _ _ ?_
      refine x_cond (ht := fun hc3 => ?_) (hf := fun hc3 => ?_)
      ·
        try simp only [decide_eq_true_eq, decide_eq_false_iff_not, Bool.not_eq_true', Bool.not_eq_false', Int.not_lt, Int.not_le, ne_eq, Decidable.not_not, bne_iff_ne, beq_iff_eq, not_true_eq_false, not_false_eq_true] at hc3
        have h2 : p.d = 2 := hc3
        have hz : rdS p.d p.x p.n e xs = ((0, 0, (namS e xs).1, []), (namS e xs).2) := by rw [rdS, if_neg h0, if_neg h1, if_pos h2]
        refine x_region ?_
        refine s_go (s_move) ?_
        try simp only [opv, n1, n2, n3, n4, Value.cells]
        refine s_call en124 ?_
        try simp only [opv, n1, n2, n3, n4, Value.cells, List.map_toArray, List.map_cons, List.map_nil, List.append_toArray, List.cons_append, List.nil_append, Array.append_empty]
        refine CallR.mono (c_cName _ g e A c xs hc hw hn (hS.owns (by repeat (first | exact Spl.nil | (apply Spl.cons (by repeat (first | exact Del.head | apply Del.tail))))))) ?_
        rintro _ w11 ⟨rfl, A11, c11, hcp11, hR11, hC11⟩
        have hY11 := RdIn.trans hM hS (by repeat (first | exact Spl.nil | (apply Spl.cons (by repeat (first | exact Del.head | apply Del.tail))))) hR11 (by intro s hs q hb; simp only [List.mem_cons, List.not_mem_nil, or_false] at hs; rcases hs with rfl | rfl <;> first | (simp [Res.reads] at hb; done) | exact .inr ⟨_, List.mem_cons_of_mem _ (List.mem_cons_self ..), .inr hb⟩ | exact hR1 q hb | exact hR2 q hb | exact hR3 q hb | exact hR4 q hb | exact hR5 q hb | exact hR6 q hb | exact hR7 q hb | exact hR8 q hb | exact hR9 q hb | exact hR10 q hb | exact hR11 q hb | exact hR12 q hb | exact hRa q hb | exact hRb q hb | exact hRc q hb | exact hRd q hb | exact hRe q hb | exact hRf q hb | exact hRg q hb | exact hRh q hb)
        replace hS := hS.frame (by repeat (first | exact Spl.nil | (apply Spl.cons (by repeat (first | exact Del.head | apply Del.tail))))) hC11 (by intro r hr b hb; simp only [List.mem_cons, List.not_mem_nil, or_false] at hr; rcases hr with rfl | rfl <;> first | (simp [Res.reads] at hb; done) | exact hR11 b hb)
        replace hR11 := hY11
        simp only [List.cons_append, List.nil_append] at hS
        try simp only [opv, n1, n2, n3, n4, Value.cells]
        first | refine s_go (m_fieldAddr Try.underlying45 (hi := ti42)) ?_ | refine s_go (m_fieldAddr_rd Try.underlying45 (hi := ti42) (hS := hS)) ?_ | refine s_go (m_fieldAddr_vec Try.underlying45 (hi := ti42) (hS := hS)) ?_
        try simp only [opv, n1, n2, n3, n4, Value.cells, Nat.zero_add, Nat.add_zero, List.getElem_toArray, List.getElem_cons_zero, List.getElem_cons_succ]
        first | refine m_store_obj ti42 (hS := hS) (hc := pA_nm hnsl) (h := fun w12 hS => ?_) | refine m_store_vec ti42 (hS := hS) (hc := pA_nm hnsl) (h := fun w12 hS => ?_)
        try simp only [opv, n1, n2, n3, n4, Value.cells, Array.toArray_toList] at hS ⊢
        refine x_nil ?_
        refine hK3 _ _ ?_
        refine x_seq fun K10 hK10 => ?_
        refine x_region ?_
        first | refine s_go (m_load_row Try.underlying45 (hi := ti45) (hS := hS)) ?_ | refine s_go (m_loada_obj Try.underlying45 (hi := ti45) (hS := hS)) ?_ | refine s_go (m_loada_bx Try.underlying45 (hi := ti45) (hS := hS)) ?_ | refine s_go (m_loada_rd Try.underlying45 (hi := ti45) (hS := hS)) ?_ | refine s_go (m_loada_vec Try.underlying45 (hi := ti45) (hS := hS)) ?_
        try simp only [opv, n1, n2, n3, n4, Value.cells, List.getElem_toArray, List.getElem_cons_zero, List.getElem_cons_succ]
        first | refine m_store_obj ti45 (hS := hS) (h := fun w13 hS => ?_) | refine m_store_vec ti45 (hS := hS) (h := fun w13 hS => ?_)
        try simp only [opv, n1, n2, n3, n4, Value.cells, Array.toArray_toList] at hS ⊢
        refine x_nil ?_
        refine hK10 _ _ ?_
        refine x_ret ?_
        refine r_cell_agg rfl Try.underlying45 ti45 (hS := hS) (hR := ?_)
        replace hS := hS.nil_vec 5 1
        exact ⟨none, 0, by rw [hz] <;> rfl, _, _, by rw [hz]; assumption, by rw [hz]; assumption, by rw [hz]; exact hS.sel (by repeat (first | exact Sel.nil | (refine Sel.cons (by repeat (first | exact Del.head | apply Del.tail)) ?_)))⟩
      ·
        try simp only [decide_eq_true_eq, decide_eq_false_iff_not, Bool.not_eq_true', Bool.not_eq_false', Int.not_lt, Int.not_le, ne_eq, Decidable.not_not, bne_iff_ne, beq_iff_eq, not_true_eq_false, not_false_eq_true] at hc3
        have h2 : ¬ p.d = 2 := hc3
        have hz : rdS p.d p.x p.n e xs = ((0, 0, nm0, (bytS p.n.toNat e xs).1), (bytS p.n.toNat e xs).2) := by rw [rdS, if_neg h0, if_neg h1, if_neg h2]
        refine x_region ?_
        refine s_go (s_move) ?_
        try simp only [opv, n1, n2, n3, n4, Value.cells]
        first | refine s_go (m_fieldAddr Try.underlying45 (hi := ti3)) ?_ | refine s_go (m_fieldAddr_rd Try.underlying45 (hi := ti3) (hS := hS)) ?_ | refine s_go (m_fieldAddr_vec Try.underlying45 (hi := ti3) (hS := hS)) ?_
        try simp only [opv, n1, n2, n3, n4, Value.cells, Nat.zero_add, Nat.add_zero, List.getElem_toArray, List.getElem_cons_zero, List.getElem_cons_succ]
        first | refine s_go (m_load_obj Try.underlying3 (hS := hS)) ?_ | refine s_go (m_load_bx Try.underlying3 (hS := hS)) ?_ | refine s_go (m_load_rd Try.underlying3 (hS := hS)) ?_ | refine s_go (m_load_vec Try.underlying3 (hS := hS)) ?_
        try simp only [opv, n1, n2, n3, n4, Value.cells, List.getElem_toArray, List.getElem_cons_zero, List.getElem_cons_succ]
        refine s_call en125 ?_
        try simp only [opv, n1, n2, n3, n4, Value.cells, List.map_toArray, List.map_cons, List.map_nil, List.append_toArray, List.cons_append, List.nil_append, Array.append_empty]
        refine CallR.mono (c_cBytes _ g e A c xs hc hw hn p.n hpn (hS.owns (by repeat (first | exact Spl.nil | (apply Spl.cons (by repeat (first | exact Del.head | apply Del.tail))))))) ?_
        rintro _ w14 ⟨B14, d14, rfl, A14, c14, hcp14, hR14, hC14⟩
        have hY14 := RdIn.trans hM hS (by repeat (first | exact Spl.nil | (apply Spl.cons (by repeat (first | exact Del.head | apply Del.tail))))) hR14 (by intro s hs q hb; simp only [List.mem_cons, List.not_mem_nil, or_false] at hs; rcases hs with rfl | rfl <;> first | (simp [Res.reads] at hb; done) | exact .inr ⟨_, List.mem_cons_of_mem _ (List.mem_cons_self ..), .inr hb⟩ | exact hR1 q hb | exact hR2 q hb | exact hR3 q hb | exact hR4 q hb | exact hR5 q hb | exact hR6 q hb | exact hR7 q hb | exact hR8 q hb | exact hR9 q hb | exact hR10 q hb | exact hR11 q hb | exact hR12 q hb | exact hRa q hb | exact hRb q hb | exact hRc q hb | exact hRd q hb | exact hRe q hb | exact hRf q hb | exact hRg q hb | exact hRh q hb)
        replace hS := hS.frame (by repeat (first | exact Spl.nil | (apply Spl.cons (by repeat (first | exact Del.head | apply Del.tail))))) hC14 (by intro r hr b hb; simp only [List.mem_cons, List.not_mem_nil, or_false] at hr; rcases hr with rfl | rfl | rfl <;> first | (simp [Res.reads] at hb; done) | exact hR14 b hb)
        replace hR14 := hY14
        simp only [List.cons_append, List.nil_append] at hS
        try simp only [opv, n1, n2, n3, n4, Value.cells]
        first | refine s_go (m_fieldAddr Try.underlying45 (hi := ti43)) ?_ | refine s_go (m_fieldAddr_rd Try.underlying45 (hi := ti43) (hS := hS)) ?_ | refine s_go (m_fieldAddr_vec Try.underlying45 (hi := ti43) (hS := hS)) ?_
        try simp only [opv, n1, n2, n3, n4, Value.cells, Nat.zero_add, Nat.add_zero, List.getElem_toArray, List.getElem_cons_zero, List.getElem_cons_succ]
        first | refine m_store_obj ti43 (hS := hS) (h := fun w15 hS => ?_) | refine m_store_vec ti43 (hS := hS) (h := fun w15 hS => ?_)
        try simp only [opv, n1, n2, n3, n4, Value.cells, Array.toArray_toList] at hS ⊢
        refine x_nil ?_
        refine hK3 _ _ ?_
        refine x_seq fun K11 hK11 => ?_
        refine x_region ?_
        first | refine s_go (m_load_row Try.underlying45 (hi := ti45) (hS := hS)) ?_ | refine s_go (m_loada_obj Try.underlying45 (hi := ti45) (hS := hS)) ?_ | refine s_go (m_loada_bx Try.underlying45 (hi := ti45) (hS := hS)) ?_ | refine s_go (m_loada_rd Try.underlying45 (hi := ti45) (hS := hS)) ?_ | refine s_go (m_loada_vec Try.underlying45 (hi := ti45) (hS := hS)) ?_
        try simp only [opv, n1, n2, n3, n4, Value.cells, List.getElem_toArray, List.getElem_cons_zero, List.getElem_cons_succ]
        first | refine m_store_obj ti45 (hS := hS) (h := fun w16 hS => ?_) | refine m_store_vec ti45 (hS := hS) (h := fun w16 hS => ?_)
        try simp only [opv, n1, n2, n3, n4, Value.cells, Array.toArray_toList] at hS ⊢
        refine x_nil ?_
        refine hK11 _ _ ?_
        refine x_ret ?_
        refine r_cell_agg rfl Try.underlying45 ti45 (hS := hS) (hR := ?_)
        exact ⟨_, _, by rw [hz] <;> rfl, _, _, by rw [hz]; assumption, by rw [hz]; assumption, by rw [hz]; exact hS.sel (by repeat (first | exact Sel.nil | (refine Sel.cons (by repeat (first | exact Del.head | apply Del.tail)) ?_)))⟩

theorem c_ref07Same (w0 : World) (d : Int) (x : Nat) (cc : Int) (nm : List Int) (na nb : Int) (A B : Option Addr) (m k k2 : Nat) (b : List Int) (ha : Rd w0 A 1 m (b.map (Value.int .u8))) (hb : Rd w0 B 1 m (b.map (Value.int .u8))) (hbl : b.length = m) (hbm : m ≤ 1000000000)  :
    CallR Try.prog 36 #[.agg (pA d x cc nm A m k na), .agg (pA d x cc nm B m k2 nb)] w0 fun v w' => v = .bool true ∧ Ext w0 w' := by
  have hS := St.rd2 (S := NoB) ha hb
  refine c_enter (l := [.agg (pA d x cc nm A m k na), .agg (pA d x cc nm B m k2 nb), undef, undef, undef, undef, undef, undef, undef, undef, undef, undef, undef, undef, undef, undef, undef, undef, undef, undef, undef, undef, undef, undef, undef, undef, undef, undef, undef, undef, undef, undef, undef, undef, undef, undef, undef, undef]) Try.func36 rfl (by simp only [Try.ntmps36, List.size_toArray, List.length_cons, List.length_nil, Nat.reduceAdd, Nat.reduceSub, Array.replicate_succ, Array.replicate_zero, List.push_toArray, List.append_toArray, List.nil_append, List.cons_append]) ?_
  refine x_seq fun K1 hK1 => ?_
  refine x_region ?_
  refine m_box hS (fun w1 g1 hS => ?_)
  try simp only [opv, n1, n2, n3, n4, Value.cells, Array.toArray_toList] at hS ⊢
  refine m_box hS (fun w2 g2 hS => ?_)
  try simp only [opv, n1, n2, n3, n4, Value.cells, Array.toArray_toList] at hS ⊢
  refine s_go (s_assign) ?_
  try simp only [opv, n1, n2, n3, n4, Value.cells]
  refine x_nil ?_
  refine hK1 _ _ ?_
  refine x_seq fun K2 hK2 => ?_
  refine x_region ?_
  first | refine s_go (m_fieldAddr Try.underlying45 (hi := ti3)) ?_ | refine s_go (m_fieldAddr_rd Try.underlying45 (hi := ti3) (hS := hS)) ?_ | refine s_go (m_fieldAddr_vec Try.underlying45 (hi := ti3) (hS := hS)) ?_
  try simp only [opv, n1, n2, n3, n4, Value.cells, Nat.zero_add, Nat.add_zero, List.getElem_toArray, List.getElem_cons_zero, List.getElem_cons_succ]
  first | refine s_go (m_load_obj Try.underlying3 (hS := hS)) ?_ | refine s_go (m_load_bx Try.underlying3 (hS := hS)) ?_ | refine s_go (m_load_rd Try.underlying3 (hS := hS)) ?_ | refine s_go (m_load_vec Try.underlying3 (hS := hS)) ?_
  try simp only [opv, n1, n2, n3, n4, Value.cells, List.getElem_toArray, List.getElem_cons_zero, List.getElem_cons_succ]
  first | refine s_go (m_fieldAddr Try.underlying45 (hi := ti3)) ?_ | refine s_go (m_fieldAddr_rd Try.underlying45 (hi := ti3) (hS := hS)) ?_ | refine s_go (m_fieldAddr_vec Try.underlying45 (hi := ti3) (hS := hS)) ?_
  try simp only [opv, n1, n2, n3, n4, Value.cells, Nat.zero_add, Nat.add_zero, List.getElem_toArray, List.getElem_cons_zero, List.getElem_cons_succ]
  first | refine s_go (m_load_obj Try.underlying3 (hS := hS)) ?_ | refine s_go (m_load_bx Try.underlying3 (hS := hS)) ?_ | refine s_go (m_load_rd Try.underlying3 (hS := hS)) ?_ | refine s_go (m_load_vec Try.underlying3 (hS := hS)) ?_
  try simp only [opv, n1, n2, n3, n4, Value.cells, List.getElem_toArray, List.getElem_cons_zero, List.getElem_cons_succ]
  refine s_go (s_eql) ?_
  try simp only [opv, n1, n2, n3, n4, Value.cells]
  try simp only [eq_self, decide_true, beq_self_eq_true, Bool.and_self]
  refine s_go (s_move) ?_
  try simp only [opv, n1, n2, n3, n4, Value.cells]
  refine g_on (yi (t := 10) rfl rfl) ?_
  first | refine s_go (m_fieldAddr Try.underlying45 (hi := ti40)) ?_ | refine s_go (m_fieldAddr_rd Try.underlying45 (hi := ti40) (hS := hS)) ?_ | refine s_go (m_fieldAddr_vec Try.underlying45 (hi := ti40) (hS := hS)) ?_
  try simp only [opv, n1, n2, n3, n4, Value.cells, Nat.zero_add, Nat.add_zero, List.getElem_toArray, List.getElem_cons_zero, List.getElem_cons_succ]
  refine g_on (yi (t := 10) rfl rfl) ?_
  first | refine s_go (m_load_obj Try.underlying40 (hS := hS)) ?_ | refine s_go (m_load_bx Try.underlying40 (hS := hS)) ?_ | refine s_go (m_load_rd Try.underlying40 (hS := hS)) ?_ | refine s_go (m_load_vec Try.underlying40 (hS := hS)) ?_
  try simp only [opv, n1, n2, n3, n4, Value.cells, List.getElem_toArray, List.getElem_cons_zero, List.getElem_cons_succ]
  refine g_on (yi (t := 10) rfl rfl) ?_
  first | refine s_go (m_fieldAddr Try.underlying45 (hi := ti40)) ?_ | refine s_go (m_fieldAddr_rd Try.underlying45 (hi := ti40) (hS := hS)) ?_ | refine s_go (m_fieldAddr_vec Try.underlying45 (hi := ti40) (hS := hS)) ?_
  try simp only [opv, n1, n2, n3, n4, Value.cells, Nat.zero_add, Nat.add_zero, List.getElem_toArray, List.getElem_cons_zero, List.getElem_cons_succ]
  refine g_on (yi (t := 10) rfl rfl) ?_
  first | refine s_go (m_load_obj Try.underlying40 (hS := hS)) ?_ | refine s_go (m_load_bx Try.underlying40 (hS := hS)) ?_ | refine s_go (m_load_rd Try.underlying40 (hS := hS)) ?_ | refine s_go (m_load_vec Try.underlying40 (hS := hS)) ?_
  try simp only [opv, n1, n2, n3, n4, Value.cells, List.getElem_toArray, List.getElem_cons_zero, List.getElem_cons_succ]
  refine g_on (yi (t := 10) rfl rfl) ?_
  refine s_go (s_eql) ?_
  try simp only [opv, n1, n2, n3, n4, Value.cells]
  try simp only [eq_self, decide_true, beq_self_eq_true, Bool.and_self]
  first | refine s_go (s_pick_t) ?_ | refine s_go (s_pick_f) ?_
  try simp only [opv, n1, n2, n3, n4, Value.cells]
  refine s_go (s_move) ?_
  try simp only [opv, n1, n2, n3, n4, Value.cells]
  refine g_on (yi (t := 17) rfl rfl) ?_
  first | refine s_go (m_fieldAddr Try.underlying45 (hi := ti5)) ?_ | refine s_go (m_fieldAddr_rd Try.underlying45 (hi := ti5) (hS := hS)) ?_ | refine s_go (m_fieldAddr_vec Try.underlying45 (hi := ti5) (hS := hS)) ?_
  try simp only [opv, n1, n2, n3, n4, Value.cells, Nat.zero_add, Nat.add_zero, List.getElem_toArray, List.getElem_cons_zero, List.getElem_cons_succ]
  refine g_on (yi (t := 17) rfl rfl) ?_
  first | refine s_go (m_load_obj Try.underlying5 (hS := hS)) ?_ | refine s_go (m_load_bx Try.underlying5 (hS := hS)) ?_ | refine s_go (m_load_rd Try.underlying5 (hS := hS)) ?_ | refine s_go (m_load_vec Try.underlying5 (hS := hS)) ?_
  try simp only [opv, n1, n2, n3, n4, Value.cells, List.getElem_toArray, List.getElem_cons_zero, List.getElem_cons_succ]
  refine g_on (yi (t := 17) rfl rfl) ?_
  first | refine s_go (m_fieldAddr Try.underlying45 (hi := ti5)) ?_ | refine s_go (m_fieldAddr_rd Try.underlying45 (hi := ti5) (hS := hS)) ?_ | refine s_go (m_fieldAddr_vec Try.underlying45 (hi := ti5) (hS := hS)) ?_
  try simp only [opv, n1, n2, n3, n4, Value.cells, Nat.zero_add, Nat.add_zero, List.getElem_toArray, List.getElem_cons_zero, List.getElem_cons_succ]
  refine g_on (yi (t := 17) rfl rfl) ?_
  first | refine s_go (m_load_obj Try.underlying5 (hS := hS)) ?_ | refine s_go (m_load_bx Try.underlying5 (hS := hS)) ?_ | refine s_go (m_load_rd Try.underlying5 (hS := hS)) ?_ | refine s_go (m_load_vec Try.underlying5 (hS := hS)) ?_
  try simp only [opv, n1, n2, n3, n4, Value.cells, List.getElem_toArray, List.getElem_cons_zero, List.getElem_cons_succ]
  refine g_on (yi (t := 17) rfl rfl) ?_
  refine s_go (s_eql) ?_
  try simp only [opv, n1, n2, n3, n4, Value.cells]
  try simp only [eq_self, decide_true, beq_self_eq_true, Bool.and_self]
  first | refine s_go (s_pick_t) ?_ | refine s_go (s_pick_f) ?_
  try simp only [opv, n1, n2, n3, n4, Value.cells]
  refine s_go (s_move) ?_
  try simp only [opv, n1, n2, n3, n4, Value.cells]
  refine g_on (yi (t := 24) rfl rfl) ?_
  first | refine s_go (m_fieldAddr Try.underlying45 (hi := ti42)) ?_ | refine s_go (m_fieldAddr_rd Try.underlying45 (hi := ti42) (hS := hS)) ?_ | refine s_go (m_fieldAddr_vec Try.underlying45 (hi := ti42) (hS := hS)) ?_
  try simp only [opv, n1, n2, n3, n4, Value.cells, Nat.zero_add, Nat.add_zero, List.getElem_toArray, List.getElem_cons_zero, List.getElem_cons_succ]
  refine g_on (yi (t := 24) rfl rfl) ?_
  first | refine s_go (m_load_row Try.underlying42 (hi := ti42) (hS := hS)) ?_ | refine s_go (m_loada_obj Try.underlying42 (hi := ti42) (hS := hS)) ?_ | refine s_go (m_loada_bx Try.underlying42 (hi := ti42) (hS := hS)) ?_ | refine s_go (m_loada_rd Try.underlying42 (hi := ti42) (hS := hS)) ?_ | refine s_go (m_loada_vec Try.underlying42 (hi := ti42) (hS := hS)) ?_
  try simp only [opv, n1, n2, n3, n4, Value.cells, List.getElem_toArray, List.getElem_cons_zero, List.getElem_cons_succ]
  refine g_on (yi (t := 24) rfl rfl) ?_
  first | refine s_go (m_fieldAddr Try.underlying45 (hi := ti42)) ?_ | refine s_go (m_fieldAddr_rd Try.underlying45 (hi := ti42) (hS := hS)) ?_ | refine s_go (m_fieldAddr_vec Try.underlying45 (hi := ti42) (hS := hS)) ?_
  try simp only [opv, n1, n2, n3, n4, Value.cells, Nat.zero_add, Nat.add_zero, List.getElem_toArray, List.getElem_cons_zero, List.getElem_cons_succ]
  refine g_on (yi (t := 24) rfl rfl) ?_
  first | refine s_go (m_load_row Try.underlying42 (hi := ti42) (hS := hS)) ?_ | refine s_go (m_loada_obj Try.underlying42 (hi := ti42) (hS := hS)) ?_ | refine s_go (m_loada_bx Try.underlying42 (hi := ti42) (hS := hS)) ?_ | refine s_go (m_loada_rd Try.underlying42 (hi := ti42) (hS := hS)) ?_ | refine s_go (m_loada_vec Try.underlying42 (hi := ti42) (hS := hS)) ?_
  try simp only [opv, n1, n2, n3, n4, Value.cells, List.getElem_toArray, List.getElem_cons_zero, List.getElem_cons_succ]
  refine g_on (yi (t := 24) rfl rfl) ?_
  refine s_go (s_eql_agg (xs := [_, _, _, _, _, _, _, _]) (ys := [_, _, _, _, _, _, _, _]) eqv42 (hg := eg42) (hX := rfl) (hY := rfl) (h1 := rfl) (h2 := rfl)) ?_
  try simp only [opv, n1, n2, n3, n4, Value.cells]
  try simp only [eq_self, decide_true, beq_self_eq_true, Bool.and_self]
  first | refine s_go (s_pick_t) ?_ | refine s_go (s_pick_f) ?_
  try simp only [opv, n1, n2, n3, n4, Value.cells]
  refine s_go (s_move) ?_
  try simp only [opv, n1, n2, n3, n4, Value.cells]
  refine g_on (yi (t := 31) rfl rfl) ?_
  first | refine s_go (m_fieldAddr Try.underlying45 (hi := ti43)) ?_ | refine s_go (m_fieldAddr_rd Try.underlying45 (hi := ti43) (hS := hS)) ?_ | refine s_go (m_fieldAddr_vec Try.underlying45 (hi := ti43) (hS := hS)) ?_
  try simp only [opv, n1, n2, n3, n4, Value.cells, Nat.zero_add, Nat.add_zero, List.getElem_toArray, List.getElem_cons_zero, List.getElem_cons_succ]
  refine g_on (yi (t := 31) rfl rfl) ?_
  first | refine s_go (m_load_obj Try.underlying43 (hS := hS)) ?_ | refine s_go (m_load_bx Try.underlying43 (hS := hS)) ?_ | refine s_go (m_load_rd Try.underlying43 (hS := hS)) ?_ | refine s_go (m_load_vec Try.underlying43 (hS := hS)) ?_
  try simp only [opv, n1, n2, n3, n4, Value.cells, List.getElem_toArray, List.getElem_cons_zero, List.getElem_cons_succ]
  refine g_on (yi (t := 31) rfl rfl) ?_
  first | refine s_go (m_fieldAddr Try.underlying45 (hi := ti43)) ?_ | refine s_go (m_fieldAddr_rd Try.underlying45 (hi := ti43) (hS := hS)) ?_ | refine s_go (m_fieldAddr_vec Try.underlying45 (hi := ti43) (hS := hS)) ?_
  try simp only [opv, n1, n2, n3, n4, Value.cells, Nat.zero_add, Nat.add_zero, List.getElem_toArray, List.getElem_cons_zero, List.getElem_cons_succ]
  refine g_on (yi (t := 31) rfl rfl) ?_
  first | refine s_go (m_load_obj Try.underlying43 (hS := hS)) ?_ | refine s_go (m_load_bx Try.underlying43 (hS := hS)) ?_ | refine s_go (m_load_rd Try.underlying43 (hS := hS)) ?_ | refine s_go (m_load_vec Try.underlying43 (hS := hS)) ?_
  try simp only [opv, n1, n2, n3, n4, Value.cells, List.getElem_toArray, List.getElem_cons_zero, List.getElem_cons_succ]
  refine g_on (yi (t := 31) rfl rfl) ?_
  refine s_call en34 ?_
  try simp only [opv, n1, n2, n3, n4, Value.cells, List.map_toArray, List.map_cons, List.map_nil, List.append_toArray, List.cons_append, List.nil_append, Array.append_empty]
  refine CallR.mono (c_ref03Same _ _ _ _ _ _ _ _ _ (hS.hasRd (by repeat (first | exact Has.head | apply Has.tail))) (hS.hasRd (by repeat (first | exact Has.head | apply Has.tail))) (hbl) (hbl) (by first | omega | (simp; done))) ?_
  rintro _ w3 ⟨rfl, hE3⟩
  replace hS := hS.ext hE3
  try simp only [opv, n1, n2, n3, n4, Value.cells]
  try simp only [eq_self, decide_true, beq_self_eq_true, Bool.and_self]
  first | refine s_go (s_pick_t) ?_ | refine s_go (s_pick_f) ?_
  try simp only [opv, n1, n2, n3, n4, Value.cells]
  refine s_go (s_assign) ?_
  try simp only [opv, n1, n2, n3, n4, Value.cells]
  refine x_nil ?_
  refine hK2 _ _ ?_
  refine x_ret ?_
  refine r_tmp rfl ?_
  exact ⟨rfl, hS.ext_of⟩
end Go.Proofs.Ytpjpaipkkcengaa
