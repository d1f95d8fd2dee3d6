/- Contracts of functions, printed by a program of this seat (wip/tools/gen.py) out of its specs. -/
import Derived.Test.YtpjpaipkkcengaaCw
set_option linter.unusedSimpArgs false
set_option linter.unusedVariables false
set_option maxHeartbeats 4000000
set_option maxRecDepth 100000
namespace Go.Proofs.Ytpjpaipkkcengaa
open Go.RowKit

theorem c_VecCounts (w0 : World) (A : Option Addr) (n c : Nat) (l : List (List Int)) (hr : Rd w0 A 16 n (vrows l)) (hl : l.length = n) (hv : ∀ x ∈ l, x.length = 16) (hn : n ≤ 9000000000000000) (hnc : n ≤ c)  :
    CallR Try.prog 3 #[.slice A n c] w0 fun v w' => v = .bool true ∧ Ext w0 w' := by
  have hS := St.rd1 (S := NoB) hr
  have hvl := vrows_len l
  refine c_enter (l := [.slice A n c, undef, undef, undef, undef, undef, undef, undef, undef, undef, undef, undef, undef, undef, undef, undef, undef, undef, undef, undef, undef, undef, undef, undef, undef, undef, undef, undef, undef, undef, undef, undef, undef, undef, undef, undef, undef, undef, undef, undef, undef, undef, undef, undef, undef, undef, undef, undef, undef, undef, undef, undef, undef, undef, undef, undef, undef, undef, undef, undef, undef, undef, undef, undef, undef, undef, undef, undef, undef, undef, undef]) Try.func3 rfl (by simp only [Try.ntmps3, List.size_toArray, List.length_cons, List.length_nil, Nat.reduceAdd, Nat.reduceSub, Array.replicate_succ, Array.replicate_zero, List.push_toArray, List.append_toArray, List.nil_append, List.cons_append]) ?_
  refine x_seq fun K1 hK1 => ?_
  refine x_region ?_
  refine s_go (s_assign) ?_
  try simp only [opv, n1, n2, n3, n4, Value.cells]
  refine x_nil ?_
  refine hK1 _ _ ?_
  refine x_seq fun K2 hK2 => ?_
  refine x_seq fun K3 hK3 => ?_
  refine x_region ?_
  refine s_go (s_move) ?_
  try simp only [opv, n1, n2, n3, n4, Value.cells]
  refine s_go (s_len_sl Try.underlying22) ?_
  try simp only [opv, n1, n2, n3, n4, Value.cells]
  refine s_go (s_gtr) ?_
  try simp only [opv, n1, n2, n3, n4, Value.cells]
  refine x_nil ?_
  refine hK3 _ _ ?_
  refine x_cond (ht := fun hc1 => ?_) (hf := fun hc1 => ?_)
  ·
    try simp only [decide_eq_true_eq, decide_eq_false_iff_not, Bool.not_eq_true', Bool.not_eq_false', Int.not_lt, Int.not_le, ne_eq, Decidable.not_not, bne_iff_ne, beq_iff_eq, not_true_eq_false, not_false_eq_true] at hc1
    refine x_seq fun K4 hK4 => ?_
    refine x_region ?_
    refine s_call en20 ?_
    try simp only [opv, n1, n2, n3, n4, Value.cells, List.map_toArray, List.map_cons, List.map_nil, List.append_toArray, List.cons_append, List.nil_append, Array.append_empty]
    refine CallR.mono (c_law12alive _) ?_
    rintro _ w1 ⟨rfl, hE1⟩
    replace hS := hS.ext hE1
    try simp only [opv, n1, n2, n3, n4, Value.cells]
    refine s_go (s_assign) ?_
    try simp only [opv, n1, n2, n3, n4, Value.cells]
    refine x_nil ?_
    refine hK4 _ _ ?_
    refine x_ret ?_
    refine r_tmp rfl ?_
    exact ⟨rfl, hS.ext_of⟩
  ·
    try simp only [decide_eq_true_eq, decide_eq_false_iff_not, Bool.not_eq_true', Bool.not_eq_false', Int.not_lt, Int.not_le, ne_eq, Decidable.not_not, bne_iff_ne, beq_iff_eq, not_true_eq_false, not_false_eq_true] at hc1
    have hn20 : n ≤ 20 := by omega
    refine x_skip ?_
    refine hK2 _ _ ?_
    refine x_seq fun K5 hK5 => ?_
    refine x_region ?_
    refine s_go (s_assign) ?_
    try simp only [opv, n1, n2, n3, n4, Value.cells]
    refine x_nil ?_
    refine hK5 _ _ ?_
    refine x_seq fun K6 hK6 => ?_
    refine x_seq fun K7 hK7 => ?_
    refine x_region ?_
    refine s_go (s_assign) ?_
    try simp only [opv, n1, n2, n3, n4, Value.cells]
    refine x_nil ?_
    refine hK7 _ _ ?_
    refine x_block ?_
    refine x_loop [3, 4, 12, 13, 14, 15, 16, 17, 18, 19, 20, 21, 22, 23, 24] (fun m f w => ∃ (k : Nat) (B : Option Addr) (d : Nat), k ≤ n ∧ m = n - k ∧ f 4 = .int .i64 (k : Int) ∧ f 3 = .slice B k d ∧ St NoB w0 w [.vec B d 27 16 k (vrows (l.take k)), .rd A 16 n (vrows l)]) (n) ?init1 (fun m1 f1 wl1 hI => ?_)
    case init1 =>
      try simp only [opv, n1, n2, n3, n4, Value.cells]
      replace hS := hS.nil_vec 27 16
      exact ⟨0, none, 0, by omega, rfl, rfl, rfl, hS⟩
    obtain ⟨k, B, d, hk, hm, h4, h3, hS⟩ := hI
    simp only [clob, List.foldl, n3, n4, h4, h3]
    obtain ⟨x, hx⟩ : ∃ x, l.getD k [] = x := ⟨_, rfl⟩
    refine x_seq fun K8 hK8 => ?_
    refine x_seq fun K9 hK9 => ?_
    refine x_region ?_
    refine s_go (s_move) ?_
    try simp only [opv, n1, n2, n3, n4, Value.cells]
    refine s_go (s_move) ?_
    try simp only [opv, n1, n2, n3, n4, Value.cells]
    refine s_go (s_len_sl Try.underlying22) ?_
    try simp only [opv, n1, n2, n3, n4, Value.cells]
    refine s_go (s_lss) ?_
    try simp only [opv, n1, n2, n3, n4, Value.cells]
    refine x_nil ?_
    refine hK9 _ _ ?_
    refine x_cond (ht := fun hc2 => ?_) (hf := fun hc2 => ?_)
    ·
      try simp only [decide_eq_true_eq, decide_eq_false_iff_not, Bool.not_eq_true', Bool.not_eq_false', Int.not_lt, Int.not_le, ne_eq, Decidable.not_not, bne_iff_ne, beq_iff_eq, not_true_eq_false, not_false_eq_true] at hc2
      have hx16 : x.length = 16 := by rw [← hx]; exact hv _ (getD_mem' (by omega))
      refine x_skip ?_
      refine hK8 _ _ ?_
      refine x_seq fun K10 hK10 => ?_
      refine x_block ?_
      refine x_region ?_
      refine s_go (s_move) ?_
      try simp only [opv, n1, n2, n3, n4, Value.cells]
      refine s_go (s_move) ?_
      try simp only [opv, n1, n2, n3, n4, Value.cells]
      refine s_go (s_move) ?_
      try simp only [opv, n1, n2, n3, n4, Value.cells]
      first | refine s_go (m_indexAddr_rd Try.underlying22 ti26 (hS := hS)) ?_ | refine s_go (m_indexAddr_vec Try.underlying22 ti26 (hS := hS)) ?_
      try simp only [opv, n1, n2, n3, n4, Value.cells, Nat.mul_one, Nat.zero_add, Int.toNat_natCast, Int.reduceToNat]
      first | refine s_go (m_load_row Try.underlying26 (hi := ti26) (hS := hS) (hfit := by rw [vrows_len]; omega)) ?_ | refine s_go (m_loada_obj Try.underlying26 (hi := ti26) (hS := hS) (hfit := by rw [vrows_len]; omega)) ?_ | refine s_go (m_loada_bx Try.underlying26 (hi := ti26) (hS := hS) (hfit := by rw [vrows_len]; omega)) ?_ | refine s_go (m_loada_rd Try.underlying26 (hi := ti26) (hS := hS) (hfit := by rw [vrows_len]; omega)) ?_ | refine s_go (m_loada_vec Try.underlying26 (hi := ti26) (hS := hS) (hfit := by rw [vrows_len]; omega)) ?_
      try simp only [opv, n1, n2, n3, n4, Value.cells, List.getElem_toArray, List.getElem_cons_zero, List.getElem_cons_succ]
      rw [vrow_get (by omega) hv, hx]
      refine m_buildRow (cells := ic .u32 x) Try.underlying24 ti27 (hc := by simp only [List.map_toArray, List.map_cons, List.map_nil, opv, n1, n2, n3, n4, Value.cells, List.toList_toArray]; exact fill_one rfl (by rw [ic_size]; exact hx16) rfl) (hS := hS) (h := fun w2 g2 hS => ?_)
      try simp only [opv, n1, n2, n3, n4, Value.cells, Array.toArray_toList] at hS ⊢
      replace hS := hS.obj_rd (sz := 16) (n := 1) (by rw [ic_size, hx16]) .head
      rw [vrow_one hx16] at hS
      refine m_append Try.underlying24 ti27 (hS := hS) (h1 := rowsZ_cells _ _) (h := fun w3 A3 C3 hS => ?_)
      try simp only [← List.map_append, ← List.map_drop, ← List.map_take, Nat.mul_one, Nat.zero_mul, Nat.sub_zero, List.drop_zero, List.nil_append, Nat.zero_add] at hS ⊢
      try simp only [opv, n1, n2, n3, n4, Value.cells, Array.toArray_toList] at hS ⊢
      refine s_go (s_assign) ?_
      try simp only [opv, n1, n2, n3, n4, Value.cells]
      refine x_nil ?_
      refine hK10 _ _ ?_
      refine x_region ?_
      refine s_go (s_move) ?_
      try simp only [opv, n1, n2, n3, n4, Value.cells]
      refine s_go (s_add (hc := by first | exact wr_i64 (by omega) (by omega) | rfl)) ?_
      try simp only [opv, n1, n2, n3, n4, Value.cells]
      refine s_go (s_assign) ?_
      try simp only [opv, n1, n2, n3, n4, Value.cells]
      refine x_nil ?_
      refine loop_back (m' := n - (k + 1)) (by simp only [clob, List.foldl, n1, n2, n3, n4]) ?_ ?_
      · try simp only [opv, n1, n2, n3, n4, Value.cells]
        rw [← rowsZ_app, ← hx, ← take_snoc (by omega)] at hS
        exact ⟨k + 1, _, _, by omega, by omega, by rfl, by rfl, hS.sel (by repeat (first | exact Sel.nil | (refine Sel.cons (by repeat (first | exact Del.head | apply Del.tail)) ?_)))⟩
      · omega
    ·
      try simp only [decide_eq_true_eq, decide_eq_false_iff_not, Bool.not_eq_true', Bool.not_eq_false', Int.not_lt, Int.not_le, ne_eq, Decidable.not_not, bne_iff_ne, beq_iff_eq, not_true_eq_false, not_false_eq_true] at hc2
      obtain rfl : k = n := by omega
      rw [List.take_of_length_le (by omega)] at hS
      replace hS := hS.vec_rd (by exact Upd.head)
      refine x_exit (look_here ?_)
      refine hK6 _ _ ?_
      refine x_seq fun K11 hK11 => ?_
      refine x_region ?_
      refine s_go (s_move) ?_
      try simp only [opv, n1, n2, n3, n4, Value.cells]
      refine s_call en21 ?_
      try simp only [opv, n1, n2, n3, n4, Value.cells, List.map_toArray, List.map_cons, List.map_nil, List.append_toArray, List.cons_append, List.nil_append, Array.append_empty]
      refine CallR.mono (c_vecCount _ B k d l (hS.hasRd (by repeat (first | exact Has.head | apply Has.tail))) hl hv (by omega)) ?_
      rintro _ w4 ⟨g, rfl, hC4⟩
      replace hS := hS.call hC4
      simp only [List.cons_append, List.nil_append] at hS
      have hok : MOk (fun xs : List Int => xs.length = 16) (cntR l.reverse) := cnt_ok (fun y hy => hv y (List.mem_reverse.1 hy))
      try simp only [opv, n1, n2, n3, n4, Value.cells]
      refine s_go (s_assign) ?_
      try simp only [opv, n1, n2, n3, n4, Value.cells]
      refine x_nil ?_
      refine hK11 _ _ ?_
      refine x_seq fun K12 hK12 => ?_
      refine x_region ?_
      refine s_go (s_assign) ?_
      try simp only [opv, n1, n2, n3, n4, Value.cells]
      refine x_nil ?_
      refine hK12 _ _ ?_
      refine x_seq fun K13 hK13 => ?_
      refine x_seq fun K14 hK14 => ?_
      refine x_region ?_
      refine s_go (s_assign) ?_
      try simp only [opv, n1, n2, n3, n4, Value.cells]
      refine x_nil ?_
      refine hK14 _ _ ?_
      refine x_block ?_
      refine x_loop [2, 6, 7, 27, 28, 29, 30, 31, 32, 33, 34, 35, 36, 37, 38, 39, 40, 41, 42, 43, 44, 45, 46, 47, 48, 49, 50, 51, 52, 53, 54, 55, 56] (fun m f w => ∃ j : Nat, j ≤ k ∧ m = k - j ∧ f 7 = .int .i64 (j : Int) ∧ f 6 = .int .i64 ((cntR (l.take j).reverse).length : Int) ∧ St NoB w0 w [.obj g (mObj kv27 (cntR l.reverse)), .rd B 16 k (vrows l), .rd A 16 k (vrows l)]) (k) ?init2 (fun m2 f2 wl2 hI => ?_)
      case init2 =>
        try simp only [opv, n1, n2, n3, n4, Value.cells]
        exact ⟨0, by omega, rfl, rfl, rfl, hS⟩
      obtain ⟨j, hj, hm2, h7, h6, hS⟩ := hI
      simp only [clob, List.foldl, n3, n4, h7, h6]
      obtain ⟨y, hy⟩ : ∃ y, l.getD j [] = y := ⟨_, rfl⟩
      have hcl := cnt_lle l j
      refine x_seq fun K15 hK15 => ?_
      refine x_seq fun K16 hK16 => ?_
      refine x_region ?_
      refine s_go (s_move) ?_
      try simp only [opv, n1, n2, n3, n4, Value.cells]
      refine s_go (s_move) ?_
      try simp only [opv, n1, n2, n3, n4, Value.cells]
      refine s_go (s_len_sl Try.underlying22) ?_
      try simp only [opv, n1, n2, n3, n4, Value.cells]
      refine s_go (s_lss) ?_
      try simp only [opv, n1, n2, n3, n4, Value.cells]
      refine x_nil ?_
      refine hK16 _ _ ?_
      refine x_cond (ht := fun hc3 => ?_) (hf := fun hc3 => ?_)
      ·
        try simp only [decide_eq_true_eq, decide_eq_false_iff_not, Bool.not_eq_true', Bool.not_eq_false', Int.not_lt, Int.not_le, ne_eq, Decidable.not_not, bne_iff_ne, beq_iff_eq, not_true_eq_false, not_false_eq_true] at hc3
        have hy16 : y.length = 16 := by rw [← hy]; exact hv _ (getD_mem' (by omega))
        refine x_skip ?_
        refine hK15 _ _ ?_
        refine x_seq fun K17 hK17 => ?_
        refine x_block ?_
        refine x_seq fun K18 hK18 => ?_
        refine x_seq fun K19 hK19 => ?_
        refine x_quiet (by kernel_rfl) (by kernel_rfl) hS ?_
        refine q_go (fun w hS => s_move) ?_
        try simp only [opv, n1, n2, n3, n4, Value.cells]
        refine q_go (fun w hS => s_move) ?_
        try simp only [opv, n1, n2, n3, n4, Value.cells]
        refine q_go (fun w hS => s_move) ?_
        try simp only [opv, n1, n2, n3, n4, Value.cells]
        first | refine q_go (fun w hS => m_indexAddr_rd Try.underlying24 ti27 (hS := hS)) ?_ | refine q_go (fun w hS => m_indexAddr_vec Try.underlying24 ti27 (hS := hS)) ?_
        try simp only [opv, n1, n2, n3, n4, Value.cells, Nat.mul_one, Nat.zero_add, Int.toNat_natCast, Int.reduceToNat]
        first | refine q_go (fun w hS => m_load_row Try.underlying27 (hi := ti27) (hS := hS) (hfit := by rw [vrows_len]; omega)) ?_ | refine q_go (fun w hS => m_loada_obj Try.underlying27 (hi := ti27) (hS := hS) (hfit := by rw [vrows_len]; omega)) ?_ | refine q_go (fun w hS => m_loada_bx Try.underlying27 (hi := ti27) (hS := hS) (hfit := by rw [vrows_len]; omega)) ?_ | refine q_go (fun w hS => m_loada_rd Try.underlying27 (hi := ti27) (hS := hS) (hfit := by rw [vrows_len]; omega)) ?_ | refine q_go (fun w hS => m_loada_vec Try.underlying27 (hi := ti27) (hS := hS) (hfit := by rw [vrows_len]; omega)) ?_
        try simp only [opv, n1, n2, n3, n4, Value.cells, List.getElem_toArray, List.getElem_cons_zero, List.getElem_cons_succ]
        rw [vrow_get (by omega) hv, hy]
        refine q_go (fun w hS => m_lookup ky27 Try.underlying28 ti3 (hy := rfl) (ha := by first | trivial | assumption | omega) (hD := by first | assumption | exact mok_all | exact mok_nil | exact mput_ok (by first | assumption | omega) (by first | assumption | exact mok_nil)) (hS := hS)) ?_
        try simp only [opv, n1, n2, n3, n4, Value.cells]
        rw [cnt_getD, List.count_reverse]
        refine q_go (fun w hS => s_move) ?_
        try simp only [opv, n1, n2, n3, n4, Value.cells]
        refine q_go (fun w hS => s_move) ?_
        try simp only [opv, n1, n2, n3, n4, Value.cells]
        refine q_go (fun w hS => s_move) ?_
        try simp only [opv, n1, n2, n3, n4, Value.cells]
        first | refine q_go (fun w hS => m_indexAddr_rd Try.underlying22 ti26 (hS := hS)) ?_ | refine q_go (fun w hS => m_indexAddr_vec Try.underlying22 ti26 (hS := hS)) ?_
        try simp only [opv, n1, n2, n3, n4, Value.cells, Nat.mul_one, Nat.zero_add, Int.toNat_natCast, Int.reduceToNat]
        first | refine q_go (fun w hS => m_load_row Try.underlying26 (hi := ti26) (hS := hS) (hfit := by rw [vrows_len]; omega)) ?_ | refine q_go (fun w hS => m_loada_obj Try.underlying26 (hi := ti26) (hS := hS) (hfit := by rw [vrows_len]; omega)) ?_ | refine q_go (fun w hS => m_loada_bx Try.underlying26 (hi := ti26) (hS := hS) (hfit := by rw [vrows_len]; omega)) ?_ | refine q_go (fun w hS => m_loada_rd Try.underlying26 (hi := ti26) (hS := hS) (hfit := by rw [vrows_len]; omega)) ?_ | refine q_go (fun w hS => m_loada_vec Try.underlying26 (hi := ti26) (hS := hS) (hfit := by rw [vrows_len]; omega)) ?_
        try simp only [opv, n1, n2, n3, n4, Value.cells, List.getElem_toArray, List.getElem_cons_zero, List.getElem_cons_succ]
        rw [vrow_get (by omega) hv, hy]
        apply q_call en22
        case H =>
          intro w hS
          try simp only [opv, n1, n2, n3, n4, List.map_toArray, List.map_cons, List.map_nil, List.append_toArray, List.cons_append, List.nil_append, Array.append_empty]
          refine CallR.mono (c_ref12Times _ _ k _ l (hS.hasRd (by repeat (first | exact Has.head | apply Has.tail))) hl hv (by omega) y hy16) ?_
          rintro _ w1 ⟨rfl, hE⟩; exact ⟨rfl, hS.ext hE⟩
        try simp only [opv, n1, n2, n3, n4, Value.cells]
        refine q_go (fun w hS => s_neq) ?_
        try simp only [opv, n1, n2, n3, n4, Value.cells]
        try simp only [ne_eq, not_true_eq_false, decide_false, eq_self, decide_true]
        clear hS
        refine q_nil fun w5 hS => ?_
        refine hK19 _ _ ?_
        refine x_cond_f (h := ?_)
        refine x_skip ?_
        refine hK18 _ _ ?_
        refine x_seq fun K20 hK20 => ?_
        refine x_mixed_f [] 0 [46, 47, 48, 49, 50, 51, 52, 53, 54] (fun f w => f 54 = .bool (decide (((l.take j).count y : Int) = 0)) ∧ St NoB w0 w [.obj g (mObj kv27 (cntR l.reverse)), .rd B 16 k (vrows l), .rd A 16 k (vrows l)]) (by kernel_rfl) (by kernel_rfl) (by kernel_rfl) (by decide) hS (fun w6 hS => ?mixpre1501) ?mixrest1501
        case mixpre1501 =>
          refine p_nil ?_
          simp only [List.length_cons, List.length_nil, Nat.reduceAdd, Nat.reduceSub]
          refine any_go (i := 0) (by rfl) (by decide +kernel) (by decide +kernel) noLate_nil (go_yields w_none (fun w hS => s_move)) ?_
          try simp only [opv, n1, n2, n3, n4, Value.cells]
          refine any_go (i := 1) (by rfl) (by decide +kernel) (by decide +kernel) noLate_nil (go_yields w_none (fun w hS => s_move)) ?_
          try simp only [opv, n1, n2, n3, n4, Value.cells]
          refine any_go (i := 3) (by rfl) (by decide +kernel) (by decide +kernel) noLate_nil (go_yields w_none (fun w hS => s_move)) ?_
          try simp only [opv, n1, n2, n3, n4, Value.cells]
          refine any_go (i := 4) (by rfl) (by decide +kernel) (by decide +kernel) noLate_nil (go_yields w_none (fun w hS => s_move)) ?_
          try simp only [opv, n1, n2, n3, n4, Value.cells]
          first | refine any_go (i := 5) (by rfl) (by decide +kernel) (by decide +kernel) noLate_nil (go_yields w_none (fun w hS => m_indexAddr_rd Try.underlying22 ti26 (hS := hS))) ?_ | refine any_go (i := 5) (by rfl) (by decide +kernel) (by decide +kernel) noLate_nil (go_yields w_none (fun w hS => m_indexAddr_vec Try.underlying22 ti26 (hS := hS))) ?_
          try simp only [opv, n1, n2, n3, n4, Value.cells, Nat.mul_one, Nat.zero_add, Int.toNat_natCast, Int.reduceToNat]
          first | refine any_go (i := 6) (by rfl) (by decide +kernel) (by decide +kernel) noLate_nil (go_yields w_none (fun w hS => m_load_row Try.underlying26 (hi := ti26) (hS := hS) (hfit := by rw [vrows_len]; omega))) ?_ | refine any_go (i := 6) (by rfl) (by decide +kernel) (by decide +kernel) noLate_nil (go_yields w_none (fun w hS => m_loada_obj Try.underlying26 (hi := ti26) (hS := hS) (hfit := by rw [vrows_len]; omega))) ?_ | refine any_go (i := 6) (by rfl) (by decide +kernel) (by decide +kernel) noLate_nil (go_yields w_none (fun w hS => m_loada_bx Try.underlying26 (hi := ti26) (hS := hS) (hfit := by rw [vrows_len]; omega))) ?_ | refine any_go (i := 6) (by rfl) (by decide +kernel) (by decide +kernel) noLate_nil (go_yields w_none (fun w hS => m_loada_rd Try.underlying26 (hi := ti26) (hS := hS) (hfit := by rw [vrows_len]; omega))) ?_ | refine any_go (i := 6) (by rfl) (by decide +kernel) (by decide +kernel) noLate_nil (go_yields w_none (fun w hS => m_loada_vec Try.underlying26 (hi := ti26) (hS := hS) (hfit := by rw [vrows_len]; omega))) ?_
          try simp only [opv, n1, n2, n3, n4, Value.cells, List.getElem_toArray, List.getElem_cons_zero, List.getElem_cons_succ]
          rw [vrow_get (by omega) hv, hy]
          refine any_step [2] (by kernel_rfl) (by decide) (fun w7 hE => ⟨fun _ => (hS.ext hE).sel (by repeat (first | exact Sel.nil | (refine Sel.cons (by repeat (first | exact Del.head | apply Del.tail)) ?_))), ?_⟩)
          replace hS := hS.ext hE
          intro i hi
          simp only [List.mem_cons, List.not_mem_nil, or_false] at hi
          subst hi
          ·
            refine any_op (by rfl) ?_
            refine m_slice_rd (lo := 0) (hi := j) (m := c) Try.underlying22 ti26 (hlo := rfl) (hhi := ⟨_, rfl⟩) (hmx := rfl) (hS := hS) (h := fun A1 hA1 hS => ?_)
            try simp only [Nat.mul_one, Nat.zero_mul] at hA1
            try simp only [← List.map_append, ← List.map_drop, ← List.map_take, Nat.mul_one, Nat.zero_mul, Nat.sub_zero, List.drop_zero, List.nil_append, Nat.zero_add] at hS ⊢
            try simp only [opv, n1, n2, n3, n4, Value.cells, Array.toArray_toList] at hS ⊢
            refine x_nil ?_
            refine any_step [7] (by kernel_rfl) (by decide) (fun w8 hE => ⟨fun _ => (hS.ext hE).sel (by repeat (first | exact Sel.nil | (refine Sel.cons (by repeat (first | exact Del.head | apply Del.tail)) ?_))), ?_⟩)
            replace hS := hS.ext hE
            intro i hi
            simp only [List.mem_cons, List.not_mem_nil, or_false] at hi
            subst hi
            ·
              refine any_op (by rfl) ?_
              rw [show List.take (j * 16) (vrows l) = vrows (l.take j) from rows_take (cells := padL (List.replicate 16 IntKind.u32)) (sz := 16) (fun a => by rw [padL_len]; rfl) l j] at hS
              refine s_call en22 ?_
              try simp only [opv, n1, n2, n3, n4, Value.cells, List.map_toArray, List.map_cons, List.map_nil, List.append_toArray, List.cons_append, List.nil_append, Array.append_empty]
              refine CallR.mono (c_ref12Times _ _ j _ (l.take j) (hS.hasRd (by repeat (first | exact Has.head | apply Has.tail))) (by rw [List.length_take]; omega) (fun y hy => hv y (List.mem_of_mem_take hy)) (by omega) y hy16) ?_
              rintro _ w9 ⟨rfl, hE9⟩
              replace hS := hS.ext hE9
              try simp only [opv, n1, n2, n3, n4, Value.cells]
              refine x_nil ?_
              refine any_go (i := 8) (by rfl) (by decide +kernel) (by decide +kernel) noLate_nil (go_yields w_none (fun w hS => s_eql)) ?_
              try simp only [opv, n1, n2, n3, n4, Value.cells]
              refine any_nil (by kernel_rfl) (fun w10 hE => ?_)
              replace hS := hS.ext hE
              refine ⟨fun _ => hS.sel (by repeat (first | exact Sel.nil | (refine Sel.cons (by repeat (first | exact Del.head | apply Del.tail)) ?_))), ?_⟩
              refine mix_leaf (by simp only [clob, List.foldl, n1, n2, n3, n4]) ?_
              try simp only [n1, n2]
              exact ⟨by trivial, hS.sel (by repeat (first | exact Sel.nil | (refine Sel.cons (by repeat (first | exact Del.head | apply Del.tail)) ?_)))⟩
        intro fm1 w11 hM
        obtain ⟨h54, hS⟩ := hM
        simp only [clob, List.foldl, n3, n4, h54]
        refine hK20 _ _ ?_
        refine x_cond (ht := fun hc5 => ?_) (hf := fun hc5 => ?_)
        ·
          try simp only [decide_eq_true_eq, decide_eq_false_iff_not, Bool.not_eq_true', Bool.not_eq_false', Int.not_lt, Int.not_le, ne_eq, Decidable.not_not, bne_iff_ne, beq_iff_eq, not_true_eq_false, not_false_eq_true] at hc5
          have hz : (l.take j).count y = 0 := by omega
          refine x_region ?_
          refine s_go (s_move) ?_
          try simp only [opv, n1, n2, n3, n4, Value.cells]
          refine s_go (s_add (hc := by first | exact wr_i64 (by omega) (by omega) | rfl)) ?_
          try simp only [opv, n1, n2, n3, n4, Value.cells]
          refine s_go (s_assign) ?_
          try simp only [opv, n1, n2, n3, n4, Value.cells]
          refine x_nil ?_
          refine hK17 _ _ ?_
          refine x_region ?_
          refine s_go (s_move) ?_
          try simp only [opv, n1, n2, n3, n4, Value.cells]
          refine s_go (s_add (hc := by first | exact wr_i64 (by omega) (by omega) | rfl)) ?_
          try simp only [opv, n1, n2, n3, n4, Value.cells]
          refine s_go (s_assign) ?_
          try simp only [opv, n1, n2, n3, n4, Value.cells]
          refine x_nil ?_
          refine loop_back (m' := k - (j + 1)) (by simp only [clob, List.foldl, n1, n2, n3, n4]) ?_ ?_
          · try simp only [opv, n1, n2, n3, n4, Value.cells]
            first
            | exact ⟨j + 1, by omega, by omega, by rfl, congrArg (Value.int .i64) (by rw [cnt_len (by omega), hy, if_pos hz]; omega), hS.sel (by repeat (first | exact Sel.nil | (refine Sel.cons (by repeat (first | exact Del.head | apply Del.tail)) ?_)))⟩
            | exact ⟨j + 1, by omega, by omega, by rfl, congrArg (Value.int .i64) (by rw [cnt_len (by omega), hy, if_neg hz]), hS.sel (by repeat (first | exact Sel.nil | (refine Sel.cons (by repeat (first | exact Del.head | apply Del.tail)) ?_)))⟩
          · omega
        ·
          try simp only [decide_eq_true_eq, decide_eq_false_iff_not, Bool.not_eq_true', Bool.not_eq_false', Int.not_lt, Int.not_le, ne_eq, Decidable.not_not, bne_iff_ne, beq_iff_eq, not_true_eq_false, not_false_eq_true] at hc5
          have hz : ¬ (l.take j).count y = 0 := by omega
          refine x_skip ?_
          refine hK17 _ _ ?_
          refine x_region ?_
          refine s_go (s_move) ?_
          try simp only [opv, n1, n2, n3, n4, Value.cells]
          refine s_go (s_add (hc := by first | exact wr_i64 (by omega) (by omega) | rfl)) ?_
          try simp only [opv, n1, n2, n3, n4, Value.cells]
          refine s_go (s_assign) ?_
          try simp only [opv, n1, n2, n3, n4, Value.cells]
          refine x_nil ?_
          refine loop_back (m' := k - (j + 1)) (by simp only [clob, List.foldl, n1, n2, n3, n4]) ?_ ?_
          · try simp only [opv, n1, n2, n3, n4, Value.cells]
            first
            | exact ⟨j + 1, by omega, by omega, by rfl, congrArg (Value.int .i64) (by rw [cnt_len (by omega), hy, if_pos hz]; omega), hS.sel (by repeat (first | exact Sel.nil | (refine Sel.cons (by repeat (first | exact Del.head | apply Del.tail)) ?_)))⟩
            | exact ⟨j + 1, by omega, by omega, by rfl, congrArg (Value.int .i64) (by rw [cnt_len (by omega), hy, if_neg hz]), hS.sel (by repeat (first | exact Sel.nil | (refine Sel.cons (by repeat (first | exact Del.head | apply Del.tail)) ?_)))⟩
          · omega
      ·
        try simp only [decide_eq_true_eq, decide_eq_false_iff_not, Bool.not_eq_true', Bool.not_eq_false', Int.not_lt, Int.not_le, ne_eq, Decidable.not_not, bne_iff_ne, beq_iff_eq, not_true_eq_false, not_false_eq_true] at hc3
        obtain rfl : k = j := by omega
        rw [List.take_of_length_le (by omega)]
        refine x_exit (look_here ?_)
        refine hK13 _ _ ?_
        refine x_seq fun K21 hK21 => ?_
        refine x_region ?_
        refine s_go (s_move) ?_
        try simp only [opv, n1, n2, n3, n4, Value.cells]
        refine s_go (s_len_map Try.underlying28 (hS := hS)) ?_
        try simp only [opv, n1, n2, n3, n4, Value.cells]
        refine s_go (s_move) ?_
        try simp only [opv, n1, n2, n3, n4, Value.cells]
        refine s_go (s_eql) ?_
        try simp only [opv, n1, n2, n3, n4, Value.cells]
        try simp only [eq_self, decide_true, beq_self_eq_true, Bool.and_self]
        refine s_go (s_move) ?_
        try simp only [opv, n1, n2, n3, n4, Value.cells]
        refine g_on (yi (t := 61) rfl rfl) ?_
        refine s_go (s_move) ?_
        try simp only [opv, n1, n2, n3, n4, Value.cells]
        refine g_on (yi (t := 61) rfl rfl) ?_
        refine s_call en24 ?_
        try simp only [opv, n1, n2, n3, n4, Value.cells, List.map_toArray, List.map_cons, List.map_nil, List.append_toArray, List.cons_append, List.nil_append, Array.append_empty]
        refine CallR.mono (c_vecPeaks _ B k d l (hS.hasRd (by repeat (first | exact Has.head | apply Has.tail))) hl hv (by omega)) ?_
        rintro _ w12 ⟨B12, d12, rfl, hC12⟩
        replace hS := hS.call hC12
        simp only [List.cons_append, List.nil_append] at hS
        try simp only [opv, n1, n2, n3, n4, Value.cells]
        refine g_on (yi (t := 61) rfl rfl) ?_
        refine s_go (s_move) ?_
        try simp only [opv, n1, n2, n3, n4, Value.cells]
        refine g_on (yi (t := 61) rfl rfl) ?_
        refine s_call en25 ?_
        try simp only [opv, n1, n2, n3, n4, Value.cells, List.map_toArray, List.map_cons, List.map_nil, List.append_toArray, List.cons_append, List.nil_append, Array.append_empty]
        refine CallR.mono (c_ref12Peaks _ A k c l (hS.hasRd (by repeat (first | exact Has.head | apply Has.tail))) hl hv (by omega)) ?_
        rintro _ w13 ⟨B13, d13, rfl, hC13⟩
        replace hS := hS.call hC13
        simp only [List.cons_append, List.nil_append] at hS
        try simp only [opv, n1, n2, n3, n4, Value.cells]
        refine g_on (yi (t := 61) rfl rfl) ?_
        refine s_call en23 ?_
        try simp only [opv, n1, n2, n3, n4, Value.cells, List.map_toArray, List.map_cons, List.map_nil, List.append_toArray, List.cons_append, List.nil_append, Array.append_empty]
        refine CallR.mono (c_ref01Same _ _ _ _ _ _ _ _ _ (hS.vecRd (by repeat (first | exact Has.head | apply Has.tail))) (hS.vecRd (by repeat (first | exact Has.head | apply Has.tail))) rfl rfl (by have := pkL_len vcmp l k; omega)) ?_
        rintro _ w14 ⟨rfl, hE14⟩
        replace hS := hS.ext hE14
        try simp only [opv, n1, n2, n3, n4, Value.cells]
        try simp only [eq_self, decide_true, beq_self_eq_true, Bool.and_self]
        first | refine s_go (s_pick_t) ?_ | refine s_go (s_pick_f) ?_
        try simp only [opv, n1, n2, n3, n4, Value.cells]
        refine s_go (s_move) ?_
        try simp only [opv, n1, n2, n3, n4, Value.cells]
        refine g_on (yi (t := 68) rfl rfl) ?_
        refine s_call en20 ?_
        try simp only [opv, n1, n2, n3, n4, Value.cells, List.map_toArray, List.map_cons, List.map_nil, List.append_toArray, List.cons_append, List.nil_append, Array.append_empty]
        refine CallR.mono (c_law12alive _) ?_
        rintro _ w15 ⟨rfl, hE15⟩
        replace hS := hS.ext hE15
        try simp only [opv, n1, n2, n3, n4, Value.cells]
        first | refine s_go (s_pick_t) ?_ | refine s_go (s_pick_f) ?_
        try simp only [opv, n1, n2, n3, n4, Value.cells]
        refine s_go (s_assign) ?_
        try simp only [opv, n1, n2, n3, n4, Value.cells]
        refine x_nil ?_
        refine hK21 _ _ ?_
        refine x_ret ?_
        refine r_tmp rfl ?_
        exact ⟨rfl, hS.ext_of⟩
end Go.Proofs.Ytpjpaipkkcengaa
