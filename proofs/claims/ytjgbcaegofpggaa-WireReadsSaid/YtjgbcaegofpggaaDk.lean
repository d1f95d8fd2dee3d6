/- Contracts of functions, printed by a program of this seat (wip/tools/gen.py) out of its specs. -/
import Derived.Test.YtjgbcaegofpggaaDj
set_option linter.unusedSimpArgs false
set_option linter.unusedVariables false
set_option maxHeartbeats 16000000
set_option maxRecDepth 100000
namespace Go.Proofs.Ytjgbcaegofpggaa
open Go.RowKit


theorem rdS_ok {d : Int} {x : Nat} {n e : Int} {xs : List Int} (h : ErrOk e xs) : ErrOk (rdS d x n e xs).2.1 (rdS d x n e xs).2.2 := by
  unfold rdS
  repeat' split
  · exact numS_ok h
  · exact oneS_ok h
  · exact namS_ok h
  · exact bytS_ok h
theorem rdS_byt' {d : Int} {x : Nat} {n e : Int} {xs : List Int} (h : Byt xs) : Byt (rdS d x n e xs).2.2 := by
  unfold rdS
  repeat' split
  · exact numS_byt h
  · exact oneS_byt h
  · exact namS_byt' h
  · exact bytS_byt' h
theorem rdS_len2 (d : Int) (x : Nat) (n e : Int) (xs : List Int) : (rdS d x n e xs).2.2.length ≤ xs.length ∧ (rdS d x n e xs).1.2.2.2.length ≤ xs.length := by
  unfold rdS
  repeat' split
  · exact ⟨numS_len _ _ _, Nat.zero_le _⟩
  · exact ⟨oneS_len _ _, Nat.zero_le _⟩
  · exact ⟨namS_len' _ _, Nat.zero_le _⟩
  · exact ⟨bytS_len' _ _ _, bytS_len _ _ _⟩
theorem done_same {e : Int} {xs : List Int} (h : ErrOk e xs) : (if e = 0 ∧ 0 < xs.length then (3 : Int) else e) = (if 0 < xs.length then 3 else e) := by
  by_cases he : e = 0
  · simp [he]
  · have := h he
    subst this
    simp


theorem c_WireReads (w0 : World) (A : Option Addr) (c : Nat) (xs : List Int) (hx : Rd w0 A 1 xs.length (xs.map (Value.int .u8))) (hw : Byt xs) (hxc : xs.length ≤ c) (hxb : xs.length ≤ 140737488355000) (B : Option Addr) (n d : Nat) (ps : List Pc) (hr : Rd w0 B 13 n (rowsOf pcL ps)) (hl : ps.length = n) (hok : ∀ p ∈ ps, PcOk w0 p) (hnd : n ≤ d) (hn : n ≤ 9000000000000000)  :
    CallR Try.prog 12 #[.slice A xs.length c, .slice B n d] w0 fun v w' => v = .bool true ∧ Ext w0 w' := by
  have hS := ((St.start (S := NoB) w0).rd_old hr).rd_old hx
  refine c_enter (l := [.slice A xs.length c, .slice B n d, undef, undef, undef, undef, undef, undef, undef, undef, undef, undef, undef, undef, undef, undef, undef, undef, undef, undef, undef, undef, undef, undef, undef, undef, undef, undef, undef, undef, undef, undef, undef, undef, undef, undef, undef, undef, undef, undef, undef, undef, undef, undef, undef, undef, undef, undef, undef, undef, undef, undef, undef, undef, undef, undef, undef, undef, undef, undef, undef, undef, undef, undef, undef, undef, undef, undef]) Try.func12 rfl (by simp only [Try.ntmps12, List.size_toArray, List.length_cons, List.length_nil, Nat.reduceAdd, Nat.reduceSub, Array.replicate_succ, Array.replicate_zero, List.push_toArray, List.append_toArray, List.nil_append, List.cons_append]) ?_
  refine x_seq fun K1 hK1 => ?_
  refine x_region ?_
  refine s_go (s_assign) ?_
  try simp only [opv, n1, n2, n3, n4, Value.cells]
  refine x_nil ?_
  refine hK1 _ _ ?_
  refine x_seq fun K2 hK2 => ?_
  refine x_seq fun K3 hK3 => ?_
  refine x_region ?_
  refine s_go (s_move) ?_
  try simp only [opv, n1, n2, n3, n4, Value.cells]
  refine s_call en64 ?_
  try simp only [opv, n1, n2, n3, n4, Value.cells, List.map_toArray, List.map_cons, List.map_nil, List.append_toArray, List.cons_append, List.nil_append, Array.append_empty]
  refine CallR.mono (c_ref07Large _ B n d ps (hS.hasRd (by repeat (first | exact Has.head | apply Has.tail))) hl (fun p hp => (hok p hp).ext hS.ext_of) hn) ?_
  rintro _ w1 ⟨rfl, hE1⟩
  replace hS := hS.ext hE1
  try simp only [opv, n1, n2, n3, n4, Value.cells]
  refine s_go (s_move) ?_
  try simp only [opv, n1, n2, n3, n4, Value.cells]
  refine s_part 10 rfl (fun hp1 => ?_) (fun hp1 => ?_)
  ·
    try simp only [n3, n4]
    try simp only [decide_eq_true_eq, decide_eq_false_iff_not, Bool.not_eq_true', Bool.not_eq_false', Int.not_lt, Int.not_le, ne_eq, Decidable.not_not] at hp1
    refine g_off (yi (t := 10) rfl rfl) ?_
    try simp only [opv, n1, n2, n3, n4, Value.cells]
    refine g_off (yi (t := 10) rfl rfl) ?_
    try simp only [opv, n1, n2, n3, n4, Value.cells]
    refine g_off (yi (t := 10) rfl rfl) ?_
    try simp only [opv, n1, n2, n3, n4, Value.cells]
    first | refine s_go (s_pick_t) ?_ | refine s_go (s_pick_f) ?_
    try simp only [opv, n1, n2, n3, n4, Value.cells]
    refine x_nil ?_
    refine hK3 _ _ ?_
    refine x_cond_t (h := ?_)
    refine x_seq fun K4 hK4 => ?_
    refine x_region ?_
    refine s_call en65 ?_
    try simp only [opv, n1, n2, n3, n4, Value.cells, List.map_toArray, List.map_cons, List.map_nil, List.append_toArray, List.cons_append, List.nil_append, Array.append_empty]
    refine CallR.mono (c_law07alive _) ?_
    rintro _ w2 ⟨rfl, hE2⟩
    replace hS := hS.ext hE2
    try simp only [opv, n1, n2, n3, n4, Value.cells]
    refine s_go (s_assign) ?_
    try simp only [opv, n1, n2, n3, n4, Value.cells]
    refine x_nil ?_
    refine hK4 _ _ ?_
    refine x_ret ?_
    refine r_tmp rfl ?_
    exact ⟨rfl, hS.ext_of⟩
  ·
    try simp only [n3, n4]
    try simp only [decide_eq_true_eq, decide_eq_false_iff_not, Bool.not_eq_true', Bool.not_eq_false', Int.not_lt, Int.not_le, ne_eq, Decidable.not_not] at hp1
    obtain ⟨hl4, h6⟩ := large_no (by simpa using hp1)
    have hn4 : n ≤ 40 := by omega
    refine g_on (yi (t := 10) rfl rfl) ?_
    refine s_go (s_move) ?_
    try simp only [opv, n1, n2, n3, n4, Value.cells]
    refine g_on (yi (t := 10) rfl rfl) ?_
    refine s_go (s_len_sl Try.underlying42) ?_
    try simp only [opv, n1, n2, n3, n4, Value.cells]
    refine g_on (yi (t := 10) rfl rfl) ?_
    refine s_go (s_gtr) ?_
    try simp only [opv, n1, n2, n3, n4, Value.cells]
    first | refine s_go (s_pick_t) ?_ | refine s_go (s_pick_f) ?_
    try simp only [opv, n1, n2, n3, n4, Value.cells]
    refine x_nil ?_
    refine hK3 _ _ ?_
    refine x_cond (ht := fun hc2 => ?_) (hf := fun hc2 => ?_)
    ·
      try simp only [decide_eq_true_eq, decide_eq_false_iff_not, Bool.not_eq_true', Bool.not_eq_false', Int.not_lt, Int.not_le, ne_eq, Decidable.not_not, bne_iff_ne, beq_iff_eq, not_true_eq_false, not_false_eq_true] at hc2
      refine x_seq fun K5 hK5 => ?_
      refine x_region ?_
      refine s_call en65 ?_
      try simp only [opv, n1, n2, n3, n4, Value.cells, List.map_toArray, List.map_cons, List.map_nil, List.append_toArray, List.cons_append, List.nil_append, Array.append_empty]
      refine CallR.mono (c_law07alive _) ?_
      rintro _ w3 ⟨rfl, hE3⟩
      replace hS := hS.ext hE3
      try simp only [opv, n1, n2, n3, n4, Value.cells]
      refine s_go (s_assign) ?_
      try simp only [opv, n1, n2, n3, n4, Value.cells]
      refine x_nil ?_
      refine hK5 _ _ ?_
      refine x_ret ?_
      refine r_tmp rfl ?_
      exact ⟨rfl, hS.ext_of⟩
    ·
      try simp only [decide_eq_true_eq, decide_eq_false_iff_not, Bool.not_eq_true', Bool.not_eq_false', Int.not_lt, Int.not_le, ne_eq, Decidable.not_not, bne_iff_ne, beq_iff_eq, not_true_eq_false, not_false_eq_true] at hc2
      refine x_skip ?_
      refine hK2 _ _ ?_
      refine x_seq fun K6 hK6 => ?_
      refine x_region ?_
      refine s_go (s_move) ?_
      try simp only [opv, n1, n2, n3, n4, Value.cells]
      refine s_call en70 ?_
      try simp only [opv, n1, n2, n3, n4, Value.cells, List.map_toArray, List.map_cons, List.map_nil, List.append_toArray, List.cons_append, List.nil_append, Array.append_empty]
      refine CallR.mono (c_cFrom _ A c xs (hS.hasRd (by repeat (first | exact Has.head | apply Has.tail))) (by omega)) ?_
      rintro _ w4 ⟨p, A4, c4, rfl, hcp, hC4⟩
      replace hS := hS.call hC4
      simp only [List.cons_append, List.nil_append] at hS
      replace hS := hS.vec_rd (by exact Upd.tail Upd.head)
      try simp only [opv, n1, n2, n3, n4, Value.cells]
      refine s_go (s_move) ?_
      try simp only [opv, n1, n2, n3, n4, Value.cells]
      refine s_go (s_build_struct (cells := #[_, .int .i64 0]) Try.underlying79 ti79 bp79 (hc := by simp only [List.map_toArray, List.map_cons, List.map_nil, opv, n1, n2, n3, n4, Value.cells, List.toList_toArray]; (repeat (refine fill_cons rfl rfl (Nat.le_of_ble_eq_true rfl) ?_)); rfl)) ?_
      try simp only [opv, n1, n2, n3, n4, Value.cells]
      refine m_box hS (fun w5 g5 hS => ?_)
      try simp only [opv, n1, n2, n3, n4, Value.cells, Array.toArray_toList] at hS ⊢
      obtain ⟨q, hq⟩ : ∃ q, q = g5 := ⟨_, rfl⟩
      rw [← hq] at hS ⊢
      refine s_go (s_assign) ?_
      try simp only [opv, n1, n2, n3, n4, Value.cells]
      refine s_go (s_assign) ?_
      try simp only [opv, n1, n2, n3, n4, Value.cells]
      refine x_nil ?_
      refine hK6 _ _ ?_
      refine x_seq fun K7 hK7 => ?_
      refine x_seq fun K8 hK8 => ?_
      refine x_region ?_
      refine s_go (s_assign) ?_
      try simp only [opv, n1, n2, n3, n4, Value.cells]
      refine x_nil ?_
      refine hK8 _ _ ?_
      refine x_block ?_
      refine x_loop [4, 7, 21, 22, 23, 24, 25, 26, 27, 28, 29, 30, 31, 32, 33, 34, 35, 36, 37, 38, 39, 40, 41, 42, 43, 44, 45, 46, 47, 48, 49, 50, 51, 52, 53, 54, 55, 56, 57, 58, 59, 60, 61, 62, 63, 64, 65, 66] (fun m f w => ∃ k : Nat, k ≤ n ∧ m = n - k ∧ f 7 = .int .i64 (k : Int) ∧ ∃ (e : Int) (ys : List Int) (A1 : Option Addr) (c1 : Nat) (A2 : Option Addr) (c2 : Nat), Byt ys ∧ ErrOk e ys ∧ ys.length ≤ 300 ∧ ys.length ≤ c1 ∧ ys.length ≤ c2 ∧ St NoB w0 w [.obj p (.cells #[.int .i64 e, .slice A1 ys.length c1] 185 (0, 0)), .rd A1 1 ys.length (ys.map (Value.int .u8)), .obj q (.cells #[.slice A2 ys.length c2, .int .i64 e] 79 (0, 0)), .rd A2 1 ys.length (ys.map (Value.int .u8)), .rd B 13 n (rowsOf pcL ps)]) (n) ?init1 (fun m1 f1 wl1 hI => ?_)
      case init1 =>
        try simp only [opv, n1, n2, n3, n4, Value.cells]
        exact ⟨0, by omega, rfl, rfl, 0, xs, _, _, A, c, hw, fun h => absurd rfl h, by omega, by assumption, hxc, hS.sel (by repeat (first | exact Sel.nil | (refine Sel.cons (by repeat (first | exact Del.head | apply Del.tail)) ?_)))⟩
      obtain ⟨k, hk, hm, h7, e, ys, A1, c1, A2, c2, hyw, hek, hy3, hy1, hy2, hS⟩ := hI
      simp only [clob, List.foldl, n3, n4, h7]
      refine x_seq fun K9 hK9 => ?_
      refine x_seq fun K10 hK10 => ?_
      refine x_region ?_
      refine s_go (s_move) ?_
      try simp only [opv, n1, n2, n3, n4, Value.cells]
      refine s_go (s_move) ?_
      try simp only [opv, n1, n2, n3, n4, Value.cells]
      refine s_go (s_len_sl Try.underlying64) ?_
      try simp only [opv, n1, n2, n3, n4, Value.cells]
      refine s_go (s_lss) ?_
      try simp only [opv, n1, n2, n3, n4, Value.cells]
      refine x_nil ?_
      refine hK10 _ _ ?_
      refine x_cond (ht := fun hc3 => ?_) (hf := fun hc3 => ?_)
      ·
        try simp only [decide_eq_true_eq, decide_eq_false_iff_not, Bool.not_eq_true', Bool.not_eq_false', Int.not_lt, Int.not_le, ne_eq, Decidable.not_not, bne_iff_ne, beq_iff_eq, not_true_eq_false, not_false_eq_true] at hc3
        have hkp := getD_mem (l := ps) (k := k) (by omega)
        have hp := hok _ hkp
        have hp6 := h6 _ hkp
        have hpo := pcOut_len hp.x hp.nl hp6
        obtain ⟨z, hz⟩ : ∃ z, rdS (ps.getD k pc0).d (ps.getD k pc0).x (ps.getD k pc0).n e ys = z := ⟨_, rfl⟩
        have hzo := rdS_ok (d := (ps.getD k pc0).d) (x := (ps.getD k pc0).x) (n := (ps.getD k pc0).n) hek
        have hzb := rdS_byt' (d := (ps.getD k pc0).d) (x := (ps.getD k pc0).x) (n := (ps.getD k pc0).n) (e := e) hyw
        obtain ⟨hzl, hzl2⟩ := rdS_len2 (ps.getD k pc0).d (ps.getD k pc0).x (ps.getD k pc0).n e ys
        rw [hz] at hzo hzb hzl hzl2
        refine x_skip ?_
        refine hK9 _ _ ?_
        refine x_seq fun K11 hK11 => ?_
        refine x_block ?_
        refine x_seq fun K12 hK12 => ?_
        refine x_mixed_c (Lc := [.rd B 13 n (rowsOf pcL ps)]) [] 0 [27, 28, 29, 30, 31, 32, 33, 34, 35, 36, 37, 38, 39, 40, 41, 42, 43, 44, 45, 46, 47, 48, 49, 50, 51, 52, 53, 54, 55, 56, 57, 58, 59, 60, 61, 62, 63, 64, 65, 66] (fun f w => f 66 = .bool false ∧ ∃ (e : Int) (ys : List Int) (A1 : Option Addr) (c1 : Nat) (A2 : Option Addr) (c2 : Nat), Byt ys ∧ ErrOk e ys ∧ ys.length ≤ 300 ∧ ys.length ≤ c1 ∧ ys.length ≤ c2 ∧ St NoB w0 w [.obj p (.cells #[.int .i64 e, .slice A1 ys.length c1] 185 (0, 0)), .rd A1 1 ys.length (ys.map (Value.int .u8)), .obj q (.cells #[.slice A2 ys.length c2, .int .i64 e] 79 (0, 0)), .rd A2 1 ys.length (ys.map (Value.int .u8)), .rd B 13 n (rowsOf pcL ps)]) (by kernel_rfl) (by kernel_rfl) (by kernel_rfl) (by decide) hS (fun w6 hS => ?mixpre701) ?mixrest701
        case mixpre701 =>
          refine p_nil ?_
          simp only [List.length_cons, List.length_nil, Nat.reduceAdd, Nat.reduceSub]
          refine any_go (i := 0) (by rfl) (by decide +kernel) (by decide +kernel) noLate_nil (go_yields w_none (fun w hS => s_move)) ?_
          try simp only [opv, n1, n2, n3, n4, Value.cells]
          refine any_go (i := 1) (by rfl) (by decide +kernel) (by decide +kernel) noLate_nil (go_yields w_none (fun w hS => s_move)) ?_
          try simp only [opv, n1, n2, n3, n4, Value.cells]
          refine any_go (i := 2) (by rfl) (by decide +kernel) (by decide +kernel) noLate_nil (go_yields w_none (fun w hS => s_move)) ?_
          try simp only [opv, n1, n2, n3, n4, Value.cells]
          first | refine any_go (i := 3) (by rfl) (by decide +kernel) (by decide +kernel) noLate_nil (go_yields w_none (fun w hS => m_indexAddr_rd Try.underlying64 ti72 (hS := hS))) ?_ | refine any_go (i := 3) (by rfl) (by decide +kernel) (by decide +kernel) noLate_nil (go_yields w_none (fun w hS => m_indexAddr_vec Try.underlying64 ti72 (hS := hS))) ?_
          try simp only [opv, n1, n2, n3, n4, Value.cells, Nat.mul_one, Nat.zero_add, Int.toNat_natCast, Int.reduceToNat]
          first | refine any_go (i := 4) (by rfl) (by decide +kernel) (by decide +kernel) noLate_nil (go_yields w_none (fun w hS => m_load_row Try.underlying72 (hi := ti72) (hS := hS) (hfit := by rw [rows_len pcL_len]; omega))) ?_ | refine any_go (i := 4) (by rfl) (by decide +kernel) (by decide +kernel) noLate_nil (go_yields w_none (fun w hS => m_loada_obj Try.underlying72 (hi := ti72) (hS := hS) (hfit := by rw [rows_len pcL_len]; omega))) ?_ | refine any_go (i := 4) (by rfl) (by decide +kernel) (by decide +kernel) noLate_nil (go_yields w_none (fun w hS => m_loada_bx Try.underlying72 (hi := ti72) (hS := hS) (hfit := by rw [rows_len pcL_len]; omega))) ?_ | refine any_go (i := 4) (by rfl) (by decide +kernel) (by decide +kernel) noLate_nil (go_yields w_none (fun w hS => m_loada_rd Try.underlying72 (hi := ti72) (hS := hS) (hfit := by rw [rows_len pcL_len]; omega))) ?_ | refine any_go (i := 4) (by rfl) (by decide +kernel) (by decide +kernel) noLate_nil (go_yields w_none (fun w hS => m_loada_vec Try.underlying72 (hi := ti72) (hS := hS) (hfit := by rw [rows_len pcL_len]; omega))) ?_
          try simp only [opv, n1, n2, n3, n4, Value.cells, List.getElem_toArray, List.getElem_cons_zero, List.getElem_cons_succ]
          rw [pc_row (by omega)]
          refine any_go (i := 6) (by rfl) (by decide +kernel) (by decide +kernel) noLate_nil (go_yields w_none (fun w hS => s_move)) ?_
          try simp only [opv, n1, n2, n3, n4, Value.cells]
          refine any_go (i := 7) (by rfl) (by decide +kernel) (by decide +kernel) noLate_nil (go_yields w_none (fun w hS => s_move)) ?_
          try simp only [opv, n1, n2, n3, n4, Value.cells]
          refine any_go (i := 8) (by rfl) (by decide +kernel) (by decide +kernel) noLate_nil (go_yields w_none (fun w hS => s_move)) ?_
          try simp only [opv, n1, n2, n3, n4, Value.cells]
          first | refine any_go (i := 9) (by rfl) (by decide +kernel) (by decide +kernel) noLate_nil (go_yields w_none (fun w hS => m_indexAddr_rd Try.underlying64 ti72 (hS := hS))) ?_ | refine any_go (i := 9) (by rfl) (by decide +kernel) (by decide +kernel) noLate_nil (go_yields w_none (fun w hS => m_indexAddr_vec Try.underlying64 ti72 (hS := hS))) ?_
          try simp only [opv, n1, n2, n3, n4, Value.cells, Nat.mul_one, Nat.zero_add, Int.toNat_natCast, Int.reduceToNat]
          first | refine any_go (i := 10) (by rfl) (by decide +kernel) (by decide +kernel) noLate_nil (go_yields w_none (fun w hS => m_load_row Try.underlying72 (hi := ti72) (hS := hS) (hfit := by rw [rows_len pcL_len]; omega))) ?_ | refine any_go (i := 10) (by rfl) (by decide +kernel) (by decide +kernel) noLate_nil (go_yields w_none (fun w hS => m_loada_obj Try.underlying72 (hi := ti72) (hS := hS) (hfit := by rw [rows_len pcL_len]; omega))) ?_ | refine any_go (i := 10) (by rfl) (by decide +kernel) (by decide +kernel) noLate_nil (go_yields w_none (fun w hS => m_loada_bx Try.underlying72 (hi := ti72) (hS := hS) (hfit := by rw [rows_len pcL_len]; omega))) ?_ | refine any_go (i := 10) (by rfl) (by decide +kernel) (by decide +kernel) noLate_nil (go_yields w_none (fun w hS => m_loada_rd Try.underlying72 (hi := ti72) (hS := hS) (hfit := by rw [rows_len pcL_len]; omega))) ?_ | refine any_go (i := 10) (by rfl) (by decide +kernel) (by decide +kernel) noLate_nil (go_yields w_none (fun w hS => m_loada_vec Try.underlying72 (hi := ti72) (hS := hS) (hfit := by rw [rows_len pcL_len]; omega))) ?_
          try simp only [opv, n1, n2, n3, n4, Value.cells, List.getElem_toArray, List.getElem_cons_zero, List.getElem_cons_succ]
          rw [pc_row (by omega)]
          refine any_step [5] (by kernel_rfl) (by decide) (fun w7 hE => ⟨fun _ => (hS.ext hE).sel (by repeat (first | exact Sel.nil | (refine Sel.cons (by repeat (first | exact Del.head | apply Del.tail)) ?_))), ?_⟩)
          replace hS := hS.ext hE
          intro i hi
          simp only [List.mem_cons, List.not_mem_nil, or_false] at hi
          subst hi
          ·
            refine any_op (by rfl) ?_
            refine s_call en72 ?_
            try simp only [opv, n1, n2, n3, n4, Value.cells, List.map_toArray, List.map_cons, List.map_nil, List.append_toArray, List.cons_append, List.nil_append, Array.append_empty]
            refine CallR.mono (c_law07read _ p e A1 c1 ys hy1 hyw (by omega) (ps.getD k pc0) hp.x hp.n.2 (hS.owns (by repeat (first | exact Spl.nil | (apply Spl.cons (by repeat (first | exact Del.head | apply Del.tail))))))) ?_
            rintro _ w8 ⟨Ba, ka, rfl, Aa, ca, hca, hR8, hC8⟩
            replace hS := hS.frame (by repeat (first | exact Spl.nil | (apply Spl.cons (by repeat (first | exact Del.head | apply Del.tail))))) hC8 (by intro r hr b hb; simp only [List.mem_cons, List.not_mem_nil, or_false] at hr; rcases hr with rfl | rfl | rfl <;> first | (simp [Res.reads] at hb; done) | exact hR8 b hb)
            simp only [List.cons_append, List.nil_append, hz] at hS hca ⊢
            try simp only [opv, n1, n2, n3, n4, Value.cells]
            refine x_nil ?_
            refine any_step [11] (by kernel_rfl) (by decide) (fun w9 hE => ⟨fun _ => (hS.ext hE).sel (by repeat (first | exact Sel.nil | (refine Sel.cons (by repeat (first | exact Del.head | apply Del.tail)) ?_))), ?_⟩)
            replace hS := hS.ext hE
            intro i hi
            simp only [List.mem_cons, List.not_mem_nil, or_false] at hi
            subst hi
            ·
              refine any_op (by rfl) ?_
              refine s_call en73 ?_
              try simp only [opv, n1, n2, n3, n4, Value.cells, List.map_toArray, List.map_cons, List.map_nil, List.append_toArray, List.cons_append, List.nil_append, Array.append_empty]
              refine CallR.mono (c_ref07Read _ q e A2 c2 ys hy2 hyw (by omega) (ps.getD k pc0) hp.x hp.n.2 (hS.owns (by repeat (first | exact Spl.nil | (apply Spl.cons (by repeat (first | exact Del.head | apply Del.tail))))))) ?_
              rintro _ w10 ⟨Bb, kb, rfl, hQ10, Ab, cb, hcb, hR10, hC10⟩
              replace hS := hS.frame (by repeat (first | exact Spl.nil | (apply Spl.cons (by repeat (first | exact Del.head | apply Del.tail))))) hC10 (by intro r hr b hb; simp only [List.mem_cons, List.not_mem_nil, or_false] at hr; rcases hr with rfl | rfl | rfl <;> first | (simp [Res.reads] at hb; done) | exact hR10 b hb | exact hQ10 b hb)
              simp only [List.cons_append, List.nil_append, hz] at hS hcb ⊢
              try simp only [opv, n1, n2, n3, n4, Value.cells]
              refine x_nil ?_
              refine any_step [12] (by kernel_rfl) (by decide) (fun w11 hE => ⟨fun _ => (hS.ext hE).sel (by repeat (first | exact Sel.nil | (refine Sel.cons (by repeat (first | exact Del.head | apply Del.tail)) ?_))), ?_⟩)
              replace hS := hS.ext hE
              intro i hi
              simp only [List.mem_cons, List.not_mem_nil, or_false] at hi
              subst hi
              ·
                refine any_op (by rfl) ?_
                refine s_call en71 ?_
                try simp only [opv, n1, n2, n3, n4, Value.cells, List.map_toArray, List.map_cons, List.map_nil, List.append_toArray, List.cons_append, List.nil_append, Array.append_empty]
                refine CallR.mono (c_ref07Same _ _ _ _ _ _ _ _ _ _ _ _ _ (hS.vecRd (by repeat (first | exact Has.head | apply Has.tail))) (hS.hasRd (by repeat (first | exact Has.head | apply Has.tail))) rfl (by omega)) ?_
                rintro _ w12 ⟨rfl, hE12⟩
                replace hS := hS.ext hE12
                try simp only [opv, n1, n2, n3, n4, Value.cells]
                try simp only [eq_self, decide_true, beq_self_eq_true, Bool.and_self]
                refine x_nil ?_
                refine any_go (i := 13) (by rfl) (by decide +kernel) (by decide +kernel) noLate_nil (go_yields w_none (fun w hS => s_not)) ?_
                try simp only [opv, n1, n2, n3, n4, Value.cells]
                simp only [Bool.not_true]
                refine any_go (i := 14) (by rfl) (by decide +kernel) (by decide +kernel) noLate_nil (go_yields w_none (fun w hS => s_move)) ?_
                try simp only [opv, n1, n2, n3, n4, Value.cells]
                refine any_go (i := 15) (by rfl) (by decide +kernel) (by decide +kernel) noLate_nil (go_yields (w_on (yi (t := 41) rfl rfl)) (fun w hS => s_move)) ?_
                try simp only [opv, n1, n2, n3, n4, Value.cells]
                refine any_go (i := 17) (by rfl) (by decide +kernel) (by decide +kernel) noLate_nil (go_yields (w_on (yi (t := 41) rfl rfl)) (fun w hS => s_move)) ?_
                try simp only [opv, n1, n2, n3, n4, Value.cells]
                refine any_go (i := 18) (by rfl) (by decide +kernel) (by decide +kernel) noLate_nil (go_yields (w_on (yi (t := 41) rfl rfl)) (fun w hS => s_nilCheck)) ?_
                try simp only [opv, n1, n2, n3, n4, Value.cells]
                first | refine any_go (i := 19) (by rfl) (by decide +kernel) (by decide +kernel) noLate_nil (go_yields (w_on (yi (t := 41) rfl rfl)) (fun w hS => m_fieldAddr Try.underlying79 (hi := ti42))) ?_ | refine any_go (i := 19) (by rfl) (by decide +kernel) (by decide +kernel) noLate_nil (go_yields (w_on (yi (t := 41) rfl rfl)) (fun w hS => m_fieldAddr_rd Try.underlying79 (hi := ti42) (hS := hS))) ?_ | refine any_go (i := 19) (by rfl) (by decide +kernel) (by decide +kernel) noLate_nil (go_yields (w_on (yi (t := 41) rfl rfl)) (fun w hS => m_fieldAddr_vec Try.underlying79 (hi := ti42) (hS := hS))) ?_
                try simp only [opv, n1, n2, n3, n4, Value.cells, Nat.zero_add, Nat.add_zero, List.getElem_toArray, List.getElem_cons_zero, List.getElem_cons_succ]
                refine any_step [16, 20] (by kernel_rfl) (by decide) (fun w13 hE => ⟨fun _ => (hS.ext hE).sel (by repeat (first | exact Sel.nil | (refine Sel.cons (by repeat (first | exact Del.head | apply Del.tail)) ?_))), ?_⟩)
                replace hS := hS.ext hE
                intro i hi
                simp only [List.mem_cons, List.not_mem_nil, or_false] at hi
                rcases hi with rfl | rfl
                ·
                  refine any_op (by rfl) ?_
                  refine g_on (yi (t := 41) rfl rfl) ?_
                  refine s_call en74 ?_
                  try simp only [opv, n1, n2, n3, n4, Value.cells, List.map_toArray, List.map_cons, List.map_nil, List.append_toArray, List.cons_append, List.nil_append, Array.append_empty]
                  refine CallR.mono (c_cLeft _ p (z.2.1) Aa ca (z.2.2) hca (hS.owns (by repeat (first | exact Spl.nil | (apply Spl.cons (by repeat (first | exact Del.head | apply Del.tail))))))) ?_
                  rintro _ w14 ⟨rfl, hC14⟩
                  replace hS := hS.frame (by repeat (first | exact Spl.nil | (apply Spl.cons (by repeat (first | exact Del.head | apply Del.tail))))) hC14 (by intro r hr g hg; simp only [List.mem_cons, List.not_mem_nil, or_false] at hr; rcases hr with rfl | rfl | rfl <;> first | (simp [Res.reads] at hg; done) | exact .inr ⟨_, by simp, .inr hg⟩)
                  simp only [List.cons_append, List.nil_append] at hS
                  try simp only [opv, n1, n2, n3, n4, Value.cells]
                  refine x_nil ?_
                  refine any_step [20] (by kernel_rfl) (by decide) (fun w15 hE => ⟨fun _ => (hS.ext hE).sel (by repeat (first | exact Sel.nil | (refine Sel.cons (by repeat (first | exact Del.head | apply Del.tail)) ?_))), ?_⟩)
                  replace hS := hS.ext hE
                  intro i hi
                  simp only [List.mem_cons, List.not_mem_nil, or_false] at hi
                  subst hi
                  ·
                    refine any_op (by rfl) ?_
                    refine g_on (yi (t := 41) rfl rfl) ?_
                    first | refine s_go (m_load_obj Try.underlying42 (hS := hS)) ?_ | refine s_go (m_load_bx Try.underlying42 (hS := hS)) ?_ | refine s_go (m_load_rd Try.underlying42 (hS := hS)) ?_ | refine s_go (m_load_vec Try.underlying42 (hS := hS)) ?_
                    try simp only [opv, n1, n2, n3, n4, Value.cells, List.getElem_toArray, List.getElem_cons_zero, List.getElem_cons_succ]
                    refine x_nil ?_
                    refine any_go (i := 21) (by rfl) (by decide +kernel) (by decide +kernel) noLate_nil (go_yields (w_on (yi (t := 41) rfl rfl)) (fun w hS => s_len_sl Try.underlying42)) ?_
                    try simp only [opv, n1, n2, n3, n4, Value.cells]
                    refine any_go (i := 22) (by rfl) (by decide +kernel) (by decide +kernel) noLate_nil (go_yields (w_on (yi (t := 41) rfl rfl)) (fun w hS => s_neq)) ?_
                    try simp only [opv, n1, n2, n3, n4, Value.cells]
                    try simp only [ne_eq, not_true_eq_false, decide_false, eq_self, decide_true]
                    first | refine any_go (i := 23) (by rfl) (by decide +kernel) (by decide +kernel) noLate_nil (go_yields w_none (fun w hS => s_pick_t)) ?_ | refine any_go (i := 23) (by rfl) (by decide +kernel) (by decide +kernel) noLate_nil (go_yields w_none (fun w hS => s_pick_f)) ?_
                    try simp only [opv, n1, n2, n3, n4, Value.cells]
                    refine any_go (i := 24) (by rfl) (by decide +kernel) (by decide +kernel) noLate_nil (go_yields w_none (fun w hS => s_move)) ?_
                    try simp only [opv, n1, n2, n3, n4, Value.cells]
                    refine any_go (i := 25) (by rfl) (by decide +kernel) (by decide +kernel) noLate_nil (go_yields (w_on (yi (t := 51) rfl rfl)) (fun w hS => s_move)) ?_
                    try simp only [opv, n1, n2, n3, n4, Value.cells]
                    refine any_go (i := 27) (by rfl) (by decide +kernel) (by decide +kernel) noLate_nil (go_yields (w_on (yi (t := 51) rfl rfl)) (fun w hS => s_move)) ?_
                    try simp only [opv, n1, n2, n3, n4, Value.cells]
                    refine any_go (i := 28) (by rfl) (by decide +kernel) (by decide +kernel) noLate_nil (go_yields (w_on (yi (t := 51) rfl rfl)) (fun w hS => s_nilCheck)) ?_
                    try simp only [opv, n1, n2, n3, n4, Value.cells]
                    first | refine any_go (i := 29) (by rfl) (by decide +kernel) (by decide +kernel) noLate_nil (go_yields (w_on (yi (t := 51) rfl rfl)) (fun w hS => m_fieldAddr Try.underlying79 (hi := ti47))) ?_ | refine any_go (i := 29) (by rfl) (by decide +kernel) (by decide +kernel) noLate_nil (go_yields (w_on (yi (t := 51) rfl rfl)) (fun w hS => m_fieldAddr_rd Try.underlying79 (hi := ti47) (hS := hS))) ?_ | refine any_go (i := 29) (by rfl) (by decide +kernel) (by decide +kernel) noLate_nil (go_yields (w_on (yi (t := 51) rfl rfl)) (fun w hS => m_fieldAddr_vec Try.underlying79 (hi := ti47) (hS := hS))) ?_
                    try simp only [opv, n1, n2, n3, n4, Value.cells, Nat.zero_add, Nat.add_zero, List.getElem_toArray, List.getElem_cons_zero, List.getElem_cons_succ]
                    refine any_step [26, 30] (by kernel_rfl) (by decide) (fun w16 hE => ⟨fun _ => (hS.ext hE).sel (by repeat (first | exact Sel.nil | (refine Sel.cons (by repeat (first | exact Del.head | apply Del.tail)) ?_))), ?_⟩)
                    replace hS := hS.ext hE
                    intro i hi
                    simp only [List.mem_cons, List.not_mem_nil, or_false] at hi
                    rcases hi with rfl | rfl
                    ·
                      refine any_op (by rfl) ?_
                      refine g_on (yi (t := 51) rfl rfl) ?_
                      refine s_call en75 ?_
                      try simp only [opv, n1, n2, n3, n4, Value.cells, List.map_toArray, List.map_cons, List.map_nil, List.append_toArray, List.cons_append, List.nil_append, Array.append_empty]
                      refine CallR.mono (c_cErr _ p (z.2.1) Aa ca (z.2.2) hca (hS.owns (by repeat (first | exact Spl.nil | (apply Spl.cons (by repeat (first | exact Del.head | apply Del.tail))))))) ?_
                      rintro _ w17 ⟨rfl, hC17⟩
                      replace hS := hS.frame (by repeat (first | exact Spl.nil | (apply Spl.cons (by repeat (first | exact Del.head | apply Del.tail))))) hC17 (by intro r hr g hg; simp only [List.mem_cons, List.not_mem_nil, or_false] at hr; rcases hr with rfl | rfl | rfl <;> first | (simp [Res.reads] at hg; done) | exact .inr ⟨_, by simp, .inr hg⟩)
                      simp only [List.cons_append, List.nil_append] at hS
                      try simp only [opv, n1, n2, n3, n4, Value.cells]
                      refine x_nil ?_
                      refine any_step [30] (by kernel_rfl) (by decide) (fun w18 hE => ⟨fun _ => (hS.ext hE).sel (by repeat (first | exact Sel.nil | (refine Sel.cons (by repeat (first | exact Del.head | apply Del.tail)) ?_))), ?_⟩)
                      replace hS := hS.ext hE
                      intro i hi
                      simp only [List.mem_cons, List.not_mem_nil, or_false] at hi
                      subst hi
                      ·
                        refine any_op (by rfl) ?_
                        refine g_on (yi (t := 51) rfl rfl) ?_
                        first | refine s_go (m_load_obj Try.underlying47 (hS := hS)) ?_ | refine s_go (m_load_bx Try.underlying47 (hS := hS)) ?_ | refine s_go (m_load_rd Try.underlying47 (hS := hS)) ?_ | refine s_go (m_load_vec Try.underlying47 (hS := hS)) ?_
                        try simp only [opv, n1, n2, n3, n4, Value.cells, List.getElem_toArray, List.getElem_cons_zero, List.getElem_cons_succ]
                        refine x_nil ?_
                        refine any_go (i := 31) (by rfl) (by decide +kernel) (by decide +kernel) noLate_nil (go_yields (w_on (yi (t := 51) rfl rfl)) (fun w hS => s_neq)) ?_
                        try simp only [opv, n1, n2, n3, n4, Value.cells]
                        try simp only [ne_eq, not_true_eq_false, decide_false, eq_self, decide_true]
                        first | refine any_go (i := 32) (by rfl) (by decide +kernel) (by decide +kernel) noLate_nil (go_yields w_none (fun w hS => s_pick_t)) ?_ | refine any_go (i := 32) (by rfl) (by decide +kernel) (by decide +kernel) noLate_nil (go_yields w_none (fun w hS => s_pick_f)) ?_
                        try simp only [opv, n1, n2, n3, n4, Value.cells]
                        refine any_go (i := 33) (by rfl) (by decide +kernel) (by decide +kernel) noLate_nil (go_yields w_none (fun w hS => s_move)) ?_
                        try simp only [opv, n1, n2, n3, n4, Value.cells]
                        refine any_go (i := 34) (by rfl) (by decide +kernel) (by decide +kernel) noLate_nil (go_yields (w_on (yi (t := 60) rfl rfl)) (fun w hS => s_move)) ?_
                        try simp only [opv, n1, n2, n3, n4, Value.cells]
                        refine any_go (i := 36) (by rfl) (by decide +kernel) (by decide +kernel) noLate_nil (go_yields (w_on (yi (t := 60) rfl rfl)) (fun w hS => s_move)) ?_
                        try simp only [opv, n1, n2, n3, n4, Value.cells]
                        refine any_step [35] (by kernel_rfl) (by decide) (fun w19 hE => ⟨fun _ => (hS.ext hE).sel (by repeat (first | exact Sel.nil | (refine Sel.cons (by repeat (first | exact Del.head | apply Del.tail)) ?_))), ?_⟩)
                        replace hS := hS.ext hE
                        intro i hi
                        simp only [List.mem_cons, List.not_mem_nil, or_false] at hi
                        subst hi
                        ·
                          refine any_op (by rfl) ?_
                          refine g_on (yi (t := 60) rfl rfl) ?_
                          refine s_call en76 ?_
                          try simp only [opv, n1, n2, n3, n4, Value.cells, List.map_toArray, List.map_cons, List.map_nil, List.append_toArray, List.cons_append, List.nil_append, Array.append_empty]
                          refine CallR.mono (c_cDone _ p (z.2.1) Aa ca (z.2.2) hca (hS.owns (by repeat (first | exact Spl.nil | (apply Spl.cons (by repeat (first | exact Del.head | apply Del.tail))))))) ?_
                          rintro _ w20 ⟨rfl, hC20⟩
                          replace hS := hS.frame (by repeat (first | exact Spl.nil | (apply Spl.cons (by repeat (first | exact Del.head | apply Del.tail))))) hC20 (by intro r hr g hg; simp only [List.mem_cons, List.not_mem_nil, or_false] at hr; rcases hr with rfl | rfl | rfl <;> first | (simp [Res.reads] at hg; done) | exact .inr ⟨_, by simp, .inr hg⟩)
                          simp only [List.cons_append, List.nil_append] at hS
                          try simp only [opv, n1, n2, n3, n4, Value.cells]
                          refine x_nil ?_
                          refine any_step [37] (by kernel_rfl) (by decide) (fun w21 hE => ⟨fun _ => (hS.ext hE).sel (by repeat (first | exact Sel.nil | (refine Sel.cons (by repeat (first | exact Del.head | apply Del.tail)) ?_))), ?_⟩)
                          replace hS := hS.ext hE
                          intro i hi
                          simp only [List.mem_cons, List.not_mem_nil, or_false] at hi
                          subst hi
                          ·
                            refine any_op (by rfl) ?_
                            refine g_on (yi (t := 60) rfl rfl) ?_
                            refine s_call en77 ?_
                            try simp only [opv, n1, n2, n3, n4, Value.cells, List.map_toArray, List.map_cons, List.map_nil, List.append_toArray, List.cons_append, List.nil_append, Array.append_empty]
                            refine CallR.mono (c_ref07Done _ q z.2.1 Ab cb z.2.2 hcb (hS.owns (by repeat (first | exact Spl.nil | (apply Spl.cons (by repeat (first | exact Del.head | apply Del.tail))))))) ?_
                            rintro _ w22 ⟨rfl, hC22⟩
                            replace hS := hS.frame (by repeat (first | exact Spl.nil | (apply Spl.cons (by repeat (first | exact Del.head | apply Del.tail))))) hC22 (by intro r hr g hg; simp only [List.mem_cons, List.not_mem_nil, or_false] at hr; rcases hr with rfl | rfl | rfl <;> first | (simp [Res.reads] at hg; done) | exact .inr ⟨_, by simp, .inr hg⟩)
                            simp only [List.cons_append, List.nil_append] at hS
                            try simp only [opv, n1, n2, n3, n4, Value.cells]
                            rw [done_same hzo]
                            refine x_nil ?_
                            refine any_go (i := 38) (by rfl) (by decide +kernel) (by decide +kernel) noLate_nil (go_yields (w_on (yi (t := 60) rfl rfl)) (fun w hS => s_neq)) ?_
                            try simp only [opv, n1, n2, n3, n4, Value.cells]
                            try simp only [ne_eq, not_true_eq_false, decide_false, eq_self, decide_true]
                            first | refine any_go (i := 39) (by rfl) (by decide +kernel) (by decide +kernel) noLate_nil (go_yields w_none (fun w hS => s_pick_t)) ?_ | refine any_go (i := 39) (by rfl) (by decide +kernel) (by decide +kernel) noLate_nil (go_yields w_none (fun w hS => s_pick_f)) ?_
                            try simp only [opv, n1, n2, n3, n4, Value.cells]
                            refine any_nil (by kernel_rfl) (fun w23 hE => ?_)
                            replace hS := hS.ext hE
                            refine ⟨fun _ => hS.sel (by repeat (first | exact Sel.nil | (refine Sel.cons (by repeat (first | exact Del.head | apply Del.tail)) ?_))), ?_⟩
                            refine mix_leaf (by simp only [clob, List.foldl, n1, n2, n3, n4]) ?_
                            try simp only [n1, n2]
                            exact ⟨by trivial, z.2.1, z.2.2, Aa, ca, Ab, cb, hzb, hzo, by omega, hca, hcb, hS.sel (by repeat (first | exact Sel.nil | (refine Sel.cons (by repeat (first | exact Del.head | apply Del.tail)) ?_)))⟩
                    ·
                      refine any_op (by rfl) ?_
                      refine g_on (yi (t := 51) rfl rfl) ?_
                      first | refine s_go (m_load_obj Try.underlying47 (hS := hS)) ?_ | refine s_go (m_load_bx Try.underlying47 (hS := hS)) ?_ | refine s_go (m_load_rd Try.underlying47 (hS := hS)) ?_ | refine s_go (m_load_vec Try.underlying47 (hS := hS)) ?_
                      try simp only [opv, n1, n2, n3, n4, Value.cells, List.getElem_toArray, List.getElem_cons_zero, List.getElem_cons_succ]
                      refine x_nil ?_
                      refine any_step [26] (by kernel_rfl) (by decide) (fun w24 hE => ⟨fun _ => (hS.ext hE).sel (by repeat (first | exact Sel.nil | (refine Sel.cons (by repeat (first | exact Del.head | apply Del.tail)) ?_))), ?_⟩)
                      replace hS := hS.ext hE
                      intro i hi
                      simp only [List.mem_cons, List.not_mem_nil, or_false] at hi
                      subst hi
                      ·
                        refine any_op (by rfl) ?_
                        refine g_on (yi (t := 51) rfl rfl) ?_
                        refine s_call en75 ?_
                        try simp only [opv, n1, n2, n3, n4, Value.cells, List.map_toArray, List.map_cons, List.map_nil, List.append_toArray, List.cons_append, List.nil_append, Array.append_empty]
                        refine CallR.mono (c_cErr _ p (z.2.1) Aa ca (z.2.2) hca (hS.owns (by repeat (first | exact Spl.nil | (apply Spl.cons (by repeat (first | exact Del.head | apply Del.tail))))))) ?_
                        rintro _ w25 ⟨rfl, hC25⟩
                        replace hS := hS.frame (by repeat (first | exact Spl.nil | (apply Spl.cons (by repeat (first | exact Del.head | apply Del.tail))))) hC25 (by intro r hr g hg; simp only [List.mem_cons, List.not_mem_nil, or_false] at hr; rcases hr with rfl | rfl | rfl <;> first | (simp [Res.reads] at hg; done) | exact .inr ⟨_, by simp, .inr hg⟩)
                        simp only [List.cons_append, List.nil_append] at hS
                        try simp only [opv, n1, n2, n3, n4, Value.cells]
                        refine x_nil ?_
                        refine any_go (i := 31) (by rfl) (by decide +kernel) (by decide +kernel) noLate_nil (go_yields (w_on (yi (t := 51) rfl rfl)) (fun w hS => s_neq)) ?_
                        try simp only [opv, n1, n2, n3, n4, Value.cells]
                        try simp only [ne_eq, not_true_eq_false, decide_false, eq_self, decide_true]
                        first | refine any_go (i := 32) (by rfl) (by decide +kernel) (by decide +kernel) noLate_nil (go_yields w_none (fun w hS => s_pick_t)) ?_ | refine any_go (i := 32) (by rfl) (by decide +kernel) (by decide +kernel) noLate_nil (go_yields w_none (fun w hS => s_pick_f)) ?_
                        try simp only [opv, n1, n2, n3, n4, Value.cells]
                        refine any_go (i := 33) (by rfl) (by decide +kernel) (by decide +kernel) noLate_nil (go_yields w_none (fun w hS => s_move)) ?_
                        try simp only [opv, n1, n2, n3, n4, Value.cells]
                        refine any_go (i := 34) (by rfl) (by decide +kernel) (by decide +kernel) noLate_nil (go_yields (w_on (yi (t := 60) rfl rfl)) (fun w hS => s_move)) ?_
                        try simp only [opv, n1, n2, n3, n4, Value.cells]
                        refine any_go (i := 36) (by rfl) (by decide +kernel) (by decide +kernel) noLate_nil (go_yields (w_on (yi (t := 60) rfl rfl)) (fun w hS => s_move)) ?_
                        try simp only [opv, n1, n2, n3, n4, Value.cells]
                        refine any_step [35] (by kernel_rfl) (by decide) (fun w26 hE => ⟨fun _ => (hS.ext hE).sel (by repeat (first | exact Sel.nil | (refine Sel.cons (by repeat (first | exact Del.head | apply Del.tail)) ?_))), ?_⟩)
                        replace hS := hS.ext hE
                        intro i hi
                        simp only [List.mem_cons, List.not_mem_nil, or_false] at hi
                        subst hi
                        ·
                          refine any_op (by rfl) ?_
                          refine g_on (yi (t := 60) rfl rfl) ?_
                          refine s_call en76 ?_
                          try simp only [opv, n1, n2, n3, n4, Value.cells, List.map_toArray, List.map_cons, List.map_nil, List.append_toArray, List.cons_append, List.nil_append, Array.append_empty]
                          refine CallR.mono (c_cDone _ p (z.2.1) Aa ca (z.2.2) hca (hS.owns (by repeat (first | exact Spl.nil | (apply Spl.cons (by repeat (first | exact Del.head | apply Del.tail))))))) ?_
                          rintro _ w27 ⟨rfl, hC27⟩
                          replace hS := hS.frame (by repeat (first | exact Spl.nil | (apply Spl.cons (by repeat (first | exact Del.head | apply Del.tail))))) hC27 (by intro r hr g hg; simp only [List.mem_cons, List.not_mem_nil, or_false] at hr; rcases hr with rfl | rfl | rfl <;> first | (simp [Res.reads] at hg; done) | exact .inr ⟨_, by simp, .inr hg⟩)
                          simp only [List.cons_append, List.nil_append] at hS
                          try simp only [opv, n1, n2, n3, n4, Value.cells]
                          refine x_nil ?_
                          refine any_step [37] (by kernel_rfl) (by decide) (fun w28 hE => ⟨fun _ => (hS.ext hE).sel (by repeat (first | exact Sel.nil | (refine Sel.cons (by repeat (first | exact Del.head | apply Del.tail)) ?_))), ?_⟩)
                          replace hS := hS.ext hE
                          intro i hi
                          simp only [List.mem_cons, List.not_mem_nil, or_false] at hi
                          subst hi
                          ·
                            refine any_op (by rfl) ?_
                            refine g_on (yi (t := 60) rfl rfl) ?_
                            refine s_call en77 ?_
                            try simp only [opv, n1, n2, n3, n4, Value.cells, List.map_toArray, List.map_cons, List.map_nil, List.append_toArray, List.cons_append, List.nil_append, Array.append_empty]
                            refine CallR.mono (c_ref07Done _ q z.2.1 Ab cb z.2.2 hcb (hS.owns (by repeat (first | exact Spl.nil | (apply Spl.cons (by repeat (first | exact Del.head | apply Del.tail))))))) ?_
                            rintro _ w29 ⟨rfl, hC29⟩
                            replace hS := hS.frame (by repeat (first | exact Spl.nil | (apply Spl.cons (by repeat (first | exact Del.head | apply Del.tail))))) hC29 (by intro r hr g hg; simp only [List.mem_cons, List.not_mem_nil, or_false] at hr; rcases hr with rfl | rfl | rfl <;> first | (simp [Res.reads] at hg; done) | exact .inr ⟨_, by simp, .inr hg⟩)
                            simp only [List.cons_append, List.nil_append] at hS
                            try simp only [opv, n1, n2, n3, n4, Value.cells]
                            rw [done_same hzo]
                            refine x_nil ?_
                            refine any_go (i := 38) (by rfl) (by decide +kernel) (by decide +kernel) noLate_nil (go_yields (w_on (yi (t := 60) rfl rfl)) (fun w hS => s_neq)) ?_
                            try simp only [opv, n1, n2, n3, n4, Value.cells]
                            try simp only [ne_eq, not_true_eq_false, decide_false, eq_self, decide_true]
                            first | refine any_go (i := 39) (by rfl) (by decide +kernel) (by decide +kernel) noLate_nil (go_yields w_none (fun w hS => s_pick_t)) ?_ | refine any_go (i := 39) (by rfl) (by decide +kernel) (by decide +kernel) noLate_nil (go_yields w_none (fun w hS => s_pick_f)) ?_
                            try simp only [opv, n1, n2, n3, n4, Value.cells]
                            refine any_nil (by kernel_rfl) (fun w30 hE => ?_)
                            replace hS := hS.ext hE
                            refine ⟨fun _ => hS.sel (by repeat (first | exact Sel.nil | (refine Sel.cons (by repeat (first | exact Del.head | apply Del.tail)) ?_))), ?_⟩
                            refine mix_leaf (by simp only [clob, List.foldl, n1, n2, n3, n4]) ?_
                            try simp only [n1, n2]
                            exact ⟨by trivial, z.2.1, z.2.2, Aa, ca, Ab, cb, hzb, hzo, by omega, hca, hcb, hS.sel (by repeat (first | exact Sel.nil | (refine Sel.cons (by repeat (first | exact Del.head | apply Del.tail)) ?_)))⟩
                ·
                  refine any_op (by rfl) ?_
                  refine g_on (yi (t := 41) rfl rfl) ?_
                  first | refine s_go (m_load_obj Try.underlying42 (hS := hS)) ?_ | refine s_go (m_load_bx Try.underlying42 (hS := hS)) ?_ | refine s_go (m_load_rd Try.underlying42 (hS := hS)) ?_ | refine s_go (m_load_vec Try.underlying42 (hS := hS)) ?_
                  try simp only [opv, n1, n2, n3, n4, Value.cells, List.getElem_toArray, List.getElem_cons_zero, List.getElem_cons_succ]
                  refine x_nil ?_
                  refine any_go (i := 21) (by rfl) (by decide +kernel) (by decide +kernel) noLate_nil (go_yields (w_on (yi (t := 41) rfl rfl)) (fun w hS => s_len_sl Try.underlying42)) ?_
                  try simp only [opv, n1, n2, n3, n4, Value.cells]
                  refine any_step [16] (by kernel_rfl) (by decide) (fun w31 hE => ⟨fun _ => (hS.ext hE).sel (by repeat (first | exact Sel.nil | (refine Sel.cons (by repeat (first | exact Del.head | apply Del.tail)) ?_))), ?_⟩)
                  replace hS := hS.ext hE
                  intro i hi
                  simp only [List.mem_cons, List.not_mem_nil, or_false] at hi
                  subst hi
                  ·
                    refine any_op (by rfl) ?_
                    refine g_on (yi (t := 41) rfl rfl) ?_
                    refine s_call en74 ?_
                    try simp only [opv, n1, n2, n3, n4, Value.cells, List.map_toArray, List.map_cons, List.map_nil, List.append_toArray, List.cons_append, List.nil_append, Array.append_empty]
                    refine CallR.mono (c_cLeft _ p (z.2.1) Aa ca (z.2.2) hca (hS.owns (by repeat (first | exact Spl.nil | (apply Spl.cons (by repeat (first | exact Del.head | apply Del.tail))))))) ?_
                    rintro _ w32 ⟨rfl, hC32⟩
                    replace hS := hS.frame (by repeat (first | exact Spl.nil | (apply Spl.cons (by repeat (first | exact Del.head | apply Del.tail))))) hC32 (by intro r hr g hg; simp only [List.mem_cons, List.not_mem_nil, or_false] at hr; rcases hr with rfl | rfl | rfl <;> first | (simp [Res.reads] at hg; done) | exact .inr ⟨_, by simp, .inr hg⟩)
                    simp only [List.cons_append, List.nil_append] at hS
                    try simp only [opv, n1, n2, n3, n4, Value.cells]
                    refine x_nil ?_
                    refine any_go (i := 22) (by rfl) (by decide +kernel) (by decide +kernel) noLate_nil (go_yields (w_on (yi (t := 41) rfl rfl)) (fun w hS => s_neq)) ?_
                    try simp only [opv, n1, n2, n3, n4, Value.cells]
                    try simp only [ne_eq, not_true_eq_false, decide_false, eq_self, decide_true]
                    first | refine any_go (i := 23) (by rfl) (by decide +kernel) (by decide +kernel) noLate_nil (go_yields w_none (fun w hS => s_pick_t)) ?_ | refine any_go (i := 23) (by rfl) (by decide +kernel) (by decide +kernel) noLate_nil (go_yields w_none (fun w hS => s_pick_f)) ?_
                    try simp only [opv, n1, n2, n3, n4, Value.cells]
                    refine any_go (i := 24) (by rfl) (by decide +kernel) (by decide +kernel) noLate_nil (go_yields w_none (fun w hS => s_move)) ?_
                    try simp only [opv, n1, n2, n3, n4, Value.cells]
                    refine any_go (i := 25) (by rfl) (by decide +kernel) (by decide +kernel) noLate_nil (go_yields (w_on (yi (t := 51) rfl rfl)) (fun w hS => s_move)) ?_
                    try simp only [opv, n1, n2, n3, n4, Value.cells]
                    refine any_go (i := 27) (by rfl) (by decide +kernel) (by decide +kernel) noLate_nil (go_yields (w_on (yi (t := 51) rfl rfl)) (fun w hS => s_move)) ?_
                    try simp only [opv, n1, n2, n3, n4, Value.cells]
                    refine any_go (i := 28) (by rfl) (by decide +kernel) (by decide +kernel) noLate_nil (go_yields (w_on (yi (t := 51) rfl rfl)) (fun w hS => s_nilCheck)) ?_
                    try simp only [opv, n1, n2, n3, n4, Value.cells]
                    first | refine any_go (i := 29) (by rfl) (by decide +kernel) (by decide +kernel) noLate_nil (go_yields (w_on (yi (t := 51) rfl rfl)) (fun w hS => m_fieldAddr Try.underlying79 (hi := ti47))) ?_ | refine any_go (i := 29) (by rfl) (by decide +kernel) (by decide +kernel) noLate_nil (go_yields (w_on (yi (t := 51) rfl rfl)) (fun w hS => m_fieldAddr_rd Try.underlying79 (hi := ti47) (hS := hS))) ?_ | refine any_go (i := 29) (by rfl) (by decide +kernel) (by decide +kernel) noLate_nil (go_yields (w_on (yi (t := 51) rfl rfl)) (fun w hS => m_fieldAddr_vec Try.underlying79 (hi := ti47) (hS := hS))) ?_
                    try simp only [opv, n1, n2, n3, n4, Value.cells, Nat.zero_add, Nat.add_zero, List.getElem_toArray, List.getElem_cons_zero, List.getElem_cons_succ]
                    refine any_step [26, 30] (by kernel_rfl) (by decide) (fun w33 hE => ⟨fun _ => (hS.ext hE).sel (by repeat (first | exact Sel.nil | (refine Sel.cons (by repeat (first | exact Del.head | apply Del.tail)) ?_))), ?_⟩)
                    replace hS := hS.ext hE
                    intro i hi
                    simp only [List.mem_cons, List.not_mem_nil, or_false] at hi
                    rcases hi with rfl | rfl
                    ·
                      refine any_op (by rfl) ?_
                      refine g_on (yi (t := 51) rfl rfl) ?_
                      refine s_call en75 ?_
                      try simp only [opv, n1, n2, n3, n4, Value.cells, List.map_toArray, List.map_cons, List.map_nil, List.append_toArray, List.cons_append, List.nil_append, Array.append_empty]
                      refine CallR.mono (c_cErr _ p (z.2.1) Aa ca (z.2.2) hca (hS.owns (by repeat (first | exact Spl.nil | (apply Spl.cons (by repeat (first | exact Del.head | apply Del.tail))))))) ?_
                      rintro _ w34 ⟨rfl, hC34⟩
                      replace hS := hS.frame (by repeat (first | exact Spl.nil | (apply Spl.cons (by repeat (first | exact Del.head | apply Del.tail))))) hC34 (by intro r hr g hg; simp only [List.mem_cons, List.not_mem_nil, or_false] at hr; rcases hr with rfl | rfl | rfl <;> first | (simp [Res.reads] at hg; done) | exact .inr ⟨_, by simp, .inr hg⟩)
                      simp only [List.cons_append, List.nil_append] at hS
                      try simp only [opv, n1, n2, n3, n4, Value.cells]
                      refine x_nil ?_
                      refine any_step [30] (by kernel_rfl) (by decide) (fun w35 hE => ⟨fun _ => (hS.ext hE).sel (by repeat (first | exact Sel.nil | (refine Sel.cons (by repeat (first | exact Del.head | apply Del.tail)) ?_))), ?_⟩)
                      replace hS := hS.ext hE
                      intro i hi
                      simp only [List.mem_cons, List.not_mem_nil, or_false] at hi
                      subst hi
                      ·
                        refine any_op (by rfl) ?_
                        refine g_on (yi (t := 51) rfl rfl) ?_
                        first | refine s_go (m_load_obj Try.underlying47 (hS := hS)) ?_ | refine s_go (m_load_bx Try.underlying47 (hS := hS)) ?_ | refine s_go (m_load_rd Try.underlying47 (hS := hS)) ?_ | refine s_go (m_load_vec Try.underlying47 (hS := hS)) ?_
                        try simp only [opv, n1, n2, n3, n4, Value.cells, List.getElem_toArray, List.getElem_cons_zero, List.getElem_cons_succ]
                        refine x_nil ?_
                        refine any_go (i := 31) (by rfl) (by decide +kernel) (by decide +kernel) noLate_nil (go_yields (w_on (yi (t := 51) rfl rfl)) (fun w hS => s_neq)) ?_
                        try simp only [opv, n1, n2, n3, n4, Value.cells]
                        try simp only [ne_eq, not_true_eq_false, decide_false, eq_self, decide_true]
                        first | refine any_go (i := 32) (by rfl) (by decide +kernel) (by decide +kernel) noLate_nil (go_yields w_none (fun w hS => s_pick_t)) ?_ | refine any_go (i := 32) (by rfl) (by decide +kernel) (by decide +kernel) noLate_nil (go_yields w_none (fun w hS => s_pick_f)) ?_
                        try simp only [opv, n1, n2, n3, n4, Value.cells]
                        refine any_go (i := 33) (by rfl) (by decide +kernel) (by decide +kernel) noLate_nil (go_yields w_none (fun w hS => s_move)) ?_
                        try simp only [opv, n1, n2, n3, n4, Value.cells]
                        refine any_go (i := 34) (by rfl) (by decide +kernel) (by decide +kernel) noLate_nil (go_yields (w_on (yi (t := 60) rfl rfl)) (fun w hS => s_move)) ?_
                        try simp only [opv, n1, n2, n3, n4, Value.cells]
                        refine any_go (i := 36) (by rfl) (by decide +kernel) (by decide +kernel) noLate_nil (go_yields (w_on (yi (t := 60) rfl rfl)) (fun w hS => s_move)) ?_
                        try simp only [opv, n1, n2, n3, n4, Value.cells]
                        refine any_step [35] (by kernel_rfl) (by decide) (fun w36 hE => ⟨fun _ => (hS.ext hE).sel (by repeat (first | exact Sel.nil | (refine Sel.cons (by repeat (first | exact Del.head | apply Del.tail)) ?_))), ?_⟩)
                        replace hS := hS.ext hE
                        intro i hi
                        simp only [List.mem_cons, List.not_mem_nil, or_false] at hi
                        subst hi
                        ·
                          refine any_op (by rfl) ?_
                          refine g_on (yi (t := 60) rfl rfl) ?_
                          refine s_call en76 ?_
                          try simp only [opv, n1, n2, n3, n4, Value.cells, List.map_toArray, List.map_cons, List.map_nil, List.append_toArray, List.cons_append, List.nil_append, Array.append_empty]
                          refine CallR.mono (c_cDone _ p (z.2.1) Aa ca (z.2.2) hca (hS.owns (by repeat (first | exact Spl.nil | (apply Spl.cons (by repeat (first | exact Del.head | apply Del.tail))))))) ?_
                          rintro _ w37 ⟨rfl, hC37⟩
                          replace hS := hS.frame (by repeat (first | exact Spl.nil | (apply Spl.cons (by repeat (first | exact Del.head | apply Del.tail))))) hC37 (by intro r hr g hg; simp only [List.mem_cons, List.not_mem_nil, or_false] at hr; rcases hr with rfl | rfl | rfl <;> first | (simp [Res.reads] at hg; done) | exact .inr ⟨_, by simp, .inr hg⟩)
                          simp only [List.cons_append, List.nil_append] at hS
                          try simp only [opv, n1, n2, n3, n4, Value.cells]
                          refine x_nil ?_
                          refine any_step [37] (by kernel_rfl) (by decide) (fun w38 hE => ⟨fun _ => (hS.ext hE).sel (by repeat (first | exact Sel.nil | (refine Sel.cons (by repeat (first | exact Del.head | apply Del.tail)) ?_))), ?_⟩)
                          replace hS := hS.ext hE
                          intro i hi
                          simp only [List.mem_cons, List.not_mem_nil, or_false] at hi
                          subst hi
                          ·
                            refine any_op (by rfl) ?_
                            refine g_on (yi (t := 60) rfl rfl) ?_
                            refine s_call en77 ?_
                            try simp only [opv, n1, n2, n3, n4, Value.cells, List.map_toArray, List.map_cons, List.map_nil, List.append_toArray, List.cons_append, List.nil_append, Array.append_empty]
                            refine CallR.mono (c_ref07Done _ q z.2.1 Ab cb z.2.2 hcb (hS.owns (by repeat (first | exact Spl.nil | (apply Spl.cons (by repeat (first | exact Del.head | apply Del.tail))))))) ?_
                            rintro _ w39 ⟨rfl, hC39⟩
                            replace hS := hS.frame (by repeat (first | exact Spl.nil | (apply Spl.cons (by repeat (first | exact Del.head | apply Del.tail))))) hC39 (by intro r hr g hg; simp only [List.mem_cons, List.not_mem_nil, or_false] at hr; rcases hr with rfl | rfl | rfl <;> first | (simp [Res.reads] at hg; done) | exact .inr ⟨_, by simp, .inr hg⟩)
                            simp only [List.cons_append, List.nil_append] at hS
                            try simp only [opv, n1, n2, n3, n4, Value.cells]
                            rw [done_same hzo]
                            refine x_nil ?_
                            refine any_go (i := 38) (by rfl) (by decide +kernel) (by decide +kernel) noLate_nil (go_yields (w_on (yi (t := 60) rfl rfl)) (fun w hS => s_neq)) ?_
                            try simp only [opv, n1, n2, n3, n4, Value.cells]
                            try simp only [ne_eq, not_true_eq_false, decide_false, eq_self, decide_true]
                            first | refine any_go (i := 39) (by rfl) (by decide +kernel) (by decide +kernel) noLate_nil (go_yields w_none (fun w hS => s_pick_t)) ?_ | refine any_go (i := 39) (by rfl) (by decide +kernel) (by decide +kernel) noLate_nil (go_yields w_none (fun w hS => s_pick_f)) ?_
                            try simp only [opv, n1, n2, n3, n4, Value.cells]
                            refine any_nil (by kernel_rfl) (fun w40 hE => ?_)
                            replace hS := hS.ext hE
                            refine ⟨fun _ => hS.sel (by repeat (first | exact Sel.nil | (refine Sel.cons (by repeat (first | exact Del.head | apply Del.tail)) ?_))), ?_⟩
                            refine mix_leaf (by simp only [clob, List.foldl, n1, n2, n3, n4]) ?_
                            try simp only [n1, n2]
                            exact ⟨by trivial, z.2.1, z.2.2, Aa, ca, Ab, cb, hzb, hzo, by omega, hca, hcb, hS.sel (by repeat (first | exact Sel.nil | (refine Sel.cons (by repeat (first | exact Del.head | apply Del.tail)) ?_)))⟩
                    ·
                      refine any_op (by rfl) ?_
                      refine g_on (yi (t := 51) rfl rfl) ?_
                      first | refine s_go (m_load_obj Try.underlying47 (hS := hS)) ?_ | refine s_go (m_load_bx Try.underlying47 (hS := hS)) ?_ | refine s_go (m_load_rd Try.underlying47 (hS := hS)) ?_ | refine s_go (m_load_vec Try.underlying47 (hS := hS)) ?_
                      try simp only [opv, n1, n2, n3, n4, Value.cells, List.getElem_toArray, List.getElem_cons_zero, List.getElem_cons_succ]
                      refine x_nil ?_
                      refine any_step [26] (by kernel_rfl) (by decide) (fun w41 hE => ⟨fun _ => (hS.ext hE).sel (by repeat (first | exact Sel.nil | (refine Sel.cons (by repeat (first | exact Del.head | apply Del.tail)) ?_))), ?_⟩)
                      replace hS := hS.ext hE
                      intro i hi
                      simp only [List.mem_cons, List.not_mem_nil, or_false] at hi
                      subst hi
                      ·
                        refine any_op (by rfl) ?_
                        refine g_on (yi (t := 51) rfl rfl) ?_
                        refine s_call en75 ?_
                        try simp only [opv, n1, n2, n3, n4, Value.cells, List.map_toArray, List.map_cons, List.map_nil, List.append_toArray, List.cons_append, List.nil_append, Array.append_empty]
                        refine CallR.mono (c_cErr _ p (z.2.1) Aa ca (z.2.2) hca (hS.owns (by repeat (first | exact Spl.nil | (apply Spl.cons (by repeat (first | exact Del.head | apply Del.tail))))))) ?_
                        rintro _ w42 ⟨rfl, hC42⟩
                        replace hS := hS.frame (by repeat (first | exact Spl.nil | (apply Spl.cons (by repeat (first | exact Del.head | apply Del.tail))))) hC42 (by intro r hr g hg; simp only [List.mem_cons, List.not_mem_nil, or_false] at hr; rcases hr with rfl | rfl | rfl <;> first | (simp [Res.reads] at hg; done) | exact .inr ⟨_, by simp, .inr hg⟩)
                        simp only [List.cons_append, List.nil_append] at hS
                        try simp only [opv, n1, n2, n3, n4, Value.cells]
                        refine x_nil ?_
                        refine any_go (i := 31) (by rfl) (by decide +kernel) (by decide +kernel) noLate_nil (go_yields (w_on (yi (t := 51) rfl rfl)) (fun w hS => s_neq)) ?_
                        try simp only [opv, n1, n2, n3, n4, Value.cells]
                        try simp only [ne_eq, not_true_eq_false, decide_false, eq_self, decide_true]
                        first | refine any_go (i := 32) (by rfl) (by decide +kernel) (by decide +kernel) noLate_nil (go_yields w_none (fun w hS => s_pick_t)) ?_ | refine any_go (i := 32) (by rfl) (by decide +kernel) (by decide +kernel) noLate_nil (go_yields w_none (fun w hS => s_pick_f)) ?_
                        try simp only [opv, n1, n2, n3, n4, Value.cells]
                        refine any_go (i := 33) (by rfl) (by decide +kernel) (by decide +kernel) noLate_nil (go_yields w_none (fun w hS => s_move)) ?_
                        try simp only [opv, n1, n2, n3, n4, Value.cells]
                        refine any_go (i := 34) (by rfl) (by decide +kernel) (by decide +kernel) noLate_nil (go_yields (w_on (yi (t := 60) rfl rfl)) (fun w hS => s_move)) ?_
                        try simp only [opv, n1, n2, n3, n4, Value.cells]
                        refine any_go (i := 36) (by rfl) (by decide +kernel) (by decide +kernel) noLate_nil (go_yields (w_on (yi (t := 60) rfl rfl)) (fun w hS => s_move)) ?_
                        try simp only [opv, n1, n2, n3, n4, Value.cells]
                        refine any_step [35] (by kernel_rfl) (by decide) (fun w43 hE => ⟨fun _ => (hS.ext hE).sel (by repeat (first | exact Sel.nil | (refine Sel.cons (by repeat (first | exact Del.head | apply Del.tail)) ?_))), ?_⟩)
                        replace hS := hS.ext hE
                        intro i hi
                        simp only [List.mem_cons, List.not_mem_nil, or_false] at hi
                        subst hi
                        ·
                          refine any_op (by rfl) ?_
                          refine g_on (yi (t := 60) rfl rfl) ?_
                          refine s_call en76 ?_
                          try simp only [opv, n1, n2, n3, n4, Value.cells, List.map_toArray, List.map_cons, List.map_nil, List.append_toArray, List.cons_append, List.nil_append, Array.append_empty]
                          refine CallR.mono (c_cDone _ p (z.2.1) Aa ca (z.2.2) hca (hS.owns (by repeat (first | exact Spl.nil | (apply Spl.cons (by repeat (first | exact Del.head | apply Del.tail))))))) ?_
                          rintro _ w44 ⟨rfl, hC44⟩
                          replace hS := hS.frame (by repeat (first | exact Spl.nil | (apply Spl.cons (by repeat (first | exact Del.head | apply Del.tail))))) hC44 (by intro r hr g hg; simp only [List.mem_cons, List.not_mem_nil, or_false] at hr; rcases hr with rfl | rfl | rfl <;> first | (simp [Res.reads] at hg; done) | exact .inr ⟨_, by simp, .inr hg⟩)
                          simp only [List.cons_append, List.nil_append] at hS
                          try simp only [opv, n1, n2, n3, n4, Value.cells]
                          refine x_nil ?_
                          refine any_step [37] (by kernel_rfl) (by decide) (fun w45 hE => ⟨fun _ => (hS.ext hE).sel (by repeat (first | exact Sel.nil | (refine Sel.cons (by repeat (first | exact Del.head | apply Del.tail)) ?_))), ?_⟩)
                          replace hS := hS.ext hE
                          intro i hi
                          simp only [List.mem_cons, List.not_mem_nil, or_false] at hi
                          subst hi
                          ·
                            refine any_op (by rfl) ?_
                            refine g_on (yi (t := 60) rfl rfl) ?_
                            refine s_call en77 ?_
                            try simp only [opv, n1, n2, n3, n4, Value.cells, List.map_toArray, List.map_cons, List.map_nil, List.append_toArray, List.cons_append, List.nil_append, Array.append_empty]
                            refine CallR.mono (c_ref07Done _ q z.2.1 Ab cb z.2.2 hcb (hS.owns (by repeat (first | exact Spl.nil | (apply Spl.cons (by repeat (first | exact Del.head | apply Del.tail))))))) ?_
                            rintro _ w46 ⟨rfl, hC46⟩
                            replace hS := hS.frame (by repeat (first | exact Spl.nil | (apply Spl.cons (by repeat (first | exact Del.head | apply Del.tail))))) hC46 (by intro r hr g hg; simp only [List.mem_cons, List.not_mem_nil, or_false] at hr; rcases hr with rfl | rfl | rfl <;> first | (simp [Res.reads] at hg; done) | exact .inr ⟨_, by simp, .inr hg⟩)
                            simp only [List.cons_append, List.nil_append] at hS
                            try simp only [opv, n1, n2, n3, n4, Value.cells]
                            rw [done_same hzo]
                            refine x_nil ?_
                            refine any_go (i := 38) (by rfl) (by decide +kernel) (by decide +kernel) noLate_nil (go_yields (w_on (yi (t := 60) rfl rfl)) (fun w hS => s_neq)) ?_
                            try simp only [opv, n1, n2, n3, n4, Value.cells]
                            try simp only [ne_eq, not_true_eq_false, decide_false, eq_self, decide_true]
                            first | refine any_go (i := 39) (by rfl) (by decide +kernel) (by decide +kernel) noLate_nil (go_yields w_none (fun w hS => s_pick_t)) ?_ | refine any_go (i := 39) (by rfl) (by decide +kernel) (by decide +kernel) noLate_nil (go_yields w_none (fun w hS => s_pick_f)) ?_
                            try simp only [opv, n1, n2, n3, n4, Value.cells]
                            refine any_nil (by kernel_rfl) (fun w47 hE => ?_)
                            replace hS := hS.ext hE
                            refine ⟨fun _ => hS.sel (by repeat (first | exact Sel.nil | (refine Sel.cons (by repeat (first | exact Del.head | apply Del.tail)) ?_))), ?_⟩
                            refine mix_leaf (by simp only [clob, List.foldl, n1, n2, n3, n4]) ?_
                            try simp only [n1, n2]
                            exact ⟨by trivial, z.2.1, z.2.2, Aa, ca, Ab, cb, hzb, hzo, by omega, hca, hcb, hS.sel (by repeat (first | exact Sel.nil | (refine Sel.cons (by repeat (first | exact Del.head | apply Del.tail)) ?_)))⟩
        intro fm1 w48 hM
        obtain ⟨h66, e, ys, A1, c1, A2, c2, hyw, hek, hy3, hy1, hy2, hS⟩ := hM
        simp only [clob, List.foldl, n3, n4, h66]
        refine hK12 _ _ ?_
        refine x_cond_f (h := ?_)
        refine x_skip ?_
        refine hK11 _ _ ?_
        refine x_region ?_
        refine s_go (s_move) ?_
        try simp only [opv, n1, n2, n3, n4, Value.cells]
        refine s_go (s_add (hc := by first | exact wr_i64 (by omega) (by omega) | rfl)) ?_
        try simp only [opv, n1, n2, n3, n4, Value.cells]
        refine s_go (s_assign) ?_
        try simp only [opv, n1, n2, n3, n4, Value.cells]
        refine x_nil ?_
        refine loop_back (m' := n - (k + 1)) (by simp only [clob, List.foldl, n1, n2, n3, n4]) ?_ ?_
        · try simp only [opv, n1, n2, n3, n4, Value.cells]
          exact ⟨k + 1, by omega, by omega, by rfl, e, ys, A1, c1, A2, c2, hyw, hek, hy3, hy1, hy2, hS⟩
        · omega
      ·
        try simp only [decide_eq_true_eq, decide_eq_false_iff_not, Bool.not_eq_true', Bool.not_eq_false', Int.not_lt, Int.not_le, ne_eq, Decidable.not_not, bne_iff_ne, beq_iff_eq, not_true_eq_false, not_false_eq_true] at hc3
        refine x_exit (look_here ?_)
        refine hK7 _ _ ?_
        refine x_seq fun K13 hK13 => ?_
        refine x_region ?_
        refine s_call en65 ?_
        try simp only [opv, n1, n2, n3, n4, Value.cells, List.map_toArray, List.map_cons, List.map_nil, List.append_toArray, List.cons_append, List.nil_append, Array.append_empty]
        refine CallR.mono (c_law07alive _) ?_
        rintro _ w49 ⟨rfl, hE49⟩
        replace hS := hS.ext hE49
        try simp only [opv, n1, n2, n3, n4, Value.cells]
        refine s_go (s_assign) ?_
        try simp only [opv, n1, n2, n3, n4, Value.cells]
        refine x_nil ?_
        refine hK13 _ _ ?_
        refine x_ret ?_
        refine r_tmp rfl ?_
        exact ⟨rfl, hS.ext_of⟩
end Go.Proofs.Ytjgbcaegofpggaa
