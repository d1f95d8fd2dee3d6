/- Contracts of functions, printed by a program of this seat (wip/tools/gen.py) out of its specs. -/
import Derived.Test.YtpjpaipkkcengaaDl
import Derived.Test.YtpjpaipkkcengaaDh
import Derived.Test.YtpjpaipkkcengaaDk
set_option linter.unusedSimpArgs false
set_option linter.unusedVariables false
set_option maxHeartbeats 8000000
set_option maxRecDepth 100000
namespace Go.Proofs.Ytpjpaipkkcengaa
open Go.RowKit


theorem pc_name {ps : List Pc} {k : Nat} (hk : k < ps.length) (h : (ps.getD k pc0).nm.length = 8) : (((rowsOf pcL ps).drop (k * 13 + 3)).take 8).toArray = ic .u8 (ps.getD k pc0).nm := by
  have e : ((rowsOf pcL ps).drop (k * 13 + 3)).take 8 = ((pcL (ps.getD k pc0)).drop 3).take 8 := by
    rw [← rows_get pcL_len pc0 hk, List.drop_take, List.drop_drop, List.take_take]
    rfl
  rw [e]
  exact ic8 h
theorem allOut_drop {l : List Pc} {k : Nat} (h : k < l.length) : allOut (l.drop k) = pcOut (l.getD k pc0) ++ allOut (l.drop (k + 1)) := by
  have e : l.getD k pc0 = l[k] := by rw [List.getD_eq_getElem?_getD, List.getElem?_eq_getElem h]; rfl
  rw [e]
  unfold allOut
  rw [List.drop_eq_getElem_cons h, List.map_cons, List.flatten_cons]
theorem allOut_end {l : List Pc} {k : Nat} (h : l.length ≤ k) : allOut (l.drop k) = [] := by
  rw [List.drop_eq_nil_of_le h]; rfl
theorem allOut_byt {w : World} {l : List Pc} (h : ∀ p ∈ l, PcOk w p) : Byt (allOut l) := by
  intro y hy
  obtain ⟨a, ha, hy⟩ := List.mem_flatten.1 hy
  obtain ⟨p, hp, rfl⟩ := List.mem_map.1 ha
  exact pcOut_byt (h p hp) y hy
theorem allOut_dl {w : World} {l : List Pc} (h : ∀ p ∈ l, PcOk w p) (hb : ∀ p ∈ l, p.b.length ≤ 60) (k : Nat) : (allOut (l.drop k)).length ≤ 70 * l.length := by
  have := allOut_len (l := l.drop k) (fun p hp => h p (List.mem_of_mem_drop hp)) (fun p hp => hb p (List.mem_of_mem_drop hp))
  have h2 : (l.drop k).length ≤ l.length := by rw [List.length_drop]; omega
  omega
theorem rdS_nml (d : Int) (x : Nat) (n e : Int) (xs : List Int) : (rdS d x n e xs).1.2.2.1.length = 8 := by
  unfold rdS
  repeat' split
  all_goals first | rfl | exact namS_len _ _


theorem c_WireBack (w0 : World) (A : Option Addr) (n c : Nat) (ps : List Pc) (hr : Rd w0 A 13 n (rowsOf pcL ps)) (hl : ps.length = n) (hok : ∀ p ∈ ps, PcOk w0 p) (hnc : n ≤ c) (hn : n ≤ 9000000000000000) :
    CallR Try.prog 4 #[.slice A n c] w0 fun v w' => v = .bool true ∧ Ext w0 w' := by
  have hS := (St.start (S := NoB) w0).rd_old hr
  refine c_enter (l := [.slice A n c, undef, undef, undef, undef, undef, undef, undef, undef, undef, undef, undef, undef, undef, undef, undef, undef, undef, undef, undef, undef, undef, undef, undef, undef, undef, undef, undef, undef, undef, undef, undef, undef, undef, undef, undef, undef, undef, undef, undef, undef, undef, undef, undef, undef, undef, undef, undef, undef, undef, undef, undef, undef, undef, undef, undef, undef, undef, undef, undef, undef, undef, undef, undef, undef, undef, undef, undef, undef, undef, undef, undef, undef, undef, undef, undef, undef, undef, undef, undef, undef, undef, undef, undef, undef, undef, undef, undef, undef, undef, undef, undef, undef, undef, undef, undef, undef, undef, undef, undef, undef, undef, undef, undef, undef, undef, undef, undef, undef, undef, undef, undef, undef, undef, undef, undef, undef, undef, undef, undef, undef, undef, undef, undef, undef, undef, undef, undef, undef, undef, undef, undef, undef, undef, undef, undef, undef, undef, undef, undef, undef, undef, undef, undef, undef, undef, undef, undef, undef, undef, undef, undef, undef, undef, undef, undef, undef, undef, undef, undef, undef, undef, undef, undef, undef, undef, undef, undef, undef, undef, undef, undef, undef, undef, undef, undef, undef, undef, undef, undef, undef]) Try.func4 rfl (by simp only [Try.ntmps4, List.size_toArray, List.length_cons, List.length_nil, Nat.reduceAdd, Nat.reduceSub, Array.replicate_succ, Array.replicate_zero, List.push_toArray, List.append_toArray, List.nil_append, List.cons_append]) ?_
  refine x_seq fun K1 hK1 => ?_
  refine x_region ?_
  refine s_go (s_assign) ?_
  try simp only [opv, n1, n2, n3, n4, Value.cells]
  refine x_nil ?_
  refine hK1 _ _ ?_
  refine x_seq fun K2 hK2 => ?_
  refine x_seq fun K3 hK3 => ?_
  refine x_region ?_
  refine s_go (s_move) ?_
  try simp only [opv, n1, n2, n3, n4, Value.cells]
  refine s_call en26 ?_
  try simp only [opv, n1, n2, n3, n4, Value.cells, List.map_toArray, List.map_cons, List.map_nil, List.append_toArray, List.cons_append, List.nil_append, Array.append_empty]
  refine CallR.mono (c_ref07Large _ A n c ps (hS.hasRd (by repeat (first | exact Has.head | apply Has.tail))) hl (fun p hp => (hok p hp).ext hS.ext_of) hn) ?_
  rintro _ w1 ⟨rfl, hE1⟩
  replace hS := hS.ext hE1
  try simp only [opv, n1, n2, n3, n4, Value.cells]
  refine x_nil ?_
  refine hK3 _ _ ?_
  refine x_cond (ht := fun hc1 => ?_) (hf := fun hc1 => ?_)
  ·
    try simp only [decide_eq_true_eq, decide_eq_false_iff_not, Bool.not_eq_true', Bool.not_eq_false', Int.not_lt, Int.not_le, ne_eq, Decidable.not_not, bne_iff_ne, beq_iff_eq, not_true_eq_false, not_false_eq_true] at hc1
    refine x_seq fun K4 hK4 => ?_
    refine x_region ?_
    refine s_call en27 ?_
    try simp only [opv, n1, n2, n3, n4, Value.cells, List.map_toArray, List.map_cons, List.map_nil, List.append_toArray, List.cons_append, List.nil_append, Array.append_empty]
    refine CallR.mono (c_law07alive _) ?_
    rintro _ w2 ⟨rfl, hE2⟩
    replace hS := hS.ext hE2
    try simp only [opv, n1, n2, n3, n4, Value.cells]
    refine s_go (s_assign) ?_
    try simp only [opv, n1, n2, n3, n4, Value.cells]
    refine x_nil ?_
    refine hK4 _ _ ?_
    refine x_ret ?_
    refine r_tmp rfl ?_
    exact ⟨rfl, hS.ext_of⟩
  ·
    try simp only [decide_eq_true_eq, decide_eq_false_iff_not, Bool.not_eq_true', Bool.not_eq_false', Int.not_lt, Int.not_le, ne_eq, Decidable.not_not, bne_iff_ne, beq_iff_eq, not_true_eq_false, not_false_eq_true] at hc1
    obtain ⟨hl4, hb6⟩ := large_no hc1
    have hn4 : n ≤ 40 := by omega
    refine x_skip ?_
    refine hK2 _ _ ?_
    refine x_seq fun K5 hK5 => ?_
    refine x_region ?_
    refine s_call en28 ?_
    try simp only [opv, n1, n2, n3, n4, Value.cells, List.map_toArray, List.map_cons, List.map_nil, List.append_toArray, List.cons_append, List.nil_append, Array.append_empty]
    refine CallR.mono (c_wnew _) ?_
    rintro _ w3 ⟨p, rfl, hC3⟩
    replace hS := hS.call hC3
    simp only [List.cons_append, List.nil_append] at hS
    try simp only [opv, n1, n2, n3, n4, Value.cells]
    refine s_go (s_assign) ?_
    try simp only [opv, n1, n2, n3, n4, Value.cells]
    refine x_nil ?_
    refine hK5 _ _ ?_
    refine x_seq fun K6 hK6 => ?_
    refine x_seq fun K7 hK7 => ?_
    refine x_region ?_
    refine s_go (s_assign) ?_
    try simp only [opv, n1, n2, n3, n4, Value.cells]
    refine x_nil ?_
    refine hK7 _ _ ?_
    refine x_block ?_
    refine x_loop [2, 4, 17, 18, 19, 20, 21, 22, 23, 24, 25, 26, 27, 28, 29, 30, 31, 32, 33, 34, 35, 36, 37, 38, 39, 40, 41, 42, 43, 44, 45, 46, 47, 48, 49, 50, 51, 52, 53] (fun m f w => ∃ (k : Nat) (B : Option Addr) (d : Nat), k ≤ n ∧ m = n - k ∧ f 4 = .int .i64 (k : Int) ∧ (∀ j, j < k → (ps.getD j pc0).d = 2 → (ps.getD j pc0).nm = nm0 ∨ nright (ps.getD j pc0).nm = true) ∧ St NoB w0 w [.obj p (.cells #[.slice B (allOut (ps.take k)).length d] 153 (0, 0)), .vec B d 5 1 (allOut (ps.take k)).length ((allOut (ps.take k)).map (Value.int .u8)), .rd A 13 n (rowsOf pcL ps)]) (n) ?init1 (fun m1 f1 wl1 hI => ?_)
    case init1 =>
      try simp only [opv, n1, n2, n3, n4, Value.cells]
      exact ⟨0, none, 0, by omega, rfl, rfl, fun j hj => absurd hj (by omega), hS⟩
    obtain ⟨k, B, d, hk, hm, h4, hz, hS⟩ := hI
    simp only [clob, List.foldl, n3, n4, h4]
    have hal := allOut_len' (k := k) hok hb6
    have hal2 := allOut_len' (k := k + 1) hok hb6
    refine x_seq fun K8 hK8 => ?_
    refine x_seq fun K9 hK9 => ?_
    refine x_region ?_
    refine s_go (s_move) ?_
    try simp only [opv, n1, n2, n3, n4, Value.cells]
    refine s_go (s_move) ?_
    try simp only [opv, n1, n2, n3, n4, Value.cells]
    refine s_go (s_len_sl Try.underlying36) ?_
    try simp only [opv, n1, n2, n3, n4, Value.cells]
    refine s_go (s_lss) ?_
    try simp only [opv, n1, n2, n3, n4, Value.cells]
    refine x_nil ?_
    refine hK9 _ _ ?_
    refine x_cond (ht := fun hc2 => ?_) (hf := fun hc2 => ?_)
    ·
      try simp only [decide_eq_true_eq, decide_eq_false_iff_not, Bool.not_eq_true', Bool.not_eq_false', Int.not_lt, Int.not_le, ne_eq, Decidable.not_not, bne_iff_ne, beq_iff_eq, not_true_eq_false, not_false_eq_true] at hc2
      have hkp := getD_mem (l := ps) (k := k) (by omega)
      have hp := hok _ hkp
      have hp6 := hb6 _ hkp
      have hpo := pcOut_len hp.x hp.nl hp6
      have hny := rows_len pcL_len ps
      have hnl := hp.nl
      refine x_skip ?_
      refine hK8 _ _ ?_
      refine x_seq fun K10 hK10 => ?_
      refine x_block ?_
      refine x_seq fun K11 hK11 => ?_
      refine x_seq fun K12 hK12 => ?_
      refine x_region ?_
      refine s_go (s_move) ?_
      try simp only [opv, n1, n2, n3, n4, Value.cells]
      refine s_go (s_move) ?_
      try simp only [opv, n1, n2, n3, n4, Value.cells]
      first | refine s_go (m_indexAddr_rd Try.underlying36 ti45 (hS := hS)) ?_ | refine s_go (m_indexAddr_vec Try.underlying36 ti45 (hS := hS)) ?_
      try simp only [opv, n1, n2, n3, n4, Value.cells, Nat.mul_one, Nat.zero_add, Int.toNat_natCast, Int.reduceToNat]
      first | refine s_go (m_fieldAddr Try.underlying45 (hi := ti3)) ?_ | refine s_go (m_fieldAddr_rd Try.underlying45 (hi := ti3) (hS := hS)) ?_ | refine s_go (m_fieldAddr_vec Try.underlying45 (hi := ti3) (hS := hS)) ?_
      try simp only [opv, n1, n2, n3, n4, Value.cells, Nat.zero_add, Nat.add_zero, List.getElem_toArray, List.getElem_cons_zero, List.getElem_cons_succ]
      first | refine s_go (m_load_obj Try.underlying3 (hS := hS) (hv := pc_at (k := k) (j := 0) (by omega) (by decide) rfl)) ?_ | refine s_go (m_load_bx Try.underlying3 (hS := hS) (hv := pc_at (k := k) (j := 0) (by omega) (by decide) rfl)) ?_ | refine s_go (m_load_rd Try.underlying3 (hS := hS) (hv := pc_at (k := k) (j := 0) (by omega) (by decide) rfl)) ?_ | refine s_go (m_load_vec Try.underlying3 (hS := hS) (hv := pc_at (k := k) (j := 0) (by omega) (by decide) rfl)) ?_
      try simp only [opv, n1, n2, n3, n4, Value.cells, List.getElem_toArray, List.getElem_cons_zero, List.getElem_cons_succ]
      refine s_go (s_eql) ?_
      try simp only [opv, n1, n2, n3, n4, Value.cells]
      refine s_go (s_move) ?_
      try simp only [opv, n1, n2, n3, n4, Value.cells]
      refine s_part 29 rfl (fun hp1 => ?_) (fun hp1 => ?_)
      ·
        try simp only [n3, n4]
        try simp only [decide_eq_true_eq, decide_eq_false_iff_not, Bool.not_eq_true', Bool.not_eq_false', Int.not_lt, Int.not_le, ne_eq, Decidable.not_not] at hp1
        have hd2 : (ps.getD k pc0).d = 2 := hp1
        refine g_on (yi (t := 29) rfl rfl) ?_
        refine s_go (s_move) ?_
        try simp only [opv, n1, n2, n3, n4, Value.cells]
        refine g_on (yi (t := 29) rfl rfl) ?_
        refine s_go (s_move) ?_
        try simp only [opv, n1, n2, n3, n4, Value.cells]
        refine g_on (yi (t := 29) rfl rfl) ?_
        first | refine s_go (m_indexAddr_rd Try.underlying36 ti45 (hS := hS)) ?_ | refine s_go (m_indexAddr_vec Try.underlying36 ti45 (hS := hS)) ?_
        try simp only [opv, n1, n2, n3, n4, Value.cells, Nat.mul_one, Nat.zero_add, Int.toNat_natCast, Int.reduceToNat]
        refine g_on (yi (t := 29) rfl rfl) ?_
        first | refine s_go (m_fieldAddr Try.underlying45 (hi := ti42)) ?_ | refine s_go (m_fieldAddr_rd Try.underlying45 (hi := ti42) (hS := hS)) ?_ | refine s_go (m_fieldAddr_vec Try.underlying45 (hi := ti42) (hS := hS)) ?_
        try simp only [opv, n1, n2, n3, n4, Value.cells, Nat.zero_add, Nat.add_zero, List.getElem_toArray, List.getElem_cons_zero, List.getElem_cons_succ]
        refine g_on (yi (t := 29) rfl rfl) ?_
        first | refine s_go (m_load_row Try.underlying42 (hi := ti42) (hS := hS) (hfit := by rw [rows_len pcL_len]; omega)) ?_ | refine s_go (m_loada_obj Try.underlying42 (hi := ti42) (hS := hS) (hfit := by rw [rows_len pcL_len]; omega)) ?_ | refine s_go (m_loada_bx Try.underlying42 (hi := ti42) (hS := hS) (hfit := by rw [rows_len pcL_len]; omega)) ?_ | refine s_go (m_loada_rd Try.underlying42 (hi := ti42) (hS := hS) (hfit := by rw [rows_len pcL_len]; omega)) ?_ | refine s_go (m_loada_vec Try.underlying42 (hi := ti42) (hS := hS) (hfit := by rw [rows_len pcL_len]; omega)) ?_
        try simp only [opv, n1, n2, n3, n4, Value.cells, List.getElem_toArray, List.getElem_cons_zero, List.getElem_cons_succ]
        rw [pc_name (by omega) hnl]
        refine g_on (yi (t := 29) rfl rfl) ?_
        refine s_go (s_build_arr (cells := #[.int .u8 0, .int .u8 0, .int .u8 0, .int .u8 0, .int .u8 0, .int .u8 0, .int .u8 0, .int .u8 0]) Try.underlying42 ti42 ti5 (hc := by simp only [List.map_toArray, List.map_cons, List.map_nil, opv, n1, n2, n3, n4, Value.cells, List.toList_toArray]; (repeat (refine fill_cons rfl rfl (Nat.le_of_ble_eq_true rfl) ?_)); rfl)) ?_
        try simp only [opv, n1, n2, n3, n4, Value.cells]
        rw [show (#[.int .u8 0, .int .u8 0, .int .u8 0, .int .u8 0, .int .u8 0, .int .u8 0, .int .u8 0, .int .u8 0] : Array Value) = ic .u8 nm0 from rfl]
        refine g_on (yi (t := 29) rfl rfl) ?_
        refine s_go (s_neq_agg eqv42 (hg := eg42) (hX := zi_ic (by first | assumption | rfl)) (hY := zi_ic (by first | assumption | rfl)) (h1 := by first | assumption | rfl) (h2 := by first | assumption | rfl)) ?_
        try simp only [opv, n1, n2, n3, n4, Value.cells]
        first | refine s_go (s_pick_t) ?_ | refine s_go (s_pick_f) ?_
        try simp only [opv, n1, n2, n3, n4, Value.cells]
        refine s_go (s_move) ?_
        try simp only [opv, n1, n2, n3, n4, Value.cells]
        refine s_part 38 rfl (fun hp2 => ?_) (fun hp2 => ?_)
        ·
          try simp only [n3, n4]
          try simp only [decide_eq_true_eq, decide_eq_false_iff_not, Bool.not_eq_true', Bool.not_eq_false', Int.not_lt, Int.not_le, ne_eq, Decidable.not_not] at hp2
          have hnz : ¬ (ps.getD k pc0).nm = nm0 := by simpa using hp2
          refine g_on (yi (t := 38) rfl rfl) ?_
          refine s_go (s_move) ?_
          try simp only [opv, n1, n2, n3, n4, Value.cells]
          refine g_on (yi (t := 38) rfl rfl) ?_
          refine s_go (s_move) ?_
          try simp only [opv, n1, n2, n3, n4, Value.cells]
          refine g_on (yi (t := 38) rfl rfl) ?_
          first | refine s_go (m_indexAddr_rd Try.underlying36 ti45 (hS := hS)) ?_ | refine s_go (m_indexAddr_vec Try.underlying36 ti45 (hS := hS)) ?_
          try simp only [opv, n1, n2, n3, n4, Value.cells, Nat.mul_one, Nat.zero_add, Int.toNat_natCast, Int.reduceToNat]
          refine g_on (yi (t := 38) rfl rfl) ?_
          first | refine s_go (m_fieldAddr Try.underlying45 (hi := ti42)) ?_ | refine s_go (m_fieldAddr_rd Try.underlying45 (hi := ti42) (hS := hS)) ?_ | refine s_go (m_fieldAddr_vec Try.underlying45 (hi := ti42) (hS := hS)) ?_
          try simp only [opv, n1, n2, n3, n4, Value.cells, Nat.zero_add, Nat.add_zero, List.getElem_toArray, List.getElem_cons_zero, List.getElem_cons_succ]
          refine g_on (yi (t := 38) rfl rfl) ?_
          first | refine s_go (m_load_row Try.underlying42 (hi := ti42) (hS := hS) (hfit := by rw [rows_len pcL_len]; omega)) ?_ | refine s_go (m_loada_obj Try.underlying42 (hi := ti42) (hS := hS) (hfit := by rw [rows_len pcL_len]; omega)) ?_ | refine s_go (m_loada_bx Try.underlying42 (hi := ti42) (hS := hS) (hfit := by rw [rows_len pcL_len]; omega)) ?_ | refine s_go (m_loada_rd Try.underlying42 (hi := ti42) (hS := hS) (hfit := by rw [rows_len pcL_len]; omega)) ?_ | refine s_go (m_loada_vec Try.underlying42 (hi := ti42) (hS := hS) (hfit := by rw [rows_len pcL_len]; omega)) ?_
          try simp only [opv, n1, n2, n3, n4, Value.cells, List.getElem_toArray, List.getElem_cons_zero, List.getElem_cons_succ]
          rw [pc_name (by omega) hnl]
          refine g_on (yi (t := 38) rfl rfl) ?_
          refine s_call en29 ?_
          try simp only [opv, n1, n2, n3, n4, Value.cells, List.map_toArray, List.map_cons, List.map_nil, List.append_toArray, List.cons_append, List.nil_append, Array.append_empty]
          refine CallR.mono (c_ref06Right _ hnl hp.nb _) ?_
          rintro _ w4 ⟨rfl, hE4⟩
          replace hS := hS.ext hE4
          try simp only [opv, n1, n2, n3, n4, Value.cells]
          refine g_on (yi (t := 38) rfl rfl) ?_
          refine s_go (s_not) ?_
          try simp only [opv, n1, n2, n3, n4, Value.cells]
          first | refine s_go (s_pick_t) ?_ | refine s_go (s_pick_f) ?_
          try simp only [opv, n1, n2, n3, n4, Value.cells]
          refine x_nil ?_
          refine hK12 _ _ ?_
          refine x_cond (ht := fun hc3 => ?_) (hf := fun hc3 => ?_)
          ·
            try simp only [decide_eq_true_eq, decide_eq_false_iff_not, Bool.not_eq_true', Bool.not_eq_false', Int.not_lt, Int.not_le, ne_eq, Decidable.not_not, bne_iff_ne, beq_iff_eq, not_true_eq_false, not_false_eq_true] at hc3
            refine x_seq fun K13 hK13 => ?_
            refine x_region ?_
            refine s_call en27 ?_
            try simp only [opv, n1, n2, n3, n4, Value.cells, List.map_toArray, List.map_cons, List.map_nil, List.append_toArray, List.cons_append, List.nil_append, Array.append_empty]
            refine CallR.mono (c_law07alive _) ?_
            rintro _ w5 ⟨rfl, hE5⟩
            replace hS := hS.ext hE5
            try simp only [opv, n1, n2, n3, n4, Value.cells]
            refine s_go (s_assign) ?_
            try simp only [opv, n1, n2, n3, n4, Value.cells]
            refine x_nil ?_
            refine hK13 _ _ ?_
            refine x_ret ?_
            refine r_tmp rfl ?_
            exact ⟨rfl, hS.ext_of⟩
          ·
            try simp only [decide_eq_true_eq, decide_eq_false_iff_not, Bool.not_eq_true', Bool.not_eq_false', Int.not_lt, Int.not_le, ne_eq, Decidable.not_not, bne_iff_ne, beq_iff_eq, not_true_eq_false, not_false_eq_true] at hc3
            first | have hnr : nright (ps.getD k pc0).nm = true := by simpa using hc3 | skip
            refine x_skip ?_
            refine hK11 _ _ ?_
            refine x_region ?_
            refine s_go (s_move) ?_
            try simp only [opv, n1, n2, n3, n4, Value.cells]
            refine s_go (s_move) ?_
            try simp only [opv, n1, n2, n3, n4, Value.cells]
            refine s_go (s_move) ?_
            try simp only [opv, n1, n2, n3, n4, Value.cells]
            first | refine s_go (m_indexAddr_rd Try.underlying36 ti45 (hS := hS)) ?_ | refine s_go (m_indexAddr_vec Try.underlying36 ti45 (hS := hS)) ?_
            try simp only [opv, n1, n2, n3, n4, Value.cells, Nat.mul_one, Nat.zero_add, Int.toNat_natCast, Int.reduceToNat]
            first | refine s_go (m_load_row Try.underlying45 (hi := ti45) (hS := hS) (hfit := by rw [rows_len pcL_len]; omega)) ?_ | refine s_go (m_loada_obj Try.underlying45 (hi := ti45) (hS := hS) (hfit := by rw [rows_len pcL_len]; omega)) ?_ | refine s_go (m_loada_bx Try.underlying45 (hi := ti45) (hS := hS) (hfit := by rw [rows_len pcL_len]; omega)) ?_ | refine s_go (m_loada_rd Try.underlying45 (hi := ti45) (hS := hS) (hfit := by rw [rows_len pcL_len]; omega)) ?_ | refine s_go (m_loada_vec Try.underlying45 (hi := ti45) (hS := hS) (hfit := by rw [rows_len pcL_len]; omega)) ?_
            try simp only [opv, n1, n2, n3, n4, Value.cells, List.getElem_toArray, List.getElem_cons_zero, List.getElem_cons_succ]
            rw [pc_row (by omega)]
            replace hS := hS.rd_old hp.rd
            refine s_call en30 ?_
            try simp only [opv, n1, n2, n3, n4, Value.cells, List.map_toArray, List.map_cons, List.map_nil, List.append_toArray, List.cons_append, List.nil_append, Array.append_empty]
            refine CallR.mono (c_law07write _ p B d (allOut (ps.take k)) (by omega) (ps.getD k pc0) (hp.ext hS.ext_of) hp6 (hS.owns (by repeat (first | exact Spl.nil | (apply Spl.cons (by repeat (first | exact Del.head | apply Del.tail))))))) ?_
            rintro _ w6 ⟨rfl, A6, c6, hC6⟩
            replace hS := hS.frame (by repeat (first | exact Spl.nil | (apply Spl.cons (by repeat (first | exact Del.head | apply Del.tail))))) hC6 (by intro r hr g hg; simp only [List.mem_cons, List.not_mem_nil, or_false] at hr; rcases hr with rfl | rfl | rfl <;> first | (simp [Res.reads] at hg; done) | exact .inr ⟨_, by simp, .inr hg⟩)
            simp only [List.cons_append, List.nil_append] at hS
            rw [← allOut_take (by omega)] at hS
            try simp only [opv, n1, n2, n3, n4, Value.cells]
            refine x_nil ?_
            refine hK10 _ _ ?_
            refine x_region ?_
            refine s_go (s_move) ?_
            try simp only [opv, n1, n2, n3, n4, Value.cells]
            refine s_go (s_add (hc := by first | exact wr_i64 (by omega) (by omega) | rfl)) ?_
            try simp only [opv, n1, n2, n3, n4, Value.cells]
            refine s_go (s_assign) ?_
            try simp only [opv, n1, n2, n3, n4, Value.cells]
            refine x_nil ?_
            refine loop_back (m' := n - (k + 1)) (by simp only [clob, List.foldl, n1, n2, n3, n4]) ?_ ?_
            · try simp only [opv, n1, n2, n3, n4, Value.cells]
              exact ⟨k + 1, _, _, by omega, by omega, by rfl, fun j hj => by rcases Nat.lt_or_eq_of_le (Nat.le_of_lt_succ hj) with h | rfl; exact hz j h; first | exact fun h => absurd h hd2 | exact fun _ => .inl hnz | exact fun _ => .inr hnr, hS.sel (by repeat (first | exact Sel.nil | (refine Sel.cons (by repeat (first | exact Del.head | apply Del.tail)) ?_)))⟩
            · omega
        ·
          try simp only [n3, n4]
          try simp only [decide_eq_true_eq, decide_eq_false_iff_not, Bool.not_eq_true', Bool.not_eq_false', Int.not_lt, Int.not_le, ne_eq, Decidable.not_not] at hp2
          have hnz : (ps.getD k pc0).nm = nm0 := by simpa using hp2
          refine g_off (yi (t := 38) rfl rfl) ?_
          try simp only [opv, n1, n2, n3, n4, Value.cells]
          refine g_off (yi (t := 38) rfl rfl) ?_
          try simp only [opv, n1, n2, n3, n4, Value.cells]
          refine g_off (yi (t := 38) rfl rfl) ?_
          try simp only [opv, n1, n2, n3, n4, Value.cells]
          refine g_off (yi (t := 38) rfl rfl) ?_
          try simp only [opv, n1, n2, n3, n4, Value.cells]
          refine g_off (yi (t := 38) rfl rfl) ?_
          try simp only [opv, n1, n2, n3, n4, Value.cells]
          refine g_off (yi (t := 38) rfl rfl) ?_
          try simp only [opv, n1, n2, n3, n4, Value.cells]
          refine g_off (yi (t := 38) rfl rfl) ?_
          try simp only [opv, n1, n2, n3, n4, Value.cells]
          first | refine s_go (s_pick_t) ?_ | refine s_go (s_pick_f) ?_
          try simp only [opv, n1, n2, n3, n4, Value.cells]
          refine x_nil ?_
          refine hK12 _ _ ?_
          refine x_cond_f (h := ?_)
          first | have hnr : nright (ps.getD k pc0).nm = true := by simpa using @c | skip
          refine x_skip ?_
          refine hK11 _ _ ?_
          refine x_region ?_
          refine s_go (s_move) ?_
          try simp only [opv, n1, n2, n3, n4, Value.cells]
          refine s_go (s_move) ?_
          try simp only [opv, n1, n2, n3, n4, Value.cells]
          refine s_go (s_move) ?_
          try simp only [opv, n1, n2, n3, n4, Value.cells]
          first | refine s_go (m_indexAddr_rd Try.underlying36 ti45 (hS := hS)) ?_ | refine s_go (m_indexAddr_vec Try.underlying36 ti45 (hS := hS)) ?_
          try simp only [opv, n1, n2, n3, n4, Value.cells, Nat.mul_one, Nat.zero_add, Int.toNat_natCast, Int.reduceToNat]
          first | refine s_go (m_load_row Try.underlying45 (hi := ti45) (hS := hS) (hfit := by rw [rows_len pcL_len]; omega)) ?_ | refine s_go (m_loada_obj Try.underlying45 (hi := ti45) (hS := hS) (hfit := by rw [rows_len pcL_len]; omega)) ?_ | refine s_go (m_loada_bx Try.underlying45 (hi := ti45) (hS := hS) (hfit := by rw [rows_len pcL_len]; omega)) ?_ | refine s_go (m_loada_rd Try.underlying45 (hi := ti45) (hS := hS) (hfit := by rw [rows_len pcL_len]; omega)) ?_ | refine s_go (m_loada_vec Try.underlying45 (hi := ti45) (hS := hS) (hfit := by rw [rows_len pcL_len]; omega)) ?_
          try simp only [opv, n1, n2, n3, n4, Value.cells, List.getElem_toArray, List.getElem_cons_zero, List.getElem_cons_succ]
          rw [pc_row (by omega)]
          replace hS := hS.rd_old hp.rd
          refine s_call en30 ?_
          try simp only [opv, n1, n2, n3, n4, Value.cells, List.map_toArray, List.map_cons, List.map_nil, List.append_toArray, List.cons_append, List.nil_append, Array.append_empty]
          refine CallR.mono (c_law07write _ p B d (allOut (ps.take k)) (by omega) (ps.getD k pc0) (hp.ext hS.ext_of) hp6 (hS.owns (by repeat (first | exact Spl.nil | (apply Spl.cons (by repeat (first | exact Del.head | apply Del.tail))))))) ?_
          rintro _ w7 ⟨rfl, A7, c7, hC7⟩
          replace hS := hS.frame (by repeat (first | exact Spl.nil | (apply Spl.cons (by repeat (first | exact Del.head | apply Del.tail))))) hC7 (by intro r hr g hg; simp only [List.mem_cons, List.not_mem_nil, or_false] at hr; rcases hr with rfl | rfl | rfl <;> first | (simp [Res.reads] at hg; done) | exact .inr ⟨_, by simp, .inr hg⟩)
          simp only [List.cons_append, List.nil_append] at hS
          rw [← allOut_take (by omega)] at hS
          try simp only [opv, n1, n2, n3, n4, Value.cells]
          refine x_nil ?_
          refine hK10 _ _ ?_
          refine x_region ?_
          refine s_go (s_move) ?_
          try simp only [opv, n1, n2, n3, n4, Value.cells]
          refine s_go (s_add (hc := by first | exact wr_i64 (by omega) (by omega) | rfl)) ?_
          try simp only [opv, n1, n2, n3, n4, Value.cells]
          refine s_go (s_assign) ?_
          try simp only [opv, n1, n2, n3, n4, Value.cells]
          refine x_nil ?_
          refine loop_back (m' := n - (k + 1)) (by simp only [clob, List.foldl, n1, n2, n3, n4]) ?_ ?_
          · try simp only [opv, n1, n2, n3, n4, Value.cells]
            exact ⟨k + 1, _, _, by omega, by omega, by rfl, fun j hj => by rcases Nat.lt_or_eq_of_le (Nat.le_of_lt_succ hj) with h | rfl; exact hz j h; first | exact fun h => absurd h hd2 | exact fun _ => .inl hnz | exact fun _ => .inr hnr, hS.sel (by repeat (first | exact Sel.nil | (refine Sel.cons (by repeat (first | exact Del.head | apply Del.tail)) ?_)))⟩
          · omega
      ·
        try simp only [n3, n4]
        try simp only [decide_eq_true_eq, decide_eq_false_iff_not, Bool.not_eq_true', Bool.not_eq_false', Int.not_lt, Int.not_le, ne_eq, Decidable.not_not] at hp1
        have hd2 : ¬ (ps.getD k pc0).d = 2 := hp1
        refine g_off (yi (t := 29) rfl rfl) ?_
        try simp only [opv, n1, n2, n3, n4, Value.cells]
        refine g_off (yi (t := 29) rfl rfl) ?_
        try simp only [opv, n1, n2, n3, n4, Value.cells]
        refine g_off (yi (t := 29) rfl rfl) ?_
        try simp only [opv, n1, n2, n3, n4, Value.cells]
        refine g_off (yi (t := 29) rfl rfl) ?_
        try simp only [opv, n1, n2, n3, n4, Value.cells]
        refine g_off (yi (t := 29) rfl rfl) ?_
        try simp only [opv, n1, n2, n3, n4, Value.cells]
        refine g_off (yi (t := 29) rfl rfl) ?_
        try simp only [opv, n1, n2, n3, n4, Value.cells]
        refine g_off (yi (t := 29) rfl rfl) ?_
        try simp only [opv, n1, n2, n3, n4, Value.cells]
        first | refine s_go (s_pick_t) ?_ | refine s_go (s_pick_f) ?_
        try simp only [opv, n1, n2, n3, n4, Value.cells]
        refine s_go (s_move) ?_
        try simp only [opv, n1, n2, n3, n4, Value.cells]
        refine g_off (yi (t := 38) rfl rfl) ?_
        try simp only [opv, n1, n2, n3, n4, Value.cells]
        refine g_off (yi (t := 38) rfl rfl) ?_
        try simp only [opv, n1, n2, n3, n4, Value.cells]
        refine g_off (yi (t := 38) rfl rfl) ?_
        try simp only [opv, n1, n2, n3, n4, Value.cells]
        refine g_off (yi (t := 38) rfl rfl) ?_
        try simp only [opv, n1, n2, n3, n4, Value.cells]
        refine g_off (yi (t := 38) rfl rfl) ?_
        try simp only [opv, n1, n2, n3, n4, Value.cells]
        refine g_off (yi (t := 38) rfl rfl) ?_
        try simp only [opv, n1, n2, n3, n4, Value.cells]
        refine g_off (yi (t := 38) rfl rfl) ?_
        try simp only [opv, n1, n2, n3, n4, Value.cells]
        first | refine s_go (s_pick_t) ?_ | refine s_go (s_pick_f) ?_
        try simp only [opv, n1, n2, n3, n4, Value.cells]
        refine x_nil ?_
        refine hK12 _ _ ?_
        refine x_cond_f (h := ?_)
        first | have hnr : nright (ps.getD k pc0).nm = true := by simpa using @c | skip
        refine x_skip ?_
        refine hK11 _ _ ?_
        refine x_region ?_
        refine s_go (s_move) ?_
        try simp only [opv, n1, n2, n3, n4, Value.cells]
        refine s_go (s_move) ?_
        try simp only [opv, n1, n2, n3, n4, Value.cells]
        refine s_go (s_move) ?_
        try simp only [opv, n1, n2, n3, n4, Value.cells]
        first | refine s_go (m_indexAddr_rd Try.underlying36 ti45 (hS := hS)) ?_ | refine s_go (m_indexAddr_vec Try.underlying36 ti45 (hS := hS)) ?_
        try simp only [opv, n1, n2, n3, n4, Value.cells, Nat.mul_one, Nat.zero_add, Int.toNat_natCast, Int.reduceToNat]
        first | refine s_go (m_load_row Try.underlying45 (hi := ti45) (hS := hS) (hfit := by rw [rows_len pcL_len]; omega)) ?_ | refine s_go (m_loada_obj Try.underlying45 (hi := ti45) (hS := hS) (hfit := by rw [rows_len pcL_len]; omega)) ?_ | refine s_go (m_loada_bx Try.underlying45 (hi := ti45) (hS := hS) (hfit := by rw [rows_len pcL_len]; omega)) ?_ | refine s_go (m_loada_rd Try.underlying45 (hi := ti45) (hS := hS) (hfit := by rw [rows_len pcL_len]; omega)) ?_ | refine s_go (m_loada_vec Try.underlying45 (hi := ti45) (hS := hS) (hfit := by rw [rows_len pcL_len]; omega)) ?_
        try simp only [opv, n1, n2, n3, n4, Value.cells, List.getElem_toArray, List.getElem_cons_zero, List.getElem_cons_succ]
        rw [pc_row (by omega)]
        replace hS := hS.rd_old hp.rd
        refine s_call en30 ?_
        try simp only [opv, n1, n2, n3, n4, Value.cells, List.map_toArray, List.map_cons, List.map_nil, List.append_toArray, List.cons_append, List.nil_append, Array.append_empty]
        refine CallR.mono (c_law07write _ p B d (allOut (ps.take k)) (by omega) (ps.getD k pc0) (hp.ext hS.ext_of) hp6 (hS.owns (by repeat (first | exact Spl.nil | (apply Spl.cons (by repeat (first | exact Del.head | apply Del.tail))))))) ?_
        rintro _ w8 ⟨rfl, A8, c8, hC8⟩
        replace hS := hS.frame (by repeat (first | exact Spl.nil | (apply Spl.cons (by repeat (first | exact Del.head | apply Del.tail))))) hC8 (by intro r hr g hg; simp only [List.mem_cons, List.not_mem_nil, or_false] at hr; rcases hr with rfl | rfl | rfl <;> first | (simp [Res.reads] at hg; done) | exact .inr ⟨_, by simp, .inr hg⟩)
        simp only [List.cons_append, List.nil_append] at hS
        rw [← allOut_take (by omega)] at hS
        try simp only [opv, n1, n2, n3, n4, Value.cells]
        refine x_nil ?_
        refine hK10 _ _ ?_
        refine x_region ?_
        refine s_go (s_move) ?_
        try simp only [opv, n1, n2, n3, n4, Value.cells]
        refine s_go (s_add (hc := by first | exact wr_i64 (by omega) (by omega) | rfl)) ?_
        try simp only [opv, n1, n2, n3, n4, Value.cells]
        refine s_go (s_assign) ?_
        try simp only [opv, n1, n2, n3, n4, Value.cells]
        refine x_nil ?_
        refine loop_back (m' := n - (k + 1)) (by simp only [clob, List.foldl, n1, n2, n3, n4]) ?_ ?_
        · try simp only [opv, n1, n2, n3, n4, Value.cells]
          exact ⟨k + 1, _, _, by omega, by omega, by rfl, fun j hj => by rcases Nat.lt_or_eq_of_le (Nat.le_of_lt_succ hj) with h | rfl; exact hz j h; first | exact fun h => absurd h hd2 | exact fun _ => .inl hnz | exact fun _ => .inr hnr, hS.sel (by repeat (first | exact Sel.nil | (refine Sel.cons (by repeat (first | exact Del.head | apply Del.tail)) ?_)))⟩
        · omega
    ·
      try simp only [decide_eq_true_eq, decide_eq_false_iff_not, Bool.not_eq_true', Bool.not_eq_false', Int.not_lt, Int.not_le, ne_eq, Decidable.not_not, bne_iff_ne, beq_iff_eq, not_true_eq_false, not_false_eq_true] at hc2
      have hnk : ∀ j, j < n → (ps.getD j pc0).d = 2 → (ps.getD j pc0).nm = nm0 ∨ nright (ps.getD j pc0).nm = true := fun j hj => hz j (by omega)
      rw [List.take_of_length_le (by omega)] at hS hal
      refine x_exit (look_here ?_)
      refine hK6 _ _ ?_
      refine x_seq fun K14 hK14 => ?_
      refine x_region ?_
      refine s_go (s_move) ?_
      try simp only [opv, n1, n2, n3, n4, Value.cells]
      refine s_call en32 ?_
      try simp only [opv, n1, n2, n3, n4, Value.cells, List.map_toArray, List.map_cons, List.map_nil, List.append_toArray, List.cons_append, List.nil_append, Array.append_empty]
      refine CallR.mono (c_wout _ p _ _ (allOut ps) (by omega) (hS.owns (by repeat (first | exact Spl.nil | (apply Spl.cons (by repeat (first | exact Del.head | apply Del.tail))))))) ?_
      rintro _ w9 ⟨A9, c9, rfl, hC9⟩
      replace hS := hS.frame (by repeat (first | exact Spl.nil | (apply Spl.cons (by repeat (first | exact Del.head | apply Del.tail))))) hC9 (by intro r hr g hg; simp only [List.mem_cons, List.not_mem_nil, or_false] at hr; rcases hr with rfl | rfl | rfl <;> first | (simp [Res.reads] at hg; done) | exact .inr ⟨_, by simp, .inr hg⟩)
      simp only [List.cons_append, List.nil_append] at hS
      have hcap := hS.vec_cap (by exact Has.head)
      replace hS := hS.vec_rd (by exact Upd.head)
      try simp only [opv, n1, n2, n3, n4, Value.cells]
      refine s_call en31 ?_
      try simp only [opv, n1, n2, n3, n4, Value.cells, List.map_toArray, List.map_cons, List.map_nil, List.append_toArray, List.cons_append, List.nil_append, Array.append_empty]
      refine CallR.mono (c_cFrom _ _ _ (allOut ps) (hS.hasRd (by repeat (first | exact Has.head | apply Has.tail))) (by omega)) ?_
      rintro _ w10 ⟨q, Aa, ca, rfl, hcq, hC10⟩
      replace hS := hS.call hC10
      simp only [List.cons_append, List.nil_append] at hS
      replace hS := hS.vec_rd (by exact Upd.tail Upd.head)
      try simp only [opv, n1, n2, n3, n4, Value.cells]
      refine s_go (s_assign) ?_
      try simp only [opv, n1, n2, n3, n4, Value.cells]
      refine x_nil ?_
      refine hK14 _ _ ?_
      refine x_seq fun K15 hK15 => ?_
      refine x_seq fun K16 hK16 => ?_
      refine x_region ?_
      refine s_go (s_assign) ?_
      try simp only [opv, n1, n2, n3, n4, Value.cells]
      refine x_nil ?_
      refine hK16 _ _ ?_
      refine x_block ?_
      refine x_loop [2, 6, 7, 8, 9, 57, 58, 59, 60, 61, 62, 63, 64, 65, 66, 67, 68, 69, 70, 71, 72, 73, 74, 75, 76, 77, 78, 79, 80, 81, 82, 83, 84, 85, 86, 87, 88, 89, 90, 91, 92, 93, 94, 95, 96, 97, 98, 99, 100, 101, 102, 103, 104, 105, 106, 107, 108] (fun m f w => ∃ (k : Nat) (A1 : Option Addr) (c1 : Nat), k ≤ n ∧ m = n - k ∧ f 6 = .int .i64 (k : Int) ∧ (allOut (ps.drop k)).length ≤ c1 ∧ St NoB w0 w [.obj q (.cells #[.int .i64 0, .slice A1 (allOut (ps.drop k)).length c1] 162 (0, 0)), .rd A1 1 (allOut (ps.drop k)).length ((allOut (ps.drop k)).map (Value.int .u8)), .rd A 13 n (rowsOf pcL ps)]) (n) ?init2 (fun m2 f2 wl2 hI => ?_)
      case init2 =>
        try simp only [opv, n1, n2, n3, n4, Value.cells]
        exact ⟨0, Aa, ca, by omega, rfl, rfl, hcq, hS.sel (by repeat (first | exact Sel.nil | (refine Sel.cons (by repeat (first | exact Del.head | apply Del.tail)) ?_)))⟩
      obtain ⟨k, A1, c1, hk, hm, h6, hc1, hS⟩ := hI
      simp only [clob, List.foldl, n3, n4, h6]
      have hal3 := allOut_dl hok hb6 k
      refine x_seq fun K17 hK17 => ?_
      refine x_seq fun K18 hK18 => ?_
      refine x_region ?_
      refine s_go (s_move) ?_
      try simp only [opv, n1, n2, n3, n4, Value.cells]
      refine s_go (s_move) ?_
      try simp only [opv, n1, n2, n3, n4, Value.cells]
      refine s_go (s_len_sl Try.underlying36) ?_
      try simp only [opv, n1, n2, n3, n4, Value.cells]
      refine s_go (s_lss) ?_
      try simp only [opv, n1, n2, n3, n4, Value.cells]
      refine x_nil ?_
      refine hK18 _ _ ?_
      refine x_cond (ht := fun hc6 => ?_) (hf := fun hc6 => ?_)
      ·
        try simp only [decide_eq_true_eq, decide_eq_false_iff_not, Bool.not_eq_true', Bool.not_eq_false', Int.not_lt, Int.not_le, ne_eq, Decidable.not_not, bne_iff_ne, beq_iff_eq, not_true_eq_false, not_false_eq_true] at hc6
        have hkp := getD_mem (l := ps) (k := k) (by omega)
        have hp := hok _ hkp
        have hp6 := hb6 _ hkp
        have hpo := pcOut_len hp.x hp.nl hp6
        have hnm := hnk k (by omega)
        have hny := rows_len pcL_len ps
        have had := allOut_drop (l := ps) (k := k) (by omega)
        obtain ⟨pk, hpk⟩ : ∃ pk, ps.getD k pc0 = pk := ⟨_, rfl⟩
        have hpr := pc_row (ps := ps) (k := k) (by omega)
        rw [hpk] at hp hp6 hpo hnm had hpr
        have hnl := hp.nl
        have hby : Byt (allOut (ps.drop k)) := allOut_byt (fun p hp => hok p (List.mem_of_mem_drop hp))
        rw [had] at hS hc1 hal3 hby
        obtain ⟨z, hz⟩ : ∃ z, rdS pk.d pk.x (pk.b.length : Int) 0 (pcOut pk ++ allOut (ps.drop (k + 1))) = z := ⟨_, rfl⟩
        have hb := rdS_back hp hp6 hnm (allOut (ps.drop (k + 1)))
        have hzn := rdS_nml pk.d pk.x (pk.b.length : Int) 0 (pcOut pk ++ allOut (ps.drop (k + 1)))
        rw [hz] at hb hzn
        obtain ⟨hz2, hb0, hb1, hb2, hb3⟩ := hb
        have hz21 : z.2.1 = 0 := by rw [hz2]
        have hz22 : z.2.2 = allOut (ps.drop (k + 1)) := by rw [hz2]
        refine x_skip ?_
        refine hK17 _ _ ?_
        refine x_seq fun K19 hK19 => ?_
        refine x_block ?_
        refine x_seq fun K20 hK20 => ?_
        refine x_region ?_
        replace hS := hS.rd_old hp.rd
        refine s_go (s_move) ?_
        try simp only [opv, n1, n2, n3, n4, Value.cells]
        refine s_go (s_move) ?_
        try simp only [opv, n1, n2, n3, n4, Value.cells]
        first | refine s_go (m_indexAddr_rd Try.underlying36 ti45 (hS := hS)) ?_ | refine s_go (m_indexAddr_vec Try.underlying36 ti45 (hS := hS)) ?_
        try simp only [opv, n1, n2, n3, n4, Value.cells, Nat.mul_one, Nat.zero_add, Int.toNat_natCast, Int.reduceToNat]
        first | refine s_go (m_load_row Try.underlying45 (hi := ti45) (hS := hS) (hfit := by rw [rows_len pcL_len]; omega)) ?_ | refine s_go (m_loada_obj Try.underlying45 (hi := ti45) (hS := hS) (hfit := by rw [rows_len pcL_len]; omega)) ?_ | refine s_go (m_loada_bx Try.underlying45 (hi := ti45) (hS := hS) (hfit := by rw [rows_len pcL_len]; omega)) ?_ | refine s_go (m_loada_rd Try.underlying45 (hi := ti45) (hS := hS) (hfit := by rw [rows_len pcL_len]; omega)) ?_ | refine s_go (m_loada_vec Try.underlying45 (hi := ti45) (hS := hS) (hfit := by rw [rows_len pcL_len]; omega)) ?_
        try simp only [opv, n1, n2, n3, n4, Value.cells, List.getElem_toArray, List.getElem_cons_zero, List.getElem_cons_succ]
        rw [hpr]
        refine m_alloc ti45 hS (fun w11 g11 hS => ?_)
        try simp only [opv, n1, n2, n3, n4, Value.cells, Array.toArray_toList] at hS ⊢
        first | refine m_store_obj ti45 (hS := hS) (h := fun w12 hS => ?_) | refine m_store_vec ti45 (hS := hS) (h := fun w12 hS => ?_)
        try simp only [opv, n1, n2, n3, n4, Value.cells, Array.toArray_toList] at hS ⊢
        replace hS : St NoB w0 w12 (.obj _ (.cells (pP pk) 45 (0, 0)) :: _) := hS
        refine x_nil ?_
        refine hK20 _ _ ?_
        refine x_seq fun K21 hK21 => ?_
        refine x_region ?_
        first | refine s_go (m_fieldAddr Try.underlying45 (hi := ti43)) ?_ | refine s_go (m_fieldAddr_rd Try.underlying45 (hi := ti43) (hS := hS)) ?_ | refine s_go (m_fieldAddr_vec Try.underlying45 (hi := ti43) (hS := hS)) ?_
        try simp only [opv, n1, n2, n3, n4, Value.cells, Nat.zero_add, Nat.add_zero, List.getElem_toArray, List.getElem_cons_zero, List.getElem_cons_succ]
        first | refine s_go (m_load_obj Try.underlying43 (hS := hS)) ?_ | refine s_go (m_load_bx Try.underlying43 (hS := hS)) ?_ | refine s_go (m_load_rd Try.underlying43 (hS := hS)) ?_ | refine s_go (m_load_vec Try.underlying43 (hS := hS)) ?_
        try simp only [opv, n1, n2, n3, n4, Value.cells, List.getElem_toArray, List.getElem_cons_zero, List.getElem_cons_succ]
        refine s_go (s_len_sl Try.underlying43) ?_
        try simp only [opv, n1, n2, n3, n4, Value.cells]
        first | refine s_go (m_fieldAddr Try.underlying45 (hi := ti3)) ?_ | refine s_go (m_fieldAddr_rd Try.underlying45 (hi := ti3) (hS := hS)) ?_ | refine s_go (m_fieldAddr_vec Try.underlying45 (hi := ti3) (hS := hS)) ?_
        try simp only [opv, n1, n2, n3, n4, Value.cells, Nat.zero_add, Nat.add_zero, List.getElem_toArray, List.getElem_cons_zero, List.getElem_cons_succ]
        first | refine m_store_obj ti3 (hS := hS) (h := fun w13 hS => ?_) | refine m_store_vec ti3 (hS := hS) (h := fun w13 hS => ?_)
        try simp only [opv, n1, n2, n3, n4, Value.cells, Array.toArray_toList] at hS ⊢
        replace hS : St NoB w0 w13 (.obj _ (.cells (pP ⟨pk.d, pk.x, pk.c, pk.nm, pk.A, pk.cap, pk.b, (pk.b.length : Int)⟩) 45 (0, 0)) :: _) := hS
        refine x_nil ?_
        refine hK21 _ _ ?_
        refine x_seq fun K22 hK22 => ?_
        refine x_region ?_
        refine s_go (s_move) ?_
        try simp only [opv, n1, n2, n3, n4, Value.cells]
        first | refine s_go (m_load_row Try.underlying45 (hi := ti45) (hS := hS)) ?_ | refine s_go (m_loada_obj Try.underlying45 (hi := ti45) (hS := hS)) ?_ | refine s_go (m_loada_bx Try.underlying45 (hi := ti45) (hS := hS)) ?_ | refine s_go (m_loada_rd Try.underlying45 (hi := ti45) (hS := hS)) ?_ | refine s_go (m_loada_vec Try.underlying45 (hi := ti45) (hS := hS)) ?_
        try simp only [opv, n1, n2, n3, n4, Value.cells, List.getElem_toArray, List.getElem_cons_zero, List.getElem_cons_succ]
        refine s_call en33 ?_
        try simp only [opv, n1, n2, n3, n4, Value.cells, List.map_toArray, List.map_cons, List.map_nil, List.append_toArray, List.cons_append, List.nil_append, Array.append_empty]
        refine CallR.mono (c_law07read _ q 0 A1 c1 (pcOut pk ++ allOut (ps.drop (k + 1))) hc1 hby (by omega) ⟨pk.d, pk.x, pk.c, pk.nm, pk.A, pk.cap, pk.b, (pk.b.length : Int)⟩ hp.x (by show ((pk.b.length : Nat) : Int) ≤ _; omega) (hS.owns (by repeat (first | exact Spl.nil | (apply Spl.cons (by repeat (first | exact Del.head | apply Del.tail))))))) ?_
        rintro _ w14 ⟨Ba, ka, rfl, Ab, cb, hcb, hR14, hC14⟩
        replace hS := hS.frame (by repeat (first | exact Spl.nil | (apply Spl.cons (by repeat (first | exact Del.head | apply Del.tail))))) hC14 (by intro r hr b hb; simp only [List.mem_cons, List.not_mem_nil, or_false] at hr; rcases hr with rfl | rfl | rfl <;> first | (simp [Res.reads] at hb; done) | exact hR14 b hb)
        simp only [List.cons_append, List.nil_append, hz, hz21, hz22] at hS hcb ⊢
        try simp only [opv, n1, n2, n3, n4, Value.cells]
        refine m_alloc ti45 hS (fun w15 g15 hS => ?_)
        try simp only [opv, n1, n2, n3, n4, Value.cells, Array.toArray_toList] at hS ⊢
        first | refine m_store_obj ti45 (hS := hS) (h := fun w16 hS => ?_) | refine m_store_vec ti45 (hS := hS) (h := fun w16 hS => ?_)
        try simp only [opv, n1, n2, n3, n4, Value.cells, Array.toArray_toList] at hS ⊢
        replace hS : St NoB w0 w16 (.obj _ (.cells (pA pk.d z.1.1 z.1.2.1 z.1.2.2.1 Ba z.1.2.2.2.length ka 0) 45 (0, 0)) :: _) := hS
        refine x_nil ?_
        refine hK22 _ _ ?_
        refine x_seq fun K23 hK23 => ?_
        refine x_region ?_
        refine s_go (s_assign) ?_
        try simp only [opv, n1, n2, n3, n4, Value.cells]
        refine x_nil ?_
        refine hK23 _ _ ?_
        refine x_seq fun K24 hK24 => ?_
        refine x_seq fun K25 hK25 => ?_
        refine x_region ?_
        first | refine s_go (m_fieldAddr Try.underlying45 (hi := ti3)) ?_ | refine s_go (m_fieldAddr_rd Try.underlying45 (hi := ti3) (hS := hS)) ?_ | refine s_go (m_fieldAddr_vec Try.underlying45 (hi := ti3) (hS := hS)) ?_
        try simp only [opv, n1, n2, n3, n4, Value.cells, Nat.zero_add, Nat.add_zero, List.getElem_toArray, List.getElem_cons_zero, List.getElem_cons_succ]
        first | refine s_go (m_load_obj Try.underlying3 (hS := hS)) ?_ | refine s_go (m_load_bx Try.underlying3 (hS := hS)) ?_ | refine s_go (m_load_rd Try.underlying3 (hS := hS)) ?_ | refine s_go (m_load_vec Try.underlying3 (hS := hS)) ?_
        try simp only [opv, n1, n2, n3, n4, Value.cells, List.getElem_toArray, List.getElem_cons_zero, List.getElem_cons_succ]
        refine x_nil ?_
        refine hK25 _ _ ?_
        refine x_block ?_
        refine x_seq fun K26 hK26 => ?_
        refine x_region ?_
        refine s_go (s_eql) ?_
        try simp only [opv, n1, n2, n3, n4, Value.cells]
        refine s_go (s_assign) ?_
        try simp only [opv, n1, n2, n3, n4, Value.cells]
        refine x_nil ?_
        refine hK26 _ _ ?_
        refine x_cond (ht := fun hc7 => ?_) (hf := fun hc7 => ?_)
        ·
          try simp only [decide_eq_true_eq, decide_eq_false_iff_not, Bool.not_eq_true', Bool.not_eq_false', Int.not_lt, Int.not_le, ne_eq, Decidable.not_not, bne_iff_ne, beq_iff_eq, not_true_eq_false, not_false_eq_true] at hc7
          have h0 : pk.d = 0 := hc7
          refine x_region ?_
          rw [hb0 h0] at hS
          first | refine s_go (m_fieldAddr Try.underlying45 (hi := ti40)) ?_ | refine s_go (m_fieldAddr_rd Try.underlying45 (hi := ti40) (hS := hS)) ?_ | refine s_go (m_fieldAddr_vec Try.underlying45 (hi := ti40) (hS := hS)) ?_
          try simp only [opv, n1, n2, n3, n4, Value.cells, Nat.zero_add, Nat.add_zero, List.getElem_toArray, List.getElem_cons_zero, List.getElem_cons_succ]
          first | refine s_go (m_load_obj Try.underlying40 (hS := hS)) ?_ | refine s_go (m_load_bx Try.underlying40 (hS := hS)) ?_ | refine s_go (m_load_rd Try.underlying40 (hS := hS)) ?_ | refine s_go (m_load_vec Try.underlying40 (hS := hS)) ?_
          try simp only [opv, n1, n2, n3, n4, Value.cells, List.getElem_toArray, List.getElem_cons_zero, List.getElem_cons_succ]
          first | refine s_go (m_fieldAddr Try.underlying45 (hi := ti40)) ?_ | refine s_go (m_fieldAddr_rd Try.underlying45 (hi := ti40) (hS := hS)) ?_ | refine s_go (m_fieldAddr_vec Try.underlying45 (hi := ti40) (hS := hS)) ?_
          try simp only [opv, n1, n2, n3, n4, Value.cells, Nat.zero_add, Nat.add_zero, List.getElem_toArray, List.getElem_cons_zero, List.getElem_cons_succ]
          first | refine s_go (m_load_obj Try.underlying40 (hS := hS)) ?_ | refine s_go (m_load_bx Try.underlying40 (hS := hS)) ?_ | refine s_go (m_load_rd Try.underlying40 (hS := hS)) ?_ | refine s_go (m_load_vec Try.underlying40 (hS := hS)) ?_
          try simp only [opv, n1, n2, n3, n4, Value.cells, List.getElem_toArray, List.getElem_cons_zero, List.getElem_cons_succ]
          refine s_go (s_eql) ?_
          try simp only [opv, n1, n2, n3, n4, Value.cells]
          try simp only [eq_self, decide_true, beq_self_eq_true, Bool.and_self]
          refine s_go (s_assign) ?_
          try simp only [opv, n1, n2, n3, n4, Value.cells]
          refine x_nil ?_
          refine hK24 _ _ ?_
          refine x_seq fun K27 hK27 => ?_
          refine x_region ?_
          refine s_go (s_move) ?_
          try simp only [opv, n1, n2, n3, n4, Value.cells]
          refine s_go (s_not) ?_
          try simp only [opv, n1, n2, n3, n4, Value.cells]
          simp only [Bool.not_true]
          refine s_go (s_move) ?_
          try simp only [opv, n1, n2, n3, n4, Value.cells]
          refine g_on (yi (t := 104) rfl rfl) ?_
          refine s_go (s_move) ?_
          try simp only [opv, n1, n2, n3, n4, Value.cells]
          refine g_on (yi (t := 104) rfl rfl) ?_
          refine s_call en35 ?_
          try simp only [opv, n1, n2, n3, n4, Value.cells, List.map_toArray, List.map_cons, List.map_nil, List.append_toArray, List.cons_append, List.nil_append, Array.append_empty]
          refine CallR.mono (c_cErr _ q (0) Ab cb (allOut (ps.drop (k + 1))) hcb (hS.owns (by repeat (first | exact Spl.nil | (apply Spl.cons (by repeat (first | exact Del.head | apply Del.tail))))))) ?_
          rintro _ w17 ⟨rfl, hC17⟩
          replace hS := hS.frame (by repeat (first | exact Spl.nil | (apply Spl.cons (by repeat (first | exact Del.head | apply Del.tail))))) hC17 (by intro r hr g hg; simp only [List.mem_cons, List.not_mem_nil, or_false] at hr; rcases hr with rfl | rfl | rfl <;> first | (simp [Res.reads] at hg; done) | exact .inr ⟨_, by simp, .inr hg⟩)
          simp only [List.cons_append, List.nil_append] at hS
          try simp only [opv, n1, n2, n3, n4, Value.cells]
          refine g_on (yi (t := 104) rfl rfl) ?_
          refine s_go (s_neq) ?_
          try simp only [opv, n1, n2, n3, n4, Value.cells]
          try simp only [ne_eq, not_true_eq_false, decide_false, eq_self, decide_true]
          first | refine s_go (s_pick_t) ?_ | refine s_go (s_pick_f) ?_
          try simp only [opv, n1, n2, n3, n4, Value.cells]
          refine x_nil ?_
          refine hK27 _ _ ?_
          refine x_cond_f (h := ?_)
          refine x_skip ?_
          refine hK19 _ _ ?_
          refine x_region ?_
          refine s_go (s_move) ?_
          try simp only [opv, n1, n2, n3, n4, Value.cells]
          refine s_go (s_add (hc := by first | exact wr_i64 (by omega) (by omega) | rfl)) ?_
          try simp only [opv, n1, n2, n3, n4, Value.cells]
          refine s_go (s_assign) ?_
          try simp only [opv, n1, n2, n3, n4, Value.cells]
          refine x_nil ?_
          refine loop_back (m' := n - (k + 1)) (by simp only [clob, List.foldl, n1, n2, n3, n4]) ?_ ?_
          · try simp only [opv, n1, n2, n3, n4, Value.cells]
            exact ⟨k + 1, _, _, by omega, by omega, by rfl, by assumption, hS.sel (by repeat (first | exact Sel.nil | (refine Sel.cons (by repeat (first | exact Del.head | apply Del.tail)) ?_)))⟩
          · omega
        ·
          try simp only [decide_eq_true_eq, decide_eq_false_iff_not, Bool.not_eq_true', Bool.not_eq_false', Int.not_lt, Int.not_le, ne_eq, Decidable.not_not, bne_iff_ne, beq_iff_eq, not_true_eq_false, not_false_eq_true] at hc7
          have h0 : ¬ pk.d = 0 := hc7
          refine x_seq fun K28 hK28 => ?_
          refine x_region ?_
          refine s_go (s_eql) ?_
          try simp only [opv, n1, n2, n3, n4, Value.cells]
          refine s_go (s_assign) ?_
          try simp only [opv, n1, n2, n3, n4, Value.cells]
          refine x_nil ?_
          refine hK28 _ _ ?_
          refine x_cond (ht := fun hc9 => ?_) (hf := fun hc9 => ?_)
          ·
            try simp only [decide_eq_true_eq, decide_eq_false_iff_not, Bool.not_eq_true', Bool.not_eq_false', Int.not_lt, Int.not_le, ne_eq, Decidable.not_not, bne_iff_ne, beq_iff_eq, not_true_eq_false, not_false_eq_true] at hc9
            have h1 : pk.d = 1 := hc9
            refine x_region ?_
            rw [hb1 h1] at hS
            first | refine s_go (m_fieldAddr Try.underlying45 (hi := ti5)) ?_ | refine s_go (m_fieldAddr_rd Try.underlying45 (hi := ti5) (hS := hS)) ?_ | refine s_go (m_fieldAddr_vec Try.underlying45 (hi := ti5) (hS := hS)) ?_
            try simp only [opv, n1, n2, n3, n4, Value.cells, Nat.zero_add, Nat.add_zero, List.getElem_toArray, List.getElem_cons_zero, List.getElem_cons_succ]
            first | refine s_go (m_load_obj Try.underlying5 (hS := hS)) ?_ | refine s_go (m_load_bx Try.underlying5 (hS := hS)) ?_ | refine s_go (m_load_rd Try.underlying5 (hS := hS)) ?_ | refine s_go (m_load_vec Try.underlying5 (hS := hS)) ?_
            try simp only [opv, n1, n2, n3, n4, Value.cells, List.getElem_toArray, List.getElem_cons_zero, List.getElem_cons_succ]
            first | refine s_go (m_fieldAddr Try.underlying45 (hi := ti5)) ?_ | refine s_go (m_fieldAddr_rd Try.underlying45 (hi := ti5) (hS := hS)) ?_ | refine s_go (m_fieldAddr_vec Try.underlying45 (hi := ti5) (hS := hS)) ?_
            try simp only [opv, n1, n2, n3, n4, Value.cells, Nat.zero_add, Nat.add_zero, List.getElem_toArray, List.getElem_cons_zero, List.getElem_cons_succ]
            first | refine s_go (m_load_obj Try.underlying5 (hS := hS)) ?_ | refine s_go (m_load_bx Try.underlying5 (hS := hS)) ?_ | refine s_go (m_load_rd Try.underlying5 (hS := hS)) ?_ | refine s_go (m_load_vec Try.underlying5 (hS := hS)) ?_
            try simp only [opv, n1, n2, n3, n4, Value.cells, List.getElem_toArray, List.getElem_cons_zero, List.getElem_cons_succ]
            refine s_go (s_eql) ?_
            try simp only [opv, n1, n2, n3, n4, Value.cells]
            try simp only [eq_self, decide_true, beq_self_eq_true, Bool.and_self]
            refine s_go (s_assign) ?_
            try simp only [opv, n1, n2, n3, n4, Value.cells]
            refine x_nil ?_
            refine hK24 _ _ ?_
            refine x_seq fun K29 hK29 => ?_
            refine x_region ?_
            refine s_go (s_move) ?_
            try simp only [opv, n1, n2, n3, n4, Value.cells]
            refine s_go (s_not) ?_
            try simp only [opv, n1, n2, n3, n4, Value.cells]
            simp only [Bool.not_true]
            refine s_go (s_move) ?_
            try simp only [opv, n1, n2, n3, n4, Value.cells]
            refine g_on (yi (t := 104) rfl rfl) ?_
            refine s_go (s_move) ?_
            try simp only [opv, n1, n2, n3, n4, Value.cells]
            refine g_on (yi (t := 104) rfl rfl) ?_
            refine s_call en35 ?_
            try simp only [opv, n1, n2, n3, n4, Value.cells, List.map_toArray, List.map_cons, List.map_nil, List.append_toArray, List.cons_append, List.nil_append, Array.append_empty]
            refine CallR.mono (c_cErr _ q (0) Ab cb (allOut (ps.drop (k + 1))) hcb (hS.owns (by repeat (first | exact Spl.nil | (apply Spl.cons (by repeat (first | exact Del.head | apply Del.tail))))))) ?_
            rintro _ w18 ⟨rfl, hC18⟩
            replace hS := hS.frame (by repeat (first | exact Spl.nil | (apply Spl.cons (by repeat (first | exact Del.head | apply Del.tail))))) hC18 (by intro r hr g hg; simp only [List.mem_cons, List.not_mem_nil, or_false] at hr; rcases hr with rfl | rfl | rfl <;> first | (simp [Res.reads] at hg; done) | exact .inr ⟨_, by simp, .inr hg⟩)
            simp only [List.cons_append, List.nil_append] at hS
            try simp only [opv, n1, n2, n3, n4, Value.cells]
            refine g_on (yi (t := 104) rfl rfl) ?_
            refine s_go (s_neq) ?_
            try simp only [opv, n1, n2, n3, n4, Value.cells]
            try simp only [ne_eq, not_true_eq_false, decide_false, eq_self, decide_true]
            first | refine s_go (s_pick_t) ?_ | refine s_go (s_pick_f) ?_
            try simp only [opv, n1, n2, n3, n4, Value.cells]
            refine x_nil ?_
            refine hK29 _ _ ?_
            refine x_cond_f (h := ?_)
            refine x_skip ?_
            refine hK19 _ _ ?_
            refine x_region ?_
            refine s_go (s_move) ?_
            try simp only [opv, n1, n2, n3, n4, Value.cells]
            refine s_go (s_add (hc := by first | exact wr_i64 (by omega) (by omega) | rfl)) ?_
            try simp only [opv, n1, n2, n3, n4, Value.cells]
            refine s_go (s_assign) ?_
            try simp only [opv, n1, n2, n3, n4, Value.cells]
            refine x_nil ?_
            refine loop_back (m' := n - (k + 1)) (by simp only [clob, List.foldl, n1, n2, n3, n4]) ?_ ?_
            · try simp only [opv, n1, n2, n3, n4, Value.cells]
              exact ⟨k + 1, _, _, by omega, by omega, by rfl, by assumption, hS.sel (by repeat (first | exact Sel.nil | (refine Sel.cons (by repeat (first | exact Del.head | apply Del.tail)) ?_)))⟩
            · omega
          ·
            try simp only [decide_eq_true_eq, decide_eq_false_iff_not, Bool.not_eq_true', Bool.not_eq_false', Int.not_lt, Int.not_le, ne_eq, Decidable.not_not, bne_iff_ne, beq_iff_eq, not_true_eq_false, not_false_eq_true] at hc9
            have h1 : ¬ pk.d = 1 := hc9
            refine x_seq fun K30 hK30 => ?_
            refine x_region ?_
            refine s_go (s_eql) ?_
            try simp only [opv, n1, n2, n3, n4, Value.cells]
            refine s_go (s_assign) ?_
            try simp only [opv, n1, n2, n3, n4, Value.cells]
            refine x_nil ?_
            refine hK30 _ _ ?_
            refine x_cond (ht := fun hc11 => ?_) (hf := fun hc11 => ?_)
            ·
              try simp only [decide_eq_true_eq, decide_eq_false_iff_not, Bool.not_eq_true', Bool.not_eq_false', Int.not_lt, Int.not_le, ne_eq, Decidable.not_not, bne_iff_ne, beq_iff_eq, not_true_eq_false, not_false_eq_true] at hc11
              have h2 : pk.d = 2 := hc11
              rw [hb2 h2] at hS
              refine x_region ?_
              first | refine s_go (m_fieldAddr Try.underlying45 (hi := ti42)) ?_ | refine s_go (m_fieldAddr_rd Try.underlying45 (hi := ti42) (hS := hS)) ?_ | refine s_go (m_fieldAddr_vec Try.underlying45 (hi := ti42) (hS := hS)) ?_
              try simp only [opv, n1, n2, n3, n4, Value.cells, Nat.zero_add, Nat.add_zero, List.getElem_toArray, List.getElem_cons_zero, List.getElem_cons_succ]
              first | refine s_go (m_load_row Try.underlying42 (hi := ti42) (hS := hS)) ?_ | refine s_go (m_loada_obj Try.underlying42 (hi := ti42) (hS := hS)) ?_ | refine s_go (m_loada_bx Try.underlying42 (hi := ti42) (hS := hS)) ?_ | refine s_go (m_loada_rd Try.underlying42 (hi := ti42) (hS := hS)) ?_ | refine s_go (m_loada_vec Try.underlying42 (hi := ti42) (hS := hS)) ?_
              try simp only [opv, n1, n2, n3, n4, Value.cells, List.getElem_toArray, List.getElem_cons_zero, List.getElem_cons_succ]
              rw [pc_nm _ _ _ hnl]
              first | refine s_go (m_fieldAddr Try.underlying45 (hi := ti42)) ?_ | refine s_go (m_fieldAddr_rd Try.underlying45 (hi := ti42) (hS := hS)) ?_ | refine s_go (m_fieldAddr_vec Try.underlying45 (hi := ti42) (hS := hS)) ?_
              try simp only [opv, n1, n2, n3, n4, Value.cells, Nat.zero_add, Nat.add_zero, List.getElem_toArray, List.getElem_cons_zero, List.getElem_cons_succ]
              first | refine s_go (m_load_row Try.underlying42 (hi := ti42) (hS := hS)) ?_ | refine s_go (m_loada_obj Try.underlying42 (hi := ti42) (hS := hS)) ?_ | refine s_go (m_loada_bx Try.underlying42 (hi := ti42) (hS := hS)) ?_ | refine s_go (m_loada_rd Try.underlying42 (hi := ti42) (hS := hS)) ?_ | refine s_go (m_loada_vec Try.underlying42 (hi := ti42) (hS := hS)) ?_
              try simp only [opv, n1, n2, n3, n4, Value.cells, List.getElem_toArray, List.getElem_cons_zero, List.getElem_cons_succ]
              rw [pc_nm _ _ _ hnl]
              refine s_go (s_eql_agg eqv42 (hg := eg42) (hX := zi_ic (by first | assumption | rfl)) (hY := zi_ic (by first | assumption | rfl)) (h1 := by first | assumption | rfl) (h2 := by first | assumption | rfl)) ?_
              try simp only [opv, n1, n2, n3, n4, Value.cells]
              try simp only [eq_self, decide_true, beq_self_eq_true, Bool.and_self]
              refine s_go (s_assign) ?_
              try simp only [opv, n1, n2, n3, n4, Value.cells]
              refine x_nil ?_
              refine hK24 _ _ ?_
              refine x_seq fun K31 hK31 => ?_
              refine x_region ?_
              refine s_go (s_move) ?_
              try simp only [opv, n1, n2, n3, n4, Value.cells]
              refine s_go (s_not) ?_
              try simp only [opv, n1, n2, n3, n4, Value.cells]
              simp only [Bool.not_true]
              refine s_go (s_move) ?_
              try simp only [opv, n1, n2, n3, n4, Value.cells]
              refine g_on (yi (t := 104) rfl rfl) ?_
              refine s_go (s_move) ?_
              try simp only [opv, n1, n2, n3, n4, Value.cells]
              refine g_on (yi (t := 104) rfl rfl) ?_
              refine s_call en35 ?_
              try simp only [opv, n1, n2, n3, n4, Value.cells, List.map_toArray, List.map_cons, List.map_nil, List.append_toArray, List.cons_append, List.nil_append, Array.append_empty]
              refine CallR.mono (c_cErr _ q (0) Ab cb (allOut (ps.drop (k + 1))) hcb (hS.owns (by repeat (first | exact Spl.nil | (apply Spl.cons (by repeat (first | exact Del.head | apply Del.tail))))))) ?_
              rintro _ w19 ⟨rfl, hC19⟩
              replace hS := hS.frame (by repeat (first | exact Spl.nil | (apply Spl.cons (by repeat (first | exact Del.head | apply Del.tail))))) hC19 (by intro r hr g hg; simp only [List.mem_cons, List.not_mem_nil, or_false] at hr; rcases hr with rfl | rfl | rfl <;> first | (simp [Res.reads] at hg; done) | exact .inr ⟨_, by simp, .inr hg⟩)
              simp only [List.cons_append, List.nil_append] at hS
              try simp only [opv, n1, n2, n3, n4, Value.cells]
              refine g_on (yi (t := 104) rfl rfl) ?_
              refine s_go (s_neq) ?_
              try simp only [opv, n1, n2, n3, n4, Value.cells]
              try simp only [ne_eq, not_true_eq_false, decide_false, eq_self, decide_true]
              first | refine s_go (s_pick_t) ?_ | refine s_go (s_pick_f) ?_
              try simp only [opv, n1, n2, n3, n4, Value.cells]
              refine x_nil ?_
              refine hK31 _ _ ?_
              refine x_cond_f (h := ?_)
              refine x_skip ?_
              refine hK19 _ _ ?_
              refine x_region ?_
              refine s_go (s_move) ?_
              try simp only [opv, n1, n2, n3, n4, Value.cells]
              refine s_go (s_add (hc := by first | exact wr_i64 (by omega) (by omega) | rfl)) ?_
              try simp only [opv, n1, n2, n3, n4, Value.cells]
              refine s_go (s_assign) ?_
              try simp only [opv, n1, n2, n3, n4, Value.cells]
              refine x_nil ?_
              refine loop_back (m' := n - (k + 1)) (by simp only [clob, List.foldl, n1, n2, n3, n4]) ?_ ?_
              · try simp only [opv, n1, n2, n3, n4, Value.cells]
                exact ⟨k + 1, _, _, by omega, by omega, by rfl, by assumption, hS.sel (by repeat (first | exact Sel.nil | (refine Sel.cons (by repeat (first | exact Del.head | apply Del.tail)) ?_)))⟩
              · omega
            ·
              try simp only [decide_eq_true_eq, decide_eq_false_iff_not, Bool.not_eq_true', Bool.not_eq_false', Int.not_lt, Int.not_le, ne_eq, Decidable.not_not, bne_iff_ne, beq_iff_eq, not_true_eq_false, not_false_eq_true] at hc11
              have h2 : ¬ pk.d = 2 := hc11
              rw [hb3 h0 h1 h2] at hS
              refine x_region ?_
              first | refine s_go (m_fieldAddr Try.underlying45 (hi := ti43)) ?_ | refine s_go (m_fieldAddr_rd Try.underlying45 (hi := ti43) (hS := hS)) ?_ | refine s_go (m_fieldAddr_vec Try.underlying45 (hi := ti43) (hS := hS)) ?_
              try simp only [opv, n1, n2, n3, n4, Value.cells, Nat.zero_add, Nat.add_zero, List.getElem_toArray, List.getElem_cons_zero, List.getElem_cons_succ]
              first | refine s_go (m_load_obj Try.underlying43 (hS := hS)) ?_ | refine s_go (m_load_bx Try.underlying43 (hS := hS)) ?_ | refine s_go (m_load_rd Try.underlying43 (hS := hS)) ?_ | refine s_go (m_load_vec Try.underlying43 (hS := hS)) ?_
              try simp only [opv, n1, n2, n3, n4, Value.cells, List.getElem_toArray, List.getElem_cons_zero, List.getElem_cons_succ]
              first | refine s_go (m_fieldAddr Try.underlying45 (hi := ti43)) ?_ | refine s_go (m_fieldAddr_rd Try.underlying45 (hi := ti43) (hS := hS)) ?_ | refine s_go (m_fieldAddr_vec Try.underlying45 (hi := ti43) (hS := hS)) ?_
              try simp only [opv, n1, n2, n3, n4, Value.cells, Nat.zero_add, Nat.add_zero, List.getElem_toArray, List.getElem_cons_zero, List.getElem_cons_succ]
              first | refine s_go (m_load_obj Try.underlying43 (hS := hS)) ?_ | refine s_go (m_load_bx Try.underlying43 (hS := hS)) ?_ | refine s_go (m_load_rd Try.underlying43 (hS := hS)) ?_ | refine s_go (m_load_vec Try.underlying43 (hS := hS)) ?_
              try simp only [opv, n1, n2, n3, n4, Value.cells, List.getElem_toArray, List.getElem_cons_zero, List.getElem_cons_succ]
              refine s_call en34 ?_
              try simp only [opv, n1, n2, n3, n4, Value.cells, List.map_toArray, List.map_cons, List.map_nil, List.append_toArray, List.cons_append, List.nil_append, Array.append_empty]
              refine CallR.mono (c_ref03Same _ _ _ _ _ _ _ _ _ (hS.vecRd (by repeat (first | exact Has.head | apply Has.tail))) (hS.hasRd (by repeat (first | exact Has.head | apply Has.tail))) (rfl) (rfl) (by first | omega | (simp; done))) ?_
              rintro _ w20 ⟨rfl, hE20⟩
              replace hS := hS.ext hE20
              try simp only [opv, n1, n2, n3, n4, Value.cells]
              try simp only [eq_self, decide_true, beq_self_eq_true, Bool.and_self]
              refine s_go (s_assign) ?_
              try simp only [opv, n1, n2, n3, n4, Value.cells]
              refine x_nil ?_
              refine hK24 _ _ ?_
              refine x_seq fun K32 hK32 => ?_
              refine x_region ?_
              refine s_go (s_move) ?_
              try simp only [opv, n1, n2, n3, n4, Value.cells]
              refine s_go (s_not) ?_
              try simp only [opv, n1, n2, n3, n4, Value.cells]
              simp only [Bool.not_true]
              refine s_go (s_move) ?_
              try simp only [opv, n1, n2, n3, n4, Value.cells]
              refine g_on (yi (t := 104) rfl rfl) ?_
              refine s_go (s_move) ?_
              try simp only [opv, n1, n2, n3, n4, Value.cells]
              refine g_on (yi (t := 104) rfl rfl) ?_
              refine s_call en35 ?_
              try simp only [opv, n1, n2, n3, n4, Value.cells, List.map_toArray, List.map_cons, List.map_nil, List.append_toArray, List.cons_append, List.nil_append, Array.append_empty]
              refine CallR.mono (c_cErr _ q (0) Ab cb (allOut (ps.drop (k + 1))) hcb (hS.owns (by repeat (first | exact Spl.nil | (apply Spl.cons (by repeat (first | exact Del.head | apply Del.tail))))))) ?_
              rintro _ w21 ⟨rfl, hC21⟩
              replace hS := hS.frame (by repeat (first | exact Spl.nil | (apply Spl.cons (by repeat (first | exact Del.head | apply Del.tail))))) hC21 (by intro r hr g hg; simp only [List.mem_cons, List.not_mem_nil, or_false] at hr; rcases hr with rfl | rfl | rfl <;> first | (simp [Res.reads] at hg; done) | exact .inr ⟨_, by simp, .inr hg⟩)
              simp only [List.cons_append, List.nil_append] at hS
              try simp only [opv, n1, n2, n3, n4, Value.cells]
              refine g_on (yi (t := 104) rfl rfl) ?_
              refine s_go (s_neq) ?_
              try simp only [opv, n1, n2, n3, n4, Value.cells]
              try simp only [ne_eq, not_true_eq_false, decide_false, eq_self, decide_true]
              first | refine s_go (s_pick_t) ?_ | refine s_go (s_pick_f) ?_
              try simp only [opv, n1, n2, n3, n4, Value.cells]
              refine x_nil ?_
              refine hK32 _ _ ?_
              refine x_cond_f (h := ?_)
              refine x_skip ?_
              refine hK19 _ _ ?_
              refine x_region ?_
              refine s_go (s_move) ?_
              try simp only [opv, n1, n2, n3, n4, Value.cells]
              refine s_go (s_add (hc := by first | exact wr_i64 (by omega) (by omega) | rfl)) ?_
              try simp only [opv, n1, n2, n3, n4, Value.cells]
              refine s_go (s_assign) ?_
              try simp only [opv, n1, n2, n3, n4, Value.cells]
              refine x_nil ?_
              refine loop_back (m' := n - (k + 1)) (by simp only [clob, List.foldl, n1, n2, n3, n4]) ?_ ?_
              · try simp only [opv, n1, n2, n3, n4, Value.cells]
                exact ⟨k + 1, _, _, by omega, by omega, by rfl, by assumption, hS.sel (by repeat (first | exact Sel.nil | (refine Sel.cons (by repeat (first | exact Del.head | apply Del.tail)) ?_)))⟩
              · omega
      ·
        try simp only [decide_eq_true_eq, decide_eq_false_iff_not, Bool.not_eq_true', Bool.not_eq_false', Int.not_lt, Int.not_le, ne_eq, Decidable.not_not, bne_iff_ne, beq_iff_eq, not_true_eq_false, not_false_eq_true] at hc6
        rw [allOut_end (by omega)] at hS hc1
        refine x_exit (look_here ?_)
        refine hK15 _ _ ?_
        refine x_seq fun K33 hK33 => ?_
        refine x_region ?_
        refine s_go (s_assign) ?_
        try simp only [opv, n1, n2, n3, n4, Value.cells]
        refine x_nil ?_
        refine hK33 _ _ ?_
        refine x_seq fun K34 hK34 => ?_
        refine x_region ?_
        refine s_go (s_assign) ?_
        try simp only [opv, n1, n2, n3, n4, Value.cells]
        refine x_nil ?_
        refine hK34 _ _ ?_
        refine x_seq fun K35 hK35 => ?_
        refine x_seq fun K36 hK36 => ?_
        refine x_region ?_
        refine s_go (s_assign) ?_
        try simp only [opv, n1, n2, n3, n4, Value.cells]
        refine x_nil ?_
        refine hK36 _ _ ?_
        refine x_block ?_
        refine x_loop [2, 12, 109, 110, 111, 112, 113, 114, 115, 116, 117, 118, 119, 120, 121, 122, 123, 124, 125, 126, 127, 128, 129, 130, 131, 132, 133, 134] (fun m f w => ∃ k : Nat, k ≤ n ∧ m = n - k ∧ f 12 = .int .i64 (k : Int) ∧ St NoB w0 w [.obj q (.cells #[.int .i64 0, .slice A1 ([] : List Int).length c1] 162 (0, 0)), .rd A1 1 ([] : List Int).length (([] : List Int).map (Value.int .u8)), .rd A 13 n (rowsOf pcL ps)]) (n) ?init3 (fun m3 f3 wl3 hI => ?_)
        case init3 =>
          try simp only [opv, n1, n2, n3, n4, Value.cells]
          exact ⟨0, by omega, rfl, rfl, hS.sel (by repeat (first | exact Sel.nil | (refine Sel.cons (by repeat (first | exact Del.head | apply Del.tail)) ?_)))⟩
        obtain ⟨k, hk, hm, h12, hS⟩ := hI
        simp only [clob, List.foldl, n3, n4, h12]
        refine x_seq fun K37 hK37 => ?_
        refine x_seq fun K38 hK38 => ?_
        refine x_region ?_
        refine s_go (s_move) ?_
        try simp only [opv, n1, n2, n3, n4, Value.cells]
        refine s_go (s_move) ?_
        try simp only [opv, n1, n2, n3, n4, Value.cells]
        refine s_go (s_len_sl Try.underlying36) ?_
        try simp only [opv, n1, n2, n3, n4, Value.cells]
        refine s_go (s_lss) ?_
        try simp only [opv, n1, n2, n3, n4, Value.cells]
        refine x_nil ?_
        refine hK38 _ _ ?_
        refine x_cond (ht := fun hc14 => ?_) (hf := fun hc14 => ?_)
        ·
          try simp only [decide_eq_true_eq, decide_eq_false_iff_not, Bool.not_eq_true', Bool.not_eq_false', Int.not_lt, Int.not_le, ne_eq, Decidable.not_not, bne_iff_ne, beq_iff_eq, not_true_eq_false, not_false_eq_true] at hc14
          have hkp := getD_mem (l := ps) (k := k) (by omega)
          have hp := hok _ hkp
          have hp6 := hb6 _ hkp
          have hpo := pcOut_len hp.x hp.nl hp6
          have hpr := pc_row (ps := ps) (k := k) (by omega)
          refine x_skip ?_
          refine hK37 _ _ ?_
          refine x_seq fun K39 hK39 => ?_
          refine x_block ?_
          refine x_seq fun K40 hK40 => ?_
          refine x_region ?_
          refine s_go (s_move) ?_
          try simp only [opv, n1, n2, n3, n4, Value.cells]
          refine s_go (s_move) ?_
          try simp only [opv, n1, n2, n3, n4, Value.cells]
          refine s_go (s_move) ?_
          try simp only [opv, n1, n2, n3, n4, Value.cells]
          first | refine s_go (m_indexAddr_rd Try.underlying36 ti45 (hS := hS)) ?_ | refine s_go (m_indexAddr_vec Try.underlying36 ti45 (hS := hS)) ?_
          try simp only [opv, n1, n2, n3, n4, Value.cells, Nat.mul_one, Nat.zero_add, Int.toNat_natCast, Int.reduceToNat]
          first | refine s_go (m_load_row Try.underlying45 (hi := ti45) (hS := hS) (hfit := by rw [rows_len pcL_len]; omega)) ?_ | refine s_go (m_loada_obj Try.underlying45 (hi := ti45) (hS := hS) (hfit := by rw [rows_len pcL_len]; omega)) ?_ | refine s_go (m_loada_bx Try.underlying45 (hi := ti45) (hS := hS) (hfit := by rw [rows_len pcL_len]; omega)) ?_ | refine s_go (m_loada_rd Try.underlying45 (hi := ti45) (hS := hS) (hfit := by rw [rows_len pcL_len]; omega)) ?_ | refine s_go (m_loada_vec Try.underlying45 (hi := ti45) (hS := hS) (hfit := by rw [rows_len pcL_len]; omega)) ?_
          try simp only [opv, n1, n2, n3, n4, Value.cells, List.getElem_toArray, List.getElem_cons_zero, List.getElem_cons_succ]
          rw [hpr]
          refine s_call en30 ?_
          try simp only [opv, n1, n2, n3, n4, Value.cells, List.map_toArray, List.map_cons, List.map_nil, List.append_toArray, List.cons_append, List.nil_append, Array.append_empty]
          refine CallR.mono (c_law07write0 _ (ps.getD k pc0) (hp.ext hS.ext_of) hp6) ?_
          rintro _ w22 ⟨rfl, hE22⟩
          replace hS := hS.ext hE22
          try simp only [opv, n1, n2, n3, n4, Value.cells]
          refine x_nil ?_
          refine hK40 _ _ ?_
          refine x_seq fun K41 hK41 => ?_
          refine x_mixed_f [] 0 [121, 122, 123, 124, 125, 126, 127, 128, 129, 130, 131, 132, 133, 134] (fun f w => f 134 = .bool false ∧ St NoB w0 w [.obj q (.cells #[.int .i64 0, .slice A1 ([] : List Int).length c1] 162 (0, 0)), .rd A1 1 ([] : List Int).length (([] : List Int).map (Value.int .u8)), .rd A 13 n (rowsOf pcL ps)]) (by kernel_rfl) (by kernel_rfl) (by kernel_rfl) (by decide) hS (fun w23 hS => ?mixpre3401) ?mixrest3401
          case mixpre3401 =>
            refine p_nil ?_
            simp only [List.length_cons, List.length_nil, Nat.reduceAdd, Nat.reduceSub]
            refine any_go (i := 0) (by rfl) (by decide +kernel) (by decide +kernel) noLate_nil (go_yields w_none (fun w hS => s_move)) ?_
            try simp only [opv, n1, n2, n3, n4, Value.cells]
            refine any_go (i := 1) (by rfl) (by decide +kernel) (by decide +kernel) noLate_nil (go_yields w_none (fun w hS => s_move)) ?_
            try simp only [opv, n1, n2, n3, n4, Value.cells]
            refine any_go (i := 2) (by rfl) (by decide +kernel) (by decide +kernel) noLate_nil (go_yields w_none (fun w hS => s_move)) ?_
            try simp only [opv, n1, n2, n3, n4, Value.cells]
            first | refine any_go (i := 3) (by rfl) (by decide +kernel) (by decide +kernel) noLate_nil (go_yields w_none (fun w hS => m_indexAddr_rd Try.underlying36 ti45 (hS := hS))) ?_ | refine any_go (i := 3) (by rfl) (by decide +kernel) (by decide +kernel) noLate_nil (go_yields w_none (fun w hS => m_indexAddr_vec Try.underlying36 ti45 (hS := hS))) ?_
            try simp only [opv, n1, n2, n3, n4, Value.cells, Nat.mul_one, Nat.zero_add, Int.toNat_natCast, Int.reduceToNat]
            first | refine any_go (i := 4) (by rfl) (by decide +kernel) (by decide +kernel) noLate_nil (go_yields w_none (fun w hS => m_load_row Try.underlying45 (hi := ti45) (hS := hS) (hfit := by rw [rows_len pcL_len]; omega))) ?_ | refine any_go (i := 4) (by rfl) (by decide +kernel) (by decide +kernel) noLate_nil (go_yields w_none (fun w hS => m_loada_obj Try.underlying45 (hi := ti45) (hS := hS) (hfit := by rw [rows_len pcL_len]; omega))) ?_ | refine any_go (i := 4) (by rfl) (by decide +kernel) (by decide +kernel) noLate_nil (go_yields w_none (fun w hS => m_loada_bx Try.underlying45 (hi := ti45) (hS := hS) (hfit := by rw [rows_len pcL_len]; omega))) ?_ | refine any_go (i := 4) (by rfl) (by decide +kernel) (by decide +kernel) noLate_nil (go_yields w_none (fun w hS => m_loada_rd Try.underlying45 (hi := ti45) (hS := hS) (hfit := by rw [rows_len pcL_len]; omega))) ?_ | refine any_go (i := 4) (by rfl) (by decide +kernel) (by decide +kernel) noLate_nil (go_yields w_none (fun w hS => m_loada_vec Try.underlying45 (hi := ti45) (hS := hS) (hfit := by rw [rows_len pcL_len]; omega))) ?_
            try simp only [opv, n1, n2, n3, n4, Value.cells, List.getElem_toArray, List.getElem_cons_zero, List.getElem_cons_succ]
            rw [hpr]
            apply any_go (i := 5) (by rfl) (by decide +kernel) (by decide +kernel) noLate_nil (call_yields w_none en33 ?H1) ?K1
            case H1 =>
              intro w hS
              try simp only [opv, n1, n2, n3, n4, List.map_toArray, List.map_cons, List.map_nil, List.append_toArray, List.cons_append, List.nil_append, Array.append_empty]
              refine CallR.mono (c_law07read0 (ps.getD k pc0) _) ?_
              rintro _ w1 ⟨rfl, hE⟩; exact ⟨rfl, hE⟩
            try simp only [opv, n1, n2, n3, n4, Value.cells]
            refine any_go (i := 6) (by rfl) (by decide +kernel) (by decide +kernel) noLate_nil (go_yields w_none (fun w hS => s_move)) ?_
            try simp only [opv, n1, n2, n3, n4, Value.cells]
            refine any_go (i := 7) (by rfl) (by decide +kernel) (by decide +kernel) noLate_nil (go_yields w_none (fun w hS => s_move)) ?_
            try simp only [opv, n1, n2, n3, n4, Value.cells]
            first | refine any_go (i := 8) (by rfl) (by decide +kernel) (by decide +kernel) noLate_nil (go_yields w_none (fun w hS => m_indexAddr_rd Try.underlying36 ti45 (hS := hS))) ?_ | refine any_go (i := 8) (by rfl) (by decide +kernel) (by decide +kernel) noLate_nil (go_yields w_none (fun w hS => m_indexAddr_vec Try.underlying36 ti45 (hS := hS))) ?_
            try simp only [opv, n1, n2, n3, n4, Value.cells, Nat.mul_one, Nat.zero_add, Int.toNat_natCast, Int.reduceToNat]
            first | refine any_go (i := 9) (by rfl) (by decide +kernel) (by decide +kernel) noLate_nil (go_yields w_none (fun w hS => m_fieldAddr Try.underlying45 (hi := ti3))) ?_ | refine any_go (i := 9) (by rfl) (by decide +kernel) (by decide +kernel) noLate_nil (go_yields w_none (fun w hS => m_fieldAddr_rd Try.underlying45 (hi := ti3) (hS := hS))) ?_ | refine any_go (i := 9) (by rfl) (by decide +kernel) (by decide +kernel) noLate_nil (go_yields w_none (fun w hS => m_fieldAddr_vec Try.underlying45 (hi := ti3) (hS := hS))) ?_
            try simp only [opv, n1, n2, n3, n4, Value.cells, Nat.zero_add, Nat.add_zero, List.getElem_toArray, List.getElem_cons_zero, List.getElem_cons_succ]
            first | refine any_go (i := 10) (by rfl) (by decide +kernel) (by decide +kernel) noLate_nil (go_yields w_none (fun w hS => m_load_obj Try.underlying3 (hS := hS) (hv := pc_at (k := k) (j := 0) (by omega) (by decide) rfl))) ?_ | refine any_go (i := 10) (by rfl) (by decide +kernel) (by decide +kernel) noLate_nil (go_yields w_none (fun w hS => m_load_bx Try.underlying3 (hS := hS) (hv := pc_at (k := k) (j := 0) (by omega) (by decide) rfl))) ?_ | refine any_go (i := 10) (by rfl) (by decide +kernel) (by decide +kernel) noLate_nil (go_yields w_none (fun w hS => m_load_rd Try.underlying3 (hS := hS) (hv := pc_at (k := k) (j := 0) (by omega) (by decide) rfl))) ?_ | refine any_go (i := 10) (by rfl) (by decide +kernel) (by decide +kernel) noLate_nil (go_yields w_none (fun w hS => m_load_vec Try.underlying3 (hS := hS) (hv := pc_at (k := k) (j := 0) (by omega) (by decide) rfl))) ?_
            try simp only [opv, n1, n2, n3, n4, Value.cells, List.getElem_toArray, List.getElem_cons_zero, List.getElem_cons_succ]
            refine any_go (i := 11) (by rfl) (by decide +kernel) (by decide +kernel) noLate_nil (go_yields w_none (fun w hS => s_build_struct (cells := pA (ps.getD k pc0).d 0 0 nm0 none 0 0 0) Try.underlying45 ti45 bp45 (hc := by simp only [List.map_toArray, List.map_cons, List.map_nil, opv, n1, n2, n3, n4, Value.cells, List.toList_toArray]; (repeat (refine fill_cons rfl rfl (Nat.le_of_ble_eq_true rfl) ?_)); rfl))) ?_
            try simp only [opv, n1, n2, n3, n4, Value.cells]
            refine any_step [12] (by kernel_rfl) (by decide) (fun w24 hE => ⟨fun _ => (hS.ext hE).sel (by repeat (first | exact Sel.nil | (refine Sel.cons (by repeat (first | exact Del.head | apply Del.tail)) ?_))), ?_⟩)
            replace hS := hS.ext hE
            intro i hi
            simp only [List.mem_cons, List.not_mem_nil, or_false] at hi
            subst hi
            ·
              refine any_op (by rfl) ?_
              refine s_call en36 ?_
              try simp only [opv, n1, n2, n3, n4, Value.cells, List.map_toArray, List.map_cons, List.map_nil, List.append_toArray, List.cons_append, List.nil_append, Array.append_empty]
              refine CallR.mono (c_ref07Same _ (ps.getD k pc0).d 0 0 nm0 0 0 none none 0 0 0 [] (rd_zero _ _ _) (rd_zero _ _ _) rfl (by omega)) ?_
              rintro _ w25 ⟨rfl, hE25⟩
              replace hS := hS.ext hE25
              try simp only [opv, n1, n2, n3, n4, Value.cells]
              try simp only [eq_self, decide_true, beq_self_eq_true, Bool.and_self]
              refine x_nil ?_
              refine any_go (i := 13) (by rfl) (by decide +kernel) (by decide +kernel) noLate_nil (go_yields w_none (fun w hS => s_not)) ?_
              try simp only [opv, n1, n2, n3, n4, Value.cells]
              simp only [Bool.not_true]
              refine any_nil (by kernel_rfl) (fun w26 hE => ?_)
              replace hS := hS.ext hE
              refine ⟨fun _ => hS.sel (by repeat (first | exact Sel.nil | (refine Sel.cons (by repeat (first | exact Del.head | apply Del.tail)) ?_))), ?_⟩
              refine mix_leaf (by simp only [clob, List.foldl, n1, n2, n3, n4]) ?_
              try simp only [n1, n2]
              exact ⟨by trivial, hS.sel (by repeat (first | exact Sel.nil | (refine Sel.cons (by repeat (first | exact Del.head | apply Del.tail)) ?_)))⟩
          intro fm1 w27 hM
          obtain ⟨h134, hS⟩ := hM
          simp only [clob, List.foldl, n3, n4, h134]
          refine hK41 _ _ ?_
          refine x_cond_f (h := ?_)
          refine x_skip ?_
          refine hK39 _ _ ?_
          refine x_region ?_
          refine s_go (s_move) ?_
          try simp only [opv, n1, n2, n3, n4, Value.cells]
          refine s_go (s_add (hc := by first | exact wr_i64 (by omega) (by omega) | rfl)) ?_
          try simp only [opv, n1, n2, n3, n4, Value.cells]
          refine s_go (s_assign) ?_
          try simp only [opv, n1, n2, n3, n4, Value.cells]
          refine x_nil ?_
          refine loop_back (m' := n - (k + 1)) (by simp only [clob, List.foldl, n1, n2, n3, n4]) ?_ ?_
          · try simp only [opv, n1, n2, n3, n4, Value.cells]
            exact ⟨k + 1, by omega, by omega, by rfl, hS⟩
          · omega
        ·
          try simp only [decide_eq_true_eq, decide_eq_false_iff_not, Bool.not_eq_true', Bool.not_eq_false', Int.not_lt, Int.not_le, ne_eq, Decidable.not_not, bne_iff_ne, beq_iff_eq, not_true_eq_false, not_false_eq_true] at hc14
          refine x_exit (look_here ?_)
          refine hK35 _ _ ?_
          refine x_seq fun K42 hK42 => ?_
          refine x_seq fun K43 hK43 => ?_
          refine x_region ?_
          refine s_go (s_move) ?_
          try simp only [opv, n1, n2, n3, n4, Value.cells]
          refine s_call en37 ?_
          try simp only [opv, n1, n2, n3, n4, Value.cells, List.map_toArray, List.map_cons, List.map_nil, List.append_toArray, List.cons_append, List.nil_append, Array.append_empty]
          refine CallR.mono (c_cDone _ q (0) A1 c1 ([]) hc1 (hS.owns (by repeat (first | exact Spl.nil | (apply Spl.cons (by repeat (first | exact Del.head | apply Del.tail))))))) ?_
          rintro _ w28 ⟨rfl, hC28⟩
          replace hS := hS.frame (by repeat (first | exact Spl.nil | (apply Spl.cons (by repeat (first | exact Del.head | apply Del.tail))))) hC28 (by intro r hr g hg; simp only [List.mem_cons, List.not_mem_nil, or_false] at hr; rcases hr with rfl | rfl | rfl <;> first | (simp [Res.reads] at hg; done) | exact .inr ⟨_, by simp, .inr hg⟩)
          simp only [List.cons_append, List.nil_append] at hS
          try simp only [opv, n1, n2, n3, n4, Value.cells]
          simp only [List.length_nil, Nat.lt_irrefl, if_false]
          refine s_go (s_neq) ?_
          try simp only [opv, n1, n2, n3, n4, Value.cells]
          try simp only [ne_eq, not_true_eq_false, decide_false, eq_self, decide_true]
          refine x_nil ?_
          refine hK43 _ _ ?_
          refine x_cond_f (h := ?_)
          refine x_skip ?_
          refine hK42 _ _ ?_
          refine x_seq fun K44 hK44 => ?_
          refine x_region ?_
          refine s_go (s_move) ?_
          try simp only [opv, n1, n2, n3, n4, Value.cells]
          refine s_call en38 ?_
          try simp only [opv, n1, n2, n3, n4, Value.cells, List.map_toArray, List.map_cons, List.map_nil, List.append_toArray, List.cons_append, List.nil_append, Array.append_empty]
          refine CallR.mono (c_cFail _ q (0) A1 c1 [] hc1 (0) (hS.owns (by repeat (first | exact Spl.nil | (apply Spl.cons (by repeat (first | exact Del.head | apply Del.tail))))))) ?_
          rintro _ w29 ⟨rfl, A2, c2, hc2, hR29, hC29⟩
          replace hS := hS.frame (by repeat (first | exact Spl.nil | (apply Spl.cons (by repeat (first | exact Del.head | apply Del.tail))))) hC29 (by intro r hr b hb; simp only [List.mem_cons, List.not_mem_nil, or_false] at hr; rcases hr with rfl | rfl <;> first | (simp [Res.reads] at hb; done) | exact hR29 b hb)
          simp only [List.cons_append, List.nil_append, show errE 0 0 = 0 from rfl, show errX 0 0 [] = [] from rfl] at hS hc2
          try simp only [opv, n1, n2, n3, n4, Value.cells]
          refine x_nil ?_
          refine hK44 _ _ ?_
          refine x_seq fun K45 hK45 => ?_
          refine x_region ?_
          refine s_go (s_move) ?_
          try simp only [opv, n1, n2, n3, n4, Value.cells]
          refine s_call en38 ?_
          try simp only [opv, n1, n2, n3, n4, Value.cells, List.map_toArray, List.map_cons, List.map_nil, List.append_toArray, List.cons_append, List.nil_append, Array.append_empty]
          refine CallR.mono (c_cFail0 _ _) ?_
          rintro _ w30 ⟨rfl, hE30⟩
          replace hS := hS.ext hE30
          try simp only [opv, n1, n2, n3, n4, Value.cells]
          refine x_nil ?_
          refine hK45 _ _ ?_
          refine x_seq fun K46 hK46 => ?_
          refine x_seq fun K47 hK47 => ?_
          refine x_region ?_
          refine s_go (s_move) ?_
          try simp only [opv, n1, n2, n3, n4, Value.cells]
          refine s_call en35 ?_
          try simp only [opv, n1, n2, n3, n4, Value.cells, List.map_toArray, List.map_cons, List.map_nil, List.append_toArray, List.cons_append, List.nil_append, Array.append_empty]
          refine CallR.mono (c_cErr _ q (0) A2 c2 ([]) hc2 (hS.owns (by repeat (first | exact Spl.nil | (apply Spl.cons (by repeat (first | exact Del.head | apply Del.tail))))))) ?_
          rintro _ w31 ⟨rfl, hC31⟩
          replace hS := hS.frame (by repeat (first | exact Spl.nil | (apply Spl.cons (by repeat (first | exact Del.head | apply Del.tail))))) hC31 (by intro r hr g hg; simp only [List.mem_cons, List.not_mem_nil, or_false] at hr; rcases hr with rfl | rfl | rfl <;> first | (simp [Res.reads] at hg; done) | exact .inr ⟨_, by simp, .inr hg⟩)
          simp only [List.cons_append, List.nil_append] at hS
          try simp only [opv, n1, n2, n3, n4, Value.cells]
          refine s_go (s_neq) ?_
          try simp only [opv, n1, n2, n3, n4, Value.cells]
          try simp only [ne_eq, not_true_eq_false, decide_false, eq_self, decide_true]
          refine x_nil ?_
          refine hK47 _ _ ?_
          refine x_cond_f (h := ?_)
          refine x_skip ?_
          refine hK46 _ _ ?_
          refine x_seq fun K48 hK48 => ?_
          refine x_region ?_
          refine s_go (s_move) ?_
          try simp only [opv, n1, n2, n3, n4, Value.cells]
          refine s_call en38 ?_
          try simp only [opv, n1, n2, n3, n4, Value.cells, List.map_toArray, List.map_cons, List.map_nil, List.append_toArray, List.cons_append, List.nil_append, Array.append_empty]
          refine CallR.mono (c_cFail _ q (0) A2 c2 [] hc2 (13) (hS.owns (by repeat (first | exact Spl.nil | (apply Spl.cons (by repeat (first | exact Del.head | apply Del.tail))))))) ?_
          rintro _ w32 ⟨rfl, A3, c3, hc3, hR32, hC32⟩
          replace hS := hS.frame (by repeat (first | exact Spl.nil | (apply Spl.cons (by repeat (first | exact Del.head | apply Del.tail))))) hC32 (by intro r hr b hb; simp only [List.mem_cons, List.not_mem_nil, or_false] at hr; rcases hr with rfl | rfl <;> first | (simp [Res.reads] at hb; done) | exact hR32 b hb)
          simp only [List.cons_append, List.nil_append, show errE 0 13 = 13 from rfl, show errX 0 13 [] = [] from rfl] at hS hc3
          try simp only [opv, n1, n2, n3, n4, Value.cells]
          refine x_nil ?_
          refine hK48 _ _ ?_
          refine x_seq fun K49 hK49 => ?_
          refine x_region ?_
          refine s_go (s_move) ?_
          try simp only [opv, n1, n2, n3, n4, Value.cells]
          refine s_call en38 ?_
          try simp only [opv, n1, n2, n3, n4, Value.cells, List.map_toArray, List.map_cons, List.map_nil, List.append_toArray, List.cons_append, List.nil_append, Array.append_empty]
          refine CallR.mono (c_cFail _ q (13) A3 c3 [] hc3 (3) (hS.owns (by repeat (first | exact Spl.nil | (apply Spl.cons (by repeat (first | exact Del.head | apply Del.tail))))))) ?_
          rintro _ w33 ⟨rfl, A4, c4, hc4, hR33, hC33⟩
          replace hS := hS.frame (by repeat (first | exact Spl.nil | (apply Spl.cons (by repeat (first | exact Del.head | apply Del.tail))))) hC33 (by intro r hr b hb; simp only [List.mem_cons, List.not_mem_nil, or_false] at hr; rcases hr with rfl | rfl <;> first | (simp [Res.reads] at hb; done) | exact hR33 b hb)
          simp only [List.cons_append, List.nil_append, show errE 13 3 = 13 from rfl, show errX 13 3 [] = [] from rfl] at hS hc4
          try simp only [opv, n1, n2, n3, n4, Value.cells]
          refine x_nil ?_
          refine hK49 _ _ ?_
          refine x_seq fun K50 hK50 => ?_
          refine x_region ?_
          refine s_go (s_move) ?_
          try simp only [opv, n1, n2, n3, n4, Value.cells]
          refine s_call en35 ?_
          try simp only [opv, n1, n2, n3, n4, Value.cells, List.map_toArray, List.map_cons, List.map_nil, List.append_toArray, List.cons_append, List.nil_append, Array.append_empty]
          refine CallR.mono (c_cErr _ q (13) A4 c4 ([]) hc4 (hS.owns (by repeat (first | exact Spl.nil | (apply Spl.cons (by repeat (first | exact Del.head | apply Del.tail))))))) ?_
          rintro _ w34 ⟨rfl, hC34⟩
          replace hS := hS.frame (by repeat (first | exact Spl.nil | (apply Spl.cons (by repeat (first | exact Del.head | apply Del.tail))))) hC34 (by intro r hr g hg; simp only [List.mem_cons, List.not_mem_nil, or_false] at hr; rcases hr with rfl | rfl | rfl <;> first | (simp [Res.reads] at hg; done) | exact .inr ⟨_, by simp, .inr hg⟩)
          simp only [List.cons_append, List.nil_append] at hS
          try simp only [opv, n1, n2, n3, n4, Value.cells]
          refine s_go (s_eql) ?_
          try simp only [opv, n1, n2, n3, n4, Value.cells]
          try simp only [eq_self, decide_true, beq_self_eq_true, Bool.and_self]
          refine s_go (s_move) ?_
          try simp only [opv, n1, n2, n3, n4, Value.cells]
          refine g_on (yi (t := 152) rfl rfl) ?_
          refine s_go (s_move) ?_
          try simp only [opv, n1, n2, n3, n4, Value.cells]
          refine g_on (yi (t := 152) rfl rfl) ?_
          refine s_call en39 ?_
          try simp only [opv, n1, n2, n3, n4, Value.cells, List.map_toArray, List.map_cons, List.map_nil, List.append_toArray, List.cons_append, List.nil_append, Array.append_empty]
          refine CallR.mono (c_cLeft _ q (13) A4 c4 ([]) hc4 (hS.owns (by repeat (first | exact Spl.nil | (apply Spl.cons (by repeat (first | exact Del.head | apply Del.tail))))))) ?_
          rintro _ w35 ⟨rfl, hC35⟩
          replace hS := hS.frame (by repeat (first | exact Spl.nil | (apply Spl.cons (by repeat (first | exact Del.head | apply Del.tail))))) hC35 (by intro r hr g hg; simp only [List.mem_cons, List.not_mem_nil, or_false] at hr; rcases hr with rfl | rfl | rfl <;> first | (simp [Res.reads] at hg; done) | exact .inr ⟨_, by simp, .inr hg⟩)
          simp only [List.cons_append, List.nil_append] at hS
          try simp only [opv, n1, n2, n3, n4, Value.cells]
          refine g_on (yi (t := 152) rfl rfl) ?_
          refine s_go (s_eql) ?_
          try simp only [opv, n1, n2, n3, n4, Value.cells]
          first | rw [decide_eq_true (show (([] : List Int).length : Int) = 0 from rfl)] | rw [decide_eq_true (show ((0 : Nat) : Int) = 0 from rfl)] | skip
          try simp only [eq_self, decide_true, beq_self_eq_true, Bool.and_self]
          first | refine s_go (s_pick_t) ?_ | refine s_go (s_pick_f) ?_
          try simp only [opv, n1, n2, n3, n4, Value.cells]
          refine s_go (s_move) ?_
          try simp only [opv, n1, n2, n3, n4, Value.cells]
          refine g_on (yi (t := 157) rfl rfl) ?_
          refine s_go (s_move) ?_
          try simp only [opv, n1, n2, n3, n4, Value.cells]
          refine g_on (yi (t := 157) rfl rfl) ?_
          refine s_call en35 ?_
          try simp only [opv, n1, n2, n3, n4, Value.cells, List.map_toArray, List.map_cons, List.map_nil, List.append_toArray, List.cons_append, List.nil_append, Array.append_empty]
          refine CallR.mono (c_cErr0 _) ?_
          rintro _ w36 ⟨rfl, hE36⟩
          replace hS := hS.ext hE36
          try simp only [opv, n1, n2, n3, n4, Value.cells]
          refine g_on (yi (t := 157) rfl rfl) ?_
          refine s_go (s_eql) ?_
          try simp only [opv, n1, n2, n3, n4, Value.cells]
          try simp only [eq_self, decide_true, beq_self_eq_true, Bool.and_self]
          first | refine s_go (s_pick_t) ?_ | refine s_go (s_pick_f) ?_
          try simp only [opv, n1, n2, n3, n4, Value.cells]
          refine s_go (s_move) ?_
          try simp only [opv, n1, n2, n3, n4, Value.cells]
          refine g_on (yi (t := 162) rfl rfl) ?_
          refine s_go (s_move) ?_
          try simp only [opv, n1, n2, n3, n4, Value.cells]
          refine g_on (yi (t := 162) rfl rfl) ?_
          refine s_call en37 ?_
          try simp only [opv, n1, n2, n3, n4, Value.cells, List.map_toArray, List.map_cons, List.map_nil, List.append_toArray, List.cons_append, List.nil_append, Array.append_empty]
          refine CallR.mono (c_cDone0 _) ?_
          rintro _ w37 ⟨rfl, hE37⟩
          replace hS := hS.ext hE37
          try simp only [opv, n1, n2, n3, n4, Value.cells]
          refine g_on (yi (t := 162) rfl rfl) ?_
          refine s_go (s_eql) ?_
          try simp only [opv, n1, n2, n3, n4, Value.cells]
          try simp only [eq_self, decide_true, beq_self_eq_true, Bool.and_self]
          first | refine s_go (s_pick_t) ?_ | refine s_go (s_pick_f) ?_
          try simp only [opv, n1, n2, n3, n4, Value.cells]
          refine s_go (s_move) ?_
          try simp only [opv, n1, n2, n3, n4, Value.cells]
          refine g_on (yi (t := 167) rfl rfl) ?_
          refine s_go (s_move) ?_
          try simp only [opv, n1, n2, n3, n4, Value.cells]
          refine g_on (yi (t := 167) rfl rfl) ?_
          refine s_call en39 ?_
          try simp only [opv, n1, n2, n3, n4, Value.cells, List.map_toArray, List.map_cons, List.map_nil, List.append_toArray, List.cons_append, List.nil_append, Array.append_empty]
          refine CallR.mono (c_cLeft0 _) ?_
          rintro _ w38 ⟨rfl, hE38⟩
          replace hS := hS.ext hE38
          try simp only [opv, n1, n2, n3, n4, Value.cells]
          refine g_on (yi (t := 167) rfl rfl) ?_
          refine s_go (s_eql) ?_
          try simp only [opv, n1, n2, n3, n4, Value.cells]
          try simp only [eq_self, decide_true, beq_self_eq_true, Bool.and_self]
          first | refine s_go (s_pick_t) ?_ | refine s_go (s_pick_f) ?_
          try simp only [opv, n1, n2, n3, n4, Value.cells]
          refine s_go (s_move) ?_
          try simp only [opv, n1, n2, n3, n4, Value.cells]
          refine g_on (yi (t := 172) rfl rfl) ?_
          refine s_go (s_move) ?_
          try simp only [opv, n1, n2, n3, n4, Value.cells]
          refine g_on (yi (t := 172) rfl rfl) ?_
          refine s_call en32 ?_
          try simp only [opv, n1, n2, n3, n4, Value.cells, List.map_toArray, List.map_cons, List.map_nil, List.append_toArray, List.cons_append, List.nil_append, Array.append_empty]
          refine CallR.mono (c_wout0 _) ?_
          rintro _ w39 ⟨rfl, hE39⟩
          replace hS := hS.ext hE39
          try simp only [opv, n1, n2, n3, n4, Value.cells]
          refine g_on (yi (t := 172) rfl rfl) ?_
          refine s_go (s_len_sl Try.underlying43) ?_
          try simp only [opv, n1, n2, n3, n4, Value.cells]
          refine g_on (yi (t := 172) rfl rfl) ?_
          refine s_go (s_eql) ?_
          try simp only [opv, n1, n2, n3, n4, Value.cells]
          first | rw [decide_eq_true (show (([] : List Int).length : Int) = 0 from rfl)] | rw [decide_eq_true (show ((0 : Nat) : Int) = 0 from rfl)] | skip
          try simp only [eq_self, decide_true, beq_self_eq_true, Bool.and_self]
          first | refine s_go (s_pick_t) ?_ | refine s_go (s_pick_f) ?_
          try simp only [opv, n1, n2, n3, n4, Value.cells]
          refine s_go (s_move) ?_
          try simp only [opv, n1, n2, n3, n4, Value.cells]
          refine g_on (yi (t := 178) rfl rfl) ?_
          refine s_call en27 ?_
          try simp only [opv, n1, n2, n3, n4, Value.cells, List.map_toArray, List.map_cons, List.map_nil, List.append_toArray, List.cons_append, List.nil_append, Array.append_empty]
          refine CallR.mono (c_law07alive _) ?_
          rintro _ w40 ⟨rfl, hE40⟩
          replace hS := hS.ext hE40
          try simp only [opv, n1, n2, n3, n4, Value.cells]
          first | refine s_go (s_pick_t) ?_ | refine s_go (s_pick_f) ?_
          try simp only [opv, n1, n2, n3, n4, Value.cells]
          refine s_go (s_assign) ?_
          try simp only [opv, n1, n2, n3, n4, Value.cells]
          refine x_nil ?_
          refine hK50 _ _ ?_
          refine x_ret ?_
          refine r_tmp rfl ?_
          exact ⟨rfl, hS.ext_of⟩
end Go.Proofs.Ytpjpaipkkcengaa
