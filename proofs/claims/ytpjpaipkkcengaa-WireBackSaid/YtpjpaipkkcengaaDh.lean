/- Contracts of functions, printed by a program of this seat (wip/tools/gen.py) out of its specs. -/
import Derived.Test.YtpjpaipkkcengaaDg
import Derived.Test.YtpjpaipkkcengaaPwire
set_option linter.unusedSimpArgs false
set_option linter.unusedVariables false
set_option maxHeartbeats 800000
set_option maxRecDepth 100000
namespace Go.Proofs.Ytpjpaipkkcengaa
open Go.RowKit


theorem pc_nm (d : Int) (x : Nat) (c : Int) {nm : List Int} (h : nm.length = 8) (B : Option Addr) (m k : Nat) (n : Int) : (((pA d x c nm B m k n).toList.drop 3).take 8).toArray = ic .u8 nm := (show _ = (#[_, _, _, _, _, _, _, _] : Array Value) from rfl).trans (ic8 h)
theorem pc_at {ps : List Pc} {k j : Nat} {v : Value} (hk : k < ps.length) (hj : j < 13) (h : (pcL (ps.getD k pc0))[j]? = some v) : (rowsOf pcL ps)[k * 13 + j]? = some v := (rows_at pcL_len pc0 hk hj).trans h
theorem pc_row {ps : List Pc} {k : Nat} (hk : k < ps.length) : (((rowsOf pcL ps).drop (k * 13)).take 13).toArray = pP (ps.getD k pc0) := by rw [rows_get pcL_len pc0 hk]; rfl


theorem c_ref07Large (w0 : World) (A : Option Addr) (n c : Nat) (ps : List Pc) (hr : Rd w0 A 13 n (rowsOf pcL ps)) (hl : ps.length = n) (hok : ∀ p ∈ ps, PcOk w0 p) (hn : n ≤ 9000000000000000) :
    CallR Try.prog 26 #[.slice A n c] w0 fun v w' => v = .bool (largeP ps) ∧ Ext w0 w' := by
  have hS := (St.start (S := NoB) w0).rd_old hr
  refine c_enter (l := [.slice A n c, undef, undef, undef, undef, undef, undef, undef, undef, undef, undef, undef, undef, undef, undef, undef, undef, undef, undef, undef, undef, undef, undef, undef]) Try.func26 rfl (by simp only [Try.ntmps26, List.size_toArray, List.length_cons, List.length_nil, Nat.reduceAdd, Nat.reduceSub, Array.replicate_succ, Array.replicate_zero, List.push_toArray, List.append_toArray, List.nil_append, List.cons_append]) ?_
  refine x_seq fun K1 hK1 => ?_
  refine x_region ?_
  refine s_go (s_assign) ?_
  try simp only [opv, n1, n2, n3, n4, Value.cells]
  refine x_nil ?_
  refine hK1 _ _ ?_
  refine x_seq fun K2 hK2 => ?_
  refine x_seq fun K3 hK3 => ?_
  refine x_region ?_
  refine s_go (s_assign) ?_
  try simp only [opv, n1, n2, n3, n4, Value.cells]
  refine x_nil ?_
  refine hK3 _ _ ?_
  refine x_block ?_
  refine x_loop [2, 3, 4, 5, 6, 7, 8, 9, 10, 11, 12, 13, 14, 15, 16, 17, 18, 19, 20] (fun m f w => ∃ k : Nat, k ≤ n ∧ k ≤ 40 ∧ m = n - k ∧ f 3 = .int .i64 (k : Int) ∧ (∀ j, j < k → (ps.getD j pc0).b.length ≤ 60) ∧ St NoB w0 w [.rd A 13 n (rowsOf pcL ps)]) (n) ?init1 (fun m1 f1 wl1 hI => ?_)
  case init1 =>
    try simp only [opv, n1, n2, n3, n4, Value.cells]
    exact ⟨0, by omega, by omega, rfl, rfl, fun j hj => absurd hj (by omega), hS⟩
  obtain ⟨k, hk, hk4, hm, h3, hz, hS⟩ := hI
  simp only [clob, List.foldl, n3, n4, h3]
  refine x_seq fun K4 hK4 => ?_
  refine x_seq fun K5 hK5 => ?_
  refine x_region ?_
  refine s_go (s_move) ?_
  try simp only [opv, n1, n2, n3, n4, Value.cells]
  refine s_go (s_move) ?_
  try simp only [opv, n1, n2, n3, n4, Value.cells]
  refine s_go (s_len_sl Try.underlying36) ?_
  try simp only [opv, n1, n2, n3, n4, Value.cells]
  refine s_go (s_lss) ?_
  try simp only [opv, n1, n2, n3, n4, Value.cells]
  refine s_go (s_move) ?_
  try simp only [opv, n1, n2, n3, n4, Value.cells]
  refine s_part 8 rfl (fun hp1 => ?_) (fun hp1 => ?_)
  ·
    try simp only [n3, n4]
    try simp only [decide_eq_true_eq, decide_eq_false_iff_not, Bool.not_eq_true', Bool.not_eq_false', Int.not_lt, Int.not_le, ne_eq, Decidable.not_not] at hp1
    have hkn : k < n := by omega
    refine g_on (yi (t := 8) rfl rfl) ?_
    refine s_go (s_move) ?_
    try simp only [opv, n1, n2, n3, n4, Value.cells]
    refine g_on (yi (t := 8) rfl rfl) ?_
    refine s_go (s_lss) ?_
    try simp only [opv, n1, n2, n3, n4, Value.cells]
    first | refine s_go (s_pick_t) ?_ | refine s_go (s_pick_f) ?_
    try simp only [opv, n1, n2, n3, n4, Value.cells]
    refine x_nil ?_
    refine hK5 _ _ ?_
    refine x_cond (ht := fun hc1 => ?_) (hf := fun hc1 => ?_)
    ·
      try simp only [decide_eq_true_eq, decide_eq_false_iff_not, Bool.not_eq_true', Bool.not_eq_false', Int.not_lt, Int.not_le, ne_eq, Decidable.not_not, bne_iff_ne, beq_iff_eq, not_true_eq_false, not_false_eq_true] at hc1
      refine x_skip ?_
      refine hK4 _ _ ?_
      refine x_seq fun K6 hK6 => ?_
      refine x_block ?_
      refine x_seq fun K7 hK7 => ?_
      refine x_region ?_
      refine s_go (s_move) ?_
      try simp only [opv, n1, n2, n3, n4, Value.cells]
      refine s_go (s_move) ?_
      try simp only [opv, n1, n2, n3, n4, Value.cells]
      first | refine s_go (m_indexAddr_rd Try.underlying36 ti45 (hS := hS)) ?_ | refine s_go (m_indexAddr_vec Try.underlying36 ti45 (hS := hS)) ?_
      try simp only [opv, n1, n2, n3, n4, Value.cells, Nat.mul_one, Nat.zero_add, Int.toNat_natCast, Int.reduceToNat]
      first | refine s_go (m_fieldAddr Try.underlying45 (hi := ti43)) ?_ | refine s_go (m_fieldAddr_rd Try.underlying45 (hi := ti43) (hS := hS)) ?_ | refine s_go (m_fieldAddr_vec Try.underlying45 (hi := ti43) (hS := hS)) ?_
      try simp only [opv, n1, n2, n3, n4, Value.cells, Nat.zero_add, Nat.add_zero, List.getElem_toArray, List.getElem_cons_zero, List.getElem_cons_succ]
      first | refine s_go (m_load_obj Try.underlying43 (hS := hS) (hv := pc_at (by omega) (by decide) rfl)) ?_ | refine s_go (m_load_bx Try.underlying43 (hS := hS) (hv := pc_at (by omega) (by decide) rfl)) ?_ | refine s_go (m_load_rd Try.underlying43 (hS := hS) (hv := pc_at (by omega) (by decide) rfl)) ?_ | refine s_go (m_load_vec Try.underlying43 (hS := hS) (hv := pc_at (by omega) (by decide) rfl)) ?_
      try simp only [opv, n1, n2, n3, n4, Value.cells, List.getElem_toArray, List.getElem_cons_zero, List.getElem_cons_succ]
      refine s_go (s_len_sl Try.underlying43) ?_
      try simp only [opv, n1, n2, n3, n4, Value.cells]
      refine s_go (s_gtr) ?_
      try simp only [opv, n1, n2, n3, n4, Value.cells]
      refine x_nil ?_
      refine hK7 _ _ ?_
      refine x_cond (ht := fun hc2 => ?_) (hf := fun hc2 => ?_)
      ·
        try simp only [decide_eq_true_eq, decide_eq_false_iff_not, Bool.not_eq_true', Bool.not_eq_false', Int.not_lt, Int.not_le, ne_eq, Decidable.not_not, bne_iff_ne, beq_iff_eq, not_true_eq_false, not_false_eq_true] at hc2
        have hL := large_at (l := ps) (k := k) (by omega) (by omega) (by omega)
        refine x_seq fun K8 hK8 => ?_
        refine x_region ?_
        refine s_go (s_assign) ?_
        try simp only [opv, n1, n2, n3, n4, Value.cells]
        refine x_nil ?_
        refine hK8 _ _ ?_
        refine x_ret ?_
        refine r_tmp rfl ?_
        exact ⟨congrArg Value.bool (by rw [hL] <;> first | rfl | exact decide_eq_decide.2 (by omega)), hS.ext_of⟩
      ·
        try simp only [decide_eq_true_eq, decide_eq_false_iff_not, Bool.not_eq_true', Bool.not_eq_false', Int.not_lt, Int.not_le, ne_eq, Decidable.not_not, bne_iff_ne, beq_iff_eq, not_true_eq_false, not_false_eq_true] at hc2
        refine x_skip ?_
        refine hK6 _ _ ?_
        refine x_region ?_
        refine s_go (s_move) ?_
        try simp only [opv, n1, n2, n3, n4, Value.cells]
        refine s_go (s_add (hc := by first | exact wr_i64 (by omega) (by omega) | rfl)) ?_
        try simp only [opv, n1, n2, n3, n4, Value.cells]
        refine s_go (s_assign) ?_
        try simp only [opv, n1, n2, n3, n4, Value.cells]
        refine x_nil ?_
        refine loop_back (m' := n - (k + 1)) (by simp only [clob, List.foldl, n1, n2, n3, n4]) ?_ ?_
        · try simp only [opv, n1, n2, n3, n4, Value.cells]
          exact ⟨k + 1, by omega, by omega, by omega, by rfl, fun j hj => by rcases Nat.lt_or_eq_of_le (Nat.le_of_lt_succ hj) with h | h; exact hz j h; subst h; omega, hS⟩
        · omega
    ·
      try simp only [decide_eq_true_eq, decide_eq_false_iff_not, Bool.not_eq_true', Bool.not_eq_false', Int.not_lt, Int.not_le, ne_eq, Decidable.not_not, bne_iff_ne, beq_iff_eq, not_true_eq_false, not_false_eq_true] at hc1
      first | have hL := large_all hz (.inr (by omega)) | skip
      refine x_exit (look_here ?_)
      refine hK2 _ _ ?_
      refine x_seq fun K9 hK9 => ?_
      refine x_region ?_
      refine s_go (s_move) ?_
      try simp only [opv, n1, n2, n3, n4, Value.cells]
      refine s_go (s_len_sl Try.underlying36) ?_
      try simp only [opv, n1, n2, n3, n4, Value.cells]
      refine s_go (s_gtr) ?_
      try simp only [opv, n1, n2, n3, n4, Value.cells]
      refine s_go (s_assign) ?_
      try simp only [opv, n1, n2, n3, n4, Value.cells]
      refine x_nil ?_
      refine hK9 _ _ ?_
      refine x_ret ?_
      refine r_tmp rfl ?_
      exact ⟨congrArg Value.bool (by rw [hL] <;> first | rfl | exact decide_eq_decide.2 (by omega)), hS.ext_of⟩
  ·
    try simp only [n3, n4]
    try simp only [decide_eq_true_eq, decide_eq_false_iff_not, Bool.not_eq_true', Bool.not_eq_false', Int.not_lt, Int.not_le, ne_eq, Decidable.not_not] at hp1
    have hL := large_all hz (.inl (by omega))
    refine g_off (yi (t := 8) rfl rfl) ?_
    try simp only [opv, n1, n2, n3, n4, Value.cells]
    refine g_off (yi (t := 8) rfl rfl) ?_
    try simp only [opv, n1, n2, n3, n4, Value.cells]
    first | refine s_go (s_pick_t) ?_ | refine s_go (s_pick_f) ?_
    try simp only [opv, n1, n2, n3, n4, Value.cells]
    refine x_nil ?_
    refine hK5 _ _ ?_
    refine x_cond_f (h := ?_)
    first | have hL := large_all hz (.inr (by omega)) | skip
    refine x_exit (look_here ?_)
    refine hK2 _ _ ?_
    refine x_seq fun K10 hK10 => ?_
    refine x_region ?_
    refine s_go (s_move) ?_
    try simp only [opv, n1, n2, n3, n4, Value.cells]
    refine s_go (s_len_sl Try.underlying36) ?_
    try simp only [opv, n1, n2, n3, n4, Value.cells]
    refine s_go (s_gtr) ?_
    try simp only [opv, n1, n2, n3, n4, Value.cells]
    refine s_go (s_assign) ?_
    try simp only [opv, n1, n2, n3, n4, Value.cells]
    refine x_nil ?_
    refine hK10 _ _ ?_
    refine x_ret ?_
    refine r_tmp rfl ?_
    exact ⟨congrArg Value.bool (by rw [hL] <;> first | rfl | exact decide_eq_decide.2 (by omega)), hS.ext_of⟩

theorem c_ref07Out (w0 : World) (p : Pc) (hp : PcOk w0 p) (hp6 : p.b.length ≤ 60)  :
    CallR Try.prog 128 #[.agg (pP p)] w0 fun v w' => ∃ A c, v = .slice A ((pcOut p)).length c ∧ St NoB w0 w' [.vec A c 5 1 ((pcOut p)).length (((pcOut p)).map (Value.int .u8))] := by
  have hS := (St.start (S := NoB) w0).rd_old hp.rd
  have hx := hp.x
  have hnl := hp.nl
  have hnb := hp.nb
  have hs := nsz_le p.nm
  have htl := nmTxt_len p.nm
  have htb := nmTxt_byt hp.nb
  refine c_enter (l := [.agg (pP p), undef, undef, undef, undef, undef, undef, undef, undef, undef, undef, undef, undef, undef, undef, undef, undef, undef, undef, undef, undef, undef, undef, undef, undef, undef, undef, undef, undef, undef, undef, undef, undef, undef, undef]) Try.func128 rfl (by simp only [Try.ntmps128, List.size_toArray, List.length_cons, List.length_nil, Nat.reduceAdd, Nat.reduceSub, Array.replicate_succ, Array.replicate_zero, List.push_toArray, List.append_toArray, List.nil_append, List.cons_append]) ?_
  refine x_seq fun K1 hK1 => ?_
  refine x_region ?_
  refine m_box hS (fun w1 g1 hS => ?_)
  try simp only [opv, n1, n2, n3, n4, Value.cells, Array.toArray_toList] at hS ⊢
  refine s_go (s_assign) ?_
  try simp only [opv, n1, n2, n3, n4, Value.cells]
  refine x_nil ?_
  refine hK1 _ _ ?_
  refine x_seq fun K2 hK2 => ?_
  refine x_seq fun K3 hK3 => ?_
  refine x_region ?_
  first | refine s_go (m_fieldAddr Try.underlying45 (hi := ti3)) ?_ | refine s_go (m_fieldAddr_rd Try.underlying45 (hi := ti3) (hS := hS)) ?_ | refine s_go (m_fieldAddr_vec Try.underlying45 (hi := ti3) (hS := hS)) ?_
  try simp only [opv, n1, n2, n3, n4, Value.cells, Nat.zero_add, Nat.add_zero, List.getElem_toArray, List.getElem_cons_zero, List.getElem_cons_succ]
  first | refine s_go (m_load_obj Try.underlying3 (hS := hS)) ?_ | refine s_go (m_load_bx Try.underlying3 (hS := hS)) ?_ | refine s_go (m_load_rd Try.underlying3 (hS := hS)) ?_ | refine s_go (m_load_vec Try.underlying3 (hS := hS)) ?_
  try simp only [opv, n1, n2, n3, n4, Value.cells, List.getElem_toArray, List.getElem_cons_zero, List.getElem_cons_succ]
  refine x_nil ?_
  refine hK3 _ _ ?_
  refine x_block ?_
  refine x_seq fun K4 hK4 => ?_
  refine x_region ?_
  refine s_go (s_eql) ?_
  try simp only [opv, n1, n2, n3, n4, Value.cells]
  refine s_go (s_assign) ?_
  try simp only [opv, n1, n2, n3, n4, Value.cells]
  refine x_nil ?_
  refine hK4 _ _ ?_
  refine x_cond (ht := fun hc1 => ?_) (hf := fun hc1 => ?_)
  ·
    try simp only [decide_eq_true_eq, decide_eq_false_iff_not, Bool.not_eq_true', Bool.not_eq_false', Int.not_lt, Int.not_le, ne_eq, Decidable.not_not, bne_iff_ne, beq_iff_eq, not_true_eq_false, not_false_eq_true] at hc1
    have hO : pcOut p = vari p.x := if_pos hc1
    refine x_seq fun K5 hK5 => ?_
    refine x_region ?_
    first | refine s_go (m_fieldAddr Try.underlying45 (hi := ti40)) ?_ | refine s_go (m_fieldAddr_rd Try.underlying45 (hi := ti40) (hS := hS)) ?_ | refine s_go (m_fieldAddr_vec Try.underlying45 (hi := ti40) (hS := hS)) ?_
    try simp only [opv, n1, n2, n3, n4, Value.cells, Nat.zero_add, Nat.add_zero, List.getElem_toArray, List.getElem_cons_zero, List.getElem_cons_succ]
    first | refine s_go (m_load_obj Try.underlying40 (hS := hS)) ?_ | refine s_go (m_load_bx Try.underlying40 (hS := hS)) ?_ | refine s_go (m_load_rd Try.underlying40 (hS := hS)) ?_ | refine s_go (m_load_vec Try.underlying40 (hS := hS)) ?_
    try simp only [opv, n1, n2, n3, n4, Value.cells, List.getElem_toArray, List.getElem_cons_zero, List.getElem_cons_succ]
    refine s_call en127 ?_
    try simp only [opv, n1, n2, n3, n4, Value.cells, List.map_toArray, List.map_cons, List.map_nil, List.append_toArray, List.cons_append, List.nil_append, Array.append_empty]
    refine CallR.mono (c_ref03Var _ (by first | assumption | omega) _) ?_
    rintro _ w2 ⟨A2, c2, rfl, hC2⟩
    replace hS := hS.call hC2
    simp only [List.cons_append, List.nil_append] at hS
    try simp only [opv, n1, n2, n3, n4, Value.cells]
    refine s_go (s_assign) ?_
    try simp only [opv, n1, n2, n3, n4, Value.cells]
    refine x_nil ?_
    refine hK5 _ _ ?_
    refine x_ret ?_
    refine r_tmp rfl ?_
    rw [hO]
    exact ⟨_, _, rfl, hS.sel (by repeat (first | exact Sel.nil | (refine Sel.cons (by repeat (first | exact Del.head | apply Del.tail)) ?_)))⟩
  ·
    try simp only [decide_eq_true_eq, decide_eq_false_iff_not, Bool.not_eq_true', Bool.not_eq_false', Int.not_lt, Int.not_le, ne_eq, Decidable.not_not, bne_iff_ne, beq_iff_eq, not_true_eq_false, not_false_eq_true] at hc1
    have h0 : ¬ p.d = 0 := hc1
    refine x_seq fun K6 hK6 => ?_
    refine x_region ?_
    refine s_go (s_eql) ?_
    try simp only [opv, n1, n2, n3, n4, Value.cells]
    refine s_go (s_assign) ?_
    try simp only [opv, n1, n2, n3, n4, Value.cells]
    refine x_nil ?_
    refine hK6 _ _ ?_
    refine x_cond (ht := fun hc2 => ?_) (hf := fun hc2 => ?_)
    ·
      try simp only [decide_eq_true_eq, decide_eq_false_iff_not, Bool.not_eq_true', Bool.not_eq_false', Int.not_lt, Int.not_le, ne_eq, Decidable.not_not, bne_iff_ne, beq_iff_eq, not_true_eq_false, not_false_eq_true] at hc2
      have hO : pcOut p = [p.c] := by rw [pcOut, if_neg h0, if_pos hc2]
      refine x_seq fun K7 hK7 => ?_
      refine x_region ?_
      first | refine s_go (m_fieldAddr Try.underlying45 (hi := ti5)) ?_ | refine s_go (m_fieldAddr_rd Try.underlying45 (hi := ti5) (hS := hS)) ?_ | refine s_go (m_fieldAddr_vec Try.underlying45 (hi := ti5) (hS := hS)) ?_
      try simp only [opv, n1, n2, n3, n4, Value.cells, Nat.zero_add, Nat.add_zero, List.getElem_toArray, List.getElem_cons_zero, List.getElem_cons_succ]
      first | refine s_go (m_load_obj Try.underlying5 (hS := hS)) ?_ | refine s_go (m_load_bx Try.underlying5 (hS := hS)) ?_ | refine s_go (m_load_rd Try.underlying5 (hS := hS)) ?_ | refine s_go (m_load_vec Try.underlying5 (hS := hS)) ?_
      try simp only [opv, n1, n2, n3, n4, Value.cells, List.getElem_toArray, List.getElem_cons_zero, List.getElem_cons_succ]
      refine m_buildRow (cells := #[_]) Try.underlying43 ti5 (hc := by simp only [List.map_toArray, List.map_cons, List.map_nil, opv, n1, n2, n3, n4, Value.cells, List.toList_toArray]; (repeat (refine fill_cons rfl rfl (Nat.le_of_ble_eq_true rfl) ?_)); rfl) (hS := hS) (h := fun w3 g3 hS => ?_)
      try simp only [opv, n1, n2, n3, n4, Value.cells, Array.toArray_toList] at hS ⊢
      replace hS := hS.obj_vec (sz := 1) (n := 1) rfl (by decide) .head
      refine s_go (s_assign) ?_
      try simp only [opv, n1, n2, n3, n4, Value.cells]
      refine x_nil ?_
      refine hK7 _ _ ?_
      refine x_ret ?_
      refine r_tmp rfl ?_
      rw [hO]
      exact ⟨_, _, rfl, hS.sel (by repeat (first | exact Sel.nil | (refine Sel.cons (by repeat (first | exact Del.head | apply Del.tail)) ?_)))⟩
    ·
      try simp only [decide_eq_true_eq, decide_eq_false_iff_not, Bool.not_eq_true', Bool.not_eq_false', Int.not_lt, Int.not_le, ne_eq, Decidable.not_not, bne_iff_ne, beq_iff_eq, not_true_eq_false, not_false_eq_true] at hc2
      have h1 : ¬ p.d = 1 := hc2
      refine x_seq fun K8 hK8 => ?_
      refine x_region ?_
      refine s_go (s_eql) ?_
      try simp only [opv, n1, n2, n3, n4, Value.cells]
      refine s_go (s_assign) ?_
      try simp only [opv, n1, n2, n3, n4, Value.cells]
      refine x_nil ?_
      refine hK8 _ _ ?_
      refine x_cond (ht := fun hc3 => ?_) (hf := fun hc3 => ?_)
      ·
        try simp only [decide_eq_true_eq, decide_eq_false_iff_not, Bool.not_eq_true', Bool.not_eq_false', Int.not_lt, Int.not_le, ne_eq, Decidable.not_not, bne_iff_ne, beq_iff_eq, not_true_eq_false, not_false_eq_true] at hc3
        have hO : pcOut p = nmOut p.nm := by rw [pcOut, if_neg h0, if_neg h1, if_pos hc3]
        refine x_seq fun K9 hK9 => ?_
        refine x_region ?_
        first | refine s_go (m_fieldAddr Try.underlying45 (hi := ti42)) ?_ | refine s_go (m_fieldAddr_rd Try.underlying45 (hi := ti42) (hS := hS)) ?_ | refine s_go (m_fieldAddr_vec Try.underlying45 (hi := ti42) (hS := hS)) ?_
        try simp only [opv, n1, n2, n3, n4, Value.cells, Nat.zero_add, Nat.add_zero, List.getElem_toArray, List.getElem_cons_zero, List.getElem_cons_succ]
        first | refine s_go (m_load_row Try.underlying42 (hi := ti42) (hS := hS)) ?_ | refine s_go (m_loada_obj Try.underlying42 (hi := ti42) (hS := hS)) ?_ | refine s_go (m_loada_bx Try.underlying42 (hi := ti42) (hS := hS)) ?_ | refine s_go (m_loada_rd Try.underlying42 (hi := ti42) (hS := hS)) ?_ | refine s_go (m_loada_vec Try.underlying42 (hi := ti42) (hS := hS)) ?_
        try simp only [opv, n1, n2, n3, n4, Value.cells, List.getElem_toArray, List.getElem_cons_zero, List.getElem_cons_succ]
        rw [pc_nm _ _ _ hp.nl]
        refine s_call en118 ?_
        try simp only [opv, n1, n2, n3, n4, Value.cells, List.map_toArray, List.map_cons, List.map_nil, List.append_toArray, List.cons_append, List.nil_append, Array.append_empty]
        refine CallR.mono (c_ref06Text _ (by first | assumption | omega) (by assumption) _) ?_
        rintro _ w4 ⟨rfl, hE4⟩
        replace hS := hS.ext hE4
        try simp only [opv, n1, n2, n3, n4, Value.cells]
        refine s_go (s_assign) ?_
        try simp only [opv, n1, n2, n3, n4, Value.cells]
        refine x_nil ?_
        refine hK9 _ _ ?_
        refine x_seq fun K10 hK10 => ?_
        refine x_region ?_
        refine s_go (s_move) ?_
        try simp only [opv, n1, n2, n3, n4, Value.cells]
        refine s_go (s_len_str Try.underlying9) ?_
        try simp only [opv, n1, n2, n3, n4, Value.cells]
        rw [strOf_size, htl]
        refine s_go (s_conv Try.underlying3 Try.underlying5 (hc := by first | exact wr_u8 (by omega) (by omega) | exact cv_u8 rfl | rfl)) ?_
        try simp only [opv, n1, n2, n3, n4, Value.cells]
        refine m_buildRow (cells := #[_]) Try.underlying43 ti5 (hc := by simp only [List.map_toArray, List.map_cons, List.map_nil, opv, n1, n2, n3, n4, Value.cells, List.toList_toArray]; (repeat (refine fill_cons rfl rfl (Nat.le_of_ble_eq_true rfl) ?_)); rfl) (hS := hS) (h := fun w5 g5 hS => ?_)
        try simp only [opv, n1, n2, n3, n4, Value.cells, Array.toArray_toList] at hS ⊢
        replace hS := hS.obj_vec (sz := 1) (n := 1) rfl (by decide) .head
        refine s_go (s_move) ?_
        try simp only [opv, n1, n2, n3, n4, Value.cells]
        refine m_append_str Try.underlying43 Try.underlying9 ti5 (hS := hS) (ns := nmTxt p.nm) (hw := htb) (h := fun w6 A6 C6 hS => ?_)
        try simp only [← List.map_append, ← List.map_drop, ← List.map_take, Nat.mul_one, Nat.zero_mul, Nat.sub_zero, List.drop_zero, List.nil_append, Nat.zero_add] at hS ⊢
        try simp only [opv, n1, n2, n3, n4, Value.cells, Array.toArray_toList] at hS ⊢
        refine s_go (s_assign) ?_
        try simp only [opv, n1, n2, n3, n4, Value.cells]
        refine x_nil ?_
        refine hK10 _ _ ?_
        refine x_ret ?_
        refine r_tmp rfl ?_
        rw [hO, show nmOut p.nm = [(nsz p.nm : Int)] ++ nmTxt p.nm from rfl]
        rw [← htl] at hS ⊢
        exact ⟨_, _, by rw [List.length_append]; rfl, by rw [List.length_append]; exact hS.sel (by repeat (first | exact Sel.nil | (refine Sel.cons (by repeat (first | exact Del.head | apply Del.tail)) ?_)))⟩
      ·
        try simp only [decide_eq_true_eq, decide_eq_false_iff_not, Bool.not_eq_true', Bool.not_eq_false', Int.not_lt, Int.not_le, ne_eq, Decidable.not_not, bne_iff_ne, beq_iff_eq, not_true_eq_false, not_false_eq_true] at hc3
        have hO : pcOut p = vari p.b.length ++ p.b := by rw [pcOut, if_neg h0, if_neg h1, if_neg hc3]
        refine x_skip ?_
        refine hK2 _ _ ?_
        refine x_seq fun K11 hK11 => ?_
        refine x_mixed_f [] 0 [2, 27, 28, 29, 30, 31, 32, 33, 34] (fun f w => ∃ (B : Option Addr) (k : Nat), f 2 = .slice B (vari p.b.length ++ p.b).length k ∧ St NoB w0 w [.vec B k 5 1 (vari p.b.length ++ p.b).length ((vari p.b.length ++ p.b).map (Value.int .u8))]) (by kernel_rfl) (by kernel_rfl) (by kernel_rfl) (by decide) hS (fun w7 hS => ?mixpre901) ?mixrest901
        case mixpre901 =>
          refine p_nil ?_
          simp only [List.length_cons, List.length_nil, Nat.reduceAdd, Nat.reduceSub]
          first | refine any_go (i := 0) (by rfl) (by decide +kernel) (by decide +kernel) noLate_nil (go_yields w_none (fun w hS => m_fieldAddr Try.underlying45 (hi := ti43))) ?_ | refine any_go (i := 0) (by rfl) (by decide +kernel) (by decide +kernel) noLate_nil (go_yields w_none (fun w hS => m_fieldAddr_rd Try.underlying45 (hi := ti43) (hS := hS))) ?_ | refine any_go (i := 0) (by rfl) (by decide +kernel) (by decide +kernel) noLate_nil (go_yields w_none (fun w hS => m_fieldAddr_vec Try.underlying45 (hi := ti43) (hS := hS))) ?_
          try simp only [opv, n1, n2, n3, n4, Value.cells, Nat.zero_add, Nat.add_zero, List.getElem_toArray, List.getElem_cons_zero, List.getElem_cons_succ]
          first | refine any_go (i := 1) (by rfl) (by decide +kernel) (by decide +kernel) noLate_nil (go_yields w_none (fun w hS => m_load_obj Try.underlying43 (hS := hS))) ?_ | refine any_go (i := 1) (by rfl) (by decide +kernel) (by decide +kernel) noLate_nil (go_yields w_none (fun w hS => m_load_bx Try.underlying43 (hS := hS))) ?_ | refine any_go (i := 1) (by rfl) (by decide +kernel) (by decide +kernel) noLate_nil (go_yields w_none (fun w hS => m_load_rd Try.underlying43 (hS := hS))) ?_ | refine any_go (i := 1) (by rfl) (by decide +kernel) (by decide +kernel) noLate_nil (go_yields w_none (fun w hS => m_load_vec Try.underlying43 (hS := hS))) ?_
          try simp only [opv, n1, n2, n3, n4, Value.cells, List.getElem_toArray, List.getElem_cons_zero, List.getElem_cons_succ]
          refine any_go (i := 2) (by rfl) (by decide +kernel) (by decide +kernel) noLate_nil (go_yields w_none (fun w hS => s_len_sl Try.underlying43)) ?_
          try simp only [opv, n1, n2, n3, n4, Value.cells]
          refine any_go (i := 3) (by rfl) (by decide +kernel) (by decide +kernel) noLate_nil (go_yields w_none (fun w hS => s_conv Try.underlying3 Try.underlying40 (hc := by first | exact wr_u64 (by omega) (by omega) | rfl))) ?_
          try simp only [opv, n1, n2, n3, n4, Value.cells]
          first | refine any_go (i := 5) (by rfl) (by decide +kernel) (by decide +kernel) noLate_nil (go_yields w_none (fun w hS => m_fieldAddr Try.underlying45 (hi := ti43))) ?_ | refine any_go (i := 5) (by rfl) (by decide +kernel) (by decide +kernel) noLate_nil (go_yields w_none (fun w hS => m_fieldAddr_rd Try.underlying45 (hi := ti43) (hS := hS))) ?_ | refine any_go (i := 5) (by rfl) (by decide +kernel) (by decide +kernel) noLate_nil (go_yields w_none (fun w hS => m_fieldAddr_vec Try.underlying45 (hi := ti43) (hS := hS))) ?_
          try simp only [opv, n1, n2, n3, n4, Value.cells, Nat.zero_add, Nat.add_zero, List.getElem_toArray, List.getElem_cons_zero, List.getElem_cons_succ]
          first | refine any_go (i := 6) (by rfl) (by decide +kernel) (by decide +kernel) noLate_nil (go_yields w_none (fun w hS => m_load_obj Try.underlying43 (hS := hS))) ?_ | refine any_go (i := 6) (by rfl) (by decide +kernel) (by decide +kernel) noLate_nil (go_yields w_none (fun w hS => m_load_bx Try.underlying43 (hS := hS))) ?_ | refine any_go (i := 6) (by rfl) (by decide +kernel) (by decide +kernel) noLate_nil (go_yields w_none (fun w hS => m_load_rd Try.underlying43 (hS := hS))) ?_ | refine any_go (i := 6) (by rfl) (by decide +kernel) (by decide +kernel) noLate_nil (go_yields w_none (fun w hS => m_load_vec Try.underlying43 (hS := hS))) ?_
          try simp only [opv, n1, n2, n3, n4, Value.cells, List.getElem_toArray, List.getElem_cons_zero, List.getElem_cons_succ]
          refine any_step [4] (by kernel_rfl) (by decide) (fun w8 hE => ⟨fun _ => (hS.ext hE).sel (by repeat (first | exact Sel.nil | (refine Sel.cons (by repeat (first | exact Del.head | apply Del.tail)) ?_))), ?_⟩)
          replace hS := hS.ext hE
          intro i hi
          simp only [List.mem_cons, List.not_mem_nil, or_false] at hi
          subst hi
          ·
            refine any_op (by rfl) ?_
            have hvl := vari_len10 (x := p.b.length) (by omega)
            refine s_call en127 ?_
            try simp only [opv, n1, n2, n3, n4, Value.cells, List.map_toArray, List.map_cons, List.map_nil, List.append_toArray, List.cons_append, List.nil_append, Array.append_empty]
            refine CallR.mono (c_ref03Var _ (by first | assumption | omega) _) ?_
            rintro _ w9 ⟨A9, c9, rfl, hC9⟩
            replace hS := hS.call hC9
            simp only [List.cons_append, List.nil_append] at hS
            try simp only [opv, n1, n2, n3, n4, Value.cells]
            refine x_nil ?_
            refine any_step [7] (by kernel_rfl) (by decide) (fun w10 hE => ⟨fun _ => (hS.ext hE).sel (by repeat (first | exact Sel.nil | (refine Sel.cons (by repeat (first | exact Del.head | apply Del.tail)) ?_))), ?_⟩)
            replace hS := hS.ext hE
            intro i hi
            simp only [List.mem_cons, List.not_mem_nil, or_false] at hi
            subst hi
            ·
              refine any_op (by rfl) ?_
              refine m_append Try.underlying43 ti5 (hS := hS) (h := fun w11 A11 C11 hS => ?_)
              try simp only [← List.map_append, ← List.map_drop, ← List.map_take, Nat.mul_one, Nat.zero_mul, Nat.sub_zero, List.drop_zero, List.nil_append, Nat.zero_add] at hS ⊢
              try simp only [opv, n1, n2, n3, n4, Value.cells, Array.toArray_toList] at hS ⊢
              refine x_nil ?_
              refine any_go (i := 8) (by rfl) (by decide +kernel) (by decide +kernel) noLate_nil (go_yields w_none (fun w hS => s_assign)) ?_
              try simp only [opv, n1, n2, n3, n4, Value.cells]
              refine any_nil (by kernel_rfl) (fun w12 hE => ?_)
              replace hS := hS.ext hE
              refine ⟨fun _ => hS.sel (by repeat (first | exact Sel.nil | (refine Sel.cons (by repeat (first | exact Del.head | apply Del.tail)) ?_))), ?_⟩
              refine mix_leaf (by simp only [clob, List.foldl, n1, n2, n3, n4]) ?_
              try simp only [n1, n2]
              rw [← List.length_append] at hS ⊢
              exact ⟨_, _, rfl, hS.sel (by repeat (first | exact Sel.nil | (refine Sel.cons (by repeat (first | exact Del.head | apply Del.tail)) ?_)))⟩
        intro fm1 w13 hM
        obtain ⟨B, kb, h2, hS⟩ := hM
        simp only [clob, List.foldl, n3, n4, h2]
        refine hK11 _ _ ?_
        refine x_ret ?_
        refine r_tmp rfl ?_
        rw [hO]
        exact ⟨_, _, rfl, hS⟩


theorem rd_zero (w : World) (A : Option Addr) (sz : Nat) : Rd w A sz 0 [] := ⟨by simp, fun h => absurd h (by omega)⟩
theorem PcOk.ext {w w' : World} {p : Pc} (h : PcOk w p) (hE : Ext w w') : PcOk w' p := ⟨h.d, h.x, h.c, h.nl, h.nb, Res.holds_ext (r := .rd p.A 1 p.b.length (p.b.map (Value.int .u8))) h.rd hE, h.bb, h.bc, h.bm, h.n⟩
theorem allOut_len' {w : World} {l : List Pc} {k : Nat} (h : ∀ p ∈ l, PcOk w p) (hb : ∀ p ∈ l, p.b.length ≤ 60) : (allOut (l.take k)).length ≤ 70 * l.length := by
  have := allOut_len (l := l.take k) (fun p hp => h p (List.mem_of_mem_take hp)) (fun p hp => hb p (List.mem_of_mem_take hp))
  have h2 : (l.take k).length ≤ l.length := by rw [List.length_take]; omega
  omega


theorem c_law07write (w0 : World) (g : Nat) (A : Option Addr) (c : Nat) (xs : List Int) (hx : xs.length ≤ 10000000) (p : Pc) (hp : PcOk w0 p) (hp6 : p.b.length ≤ 60) (hM : St (OwnB [.obj g (.cells #[.slice A xs.length c] 153 (0, 0)), .vec A c 5 1 xs.length (xs.map (Value.int .u8)), .rd p.A 1 p.b.length (p.b.map (Value.int .u8))]) w0 w0 [.obj g (.cells #[.slice A xs.length c] 153 (0, 0)), .vec A c 5 1 xs.length (xs.map (Value.int .u8)), .rd p.A 1 p.b.length (p.b.map (Value.int .u8))]) :
    CallR Try.prog 30 #[.pointer (some ⟨g, 0, none⟩), .agg (pP p)] w0 fun v w' => v = .tuple #[] ∧ WrSt w0 w' [.obj g (.cells #[.slice A xs.length c] 153 (0, 0)), .vec A c 5 1 xs.length (xs.map (Value.int .u8)), .rd p.A 1 p.b.length (p.b.map (Value.int .u8))] g (xs ++ pcOut p) [.rd p.A 1 p.b.length (p.b.map (Value.int .u8))] := by
  have hS := hM
  have hpx := hp.x
  have hnl := hp.nl
  have hnb := hp.nb
  refine c_enter (l := [.pointer (some ⟨g, 0, none⟩), .agg (pP p), undef, undef, undef, undef, undef, undef, undef, undef, undef, undef, undef, undef, undef, undef, undef, undef, undef, undef, undef, undef, undef, undef, undef, undef, undef, undef]) Try.func30 rfl (by simp only [Try.ntmps30, List.size_toArray, List.length_cons, List.length_nil, Nat.reduceAdd, Nat.reduceSub, Array.replicate_succ, Array.replicate_zero, List.push_toArray, List.append_toArray, List.nil_append, List.cons_append]) ?_
  refine x_seq fun K1 hK1 => ?_
  refine x_region ?_
  refine m_box hS (fun w1 g1 hS => ?_)
  try simp only [opv, n1, n2, n3, n4, Value.cells, Array.toArray_toList] at hS ⊢
  refine x_nil ?_
  refine hK1 _ _ ?_
  refine x_seq fun K2 hK2 => ?_
  refine x_region ?_
  first | refine s_go (m_fieldAddr Try.underlying45 (hi := ti3)) ?_ | refine s_go (m_fieldAddr_rd Try.underlying45 (hi := ti3) (hS := hS)) ?_ | refine s_go (m_fieldAddr_vec Try.underlying45 (hi := ti3) (hS := hS)) ?_
  try simp only [opv, n1, n2, n3, n4, Value.cells, Nat.zero_add, Nat.add_zero, List.getElem_toArray, List.getElem_cons_zero, List.getElem_cons_succ]
  first | refine s_go (m_load_obj Try.underlying3 (hS := hS)) ?_ | refine s_go (m_load_bx Try.underlying3 (hS := hS)) ?_ | refine s_go (m_load_rd Try.underlying3 (hS := hS)) ?_ | refine s_go (m_load_vec Try.underlying3 (hS := hS)) ?_
  try simp only [opv, n1, n2, n3, n4, Value.cells, List.getElem_toArray, List.getElem_cons_zero, List.getElem_cons_succ]
  refine x_nil ?_
  refine hK2 _ _ ?_
  refine x_block ?_
  refine x_seq fun K3 hK3 => ?_
  refine x_region ?_
  refine s_go (s_eql) ?_
  try simp only [opv, n1, n2, n3, n4, Value.cells]
  refine s_go (s_assign) ?_
  try simp only [opv, n1, n2, n3, n4, Value.cells]
  refine x_nil ?_
  refine hK3 _ _ ?_
  refine x_cond (ht := fun hc1 => ?_) (hf := fun hc1 => ?_)
  ·
    try simp only [decide_eq_true_eq, decide_eq_false_iff_not, Bool.not_eq_true', Bool.not_eq_false', Int.not_lt, Int.not_le, ne_eq, Decidable.not_not, bne_iff_ne, beq_iff_eq, not_true_eq_false, not_false_eq_true] at hc1
    have hO : pcOut p = vari p.x := if_pos hc1
    refine x_region ?_
    refine s_go (s_move) ?_
    try simp only [opv, n1, n2, n3, n4, Value.cells]
    first | refine s_go (m_fieldAddr Try.underlying45 (hi := ti40)) ?_ | refine s_go (m_fieldAddr_rd Try.underlying45 (hi := ti40) (hS := hS)) ?_ | refine s_go (m_fieldAddr_vec Try.underlying45 (hi := ti40) (hS := hS)) ?_
    try simp only [opv, n1, n2, n3, n4, Value.cells, Nat.zero_add, Nat.add_zero, List.getElem_toArray, List.getElem_cons_zero, List.getElem_cons_succ]
    first | refine s_go (m_load_obj Try.underlying40 (hS := hS)) ?_ | refine s_go (m_load_bx Try.underlying40 (hS := hS)) ?_ | refine s_go (m_load_rd Try.underlying40 (hS := hS)) ?_ | refine s_go (m_load_vec Try.underlying40 (hS := hS)) ?_
    try simp only [opv, n1, n2, n3, n4, Value.cells, List.getElem_toArray, List.getElem_cons_zero, List.getElem_cons_succ]
    refine s_call en115 ?_
    try simp only [opv, n1, n2, n3, n4, Value.cells, List.map_toArray, List.map_cons, List.map_nil, List.append_toArray, List.cons_append, List.nil_append, Array.append_empty]
    refine CallR.mono (c_wnum _ g A c xs (by omega) p.x hpx (hS.owns (by repeat (first | exact Spl.nil | (apply Spl.cons (by repeat (first | exact Del.head | apply Del.tail))))))) ?_
    rintro _ w2 ⟨rfl, A2, c2, hC2⟩
    replace hS := hS.frame (by repeat (first | exact Spl.nil | (apply Spl.cons (by repeat (first | exact Del.head | apply Del.tail))))) hC2 (by intro r hr g hg; simp only [List.mem_cons, List.not_mem_nil, or_false] at hr; rcases hr with rfl | rfl | rfl <;> first | (simp [Res.reads] at hg; done) | exact .inr ⟨_, by simp, .inr hg⟩)
    simp only [List.cons_append, List.nil_append] at hS
    try simp only [opv, n1, n2, n3, n4, Value.cells]
    refine x_nil ?_
    refine r_none rfl ?_
    rw [hO]
    exact ⟨rfl, _, _, hS.sel (by repeat (first | exact Sel.nil | (refine Sel.cons (by repeat (first | exact Del.head | apply Del.tail)) ?_)))⟩
  ·
    try simp only [decide_eq_true_eq, decide_eq_false_iff_not, Bool.not_eq_true', Bool.not_eq_false', Int.not_lt, Int.not_le, ne_eq, Decidable.not_not, bne_iff_ne, beq_iff_eq, not_true_eq_false, not_false_eq_true] at hc1
    have h0 : ¬ p.d = 0 := hc1
    refine x_seq fun K4 hK4 => ?_
    refine x_region ?_
    refine s_go (s_eql) ?_
    try simp only [opv, n1, n2, n3, n4, Value.cells]
    refine s_go (s_assign) ?_
    try simp only [opv, n1, n2, n3, n4, Value.cells]
    refine x_nil ?_
    refine hK4 _ _ ?_
    refine x_cond (ht := fun hc2 => ?_) (hf := fun hc2 => ?_)
    ·
      try simp only [decide_eq_true_eq, decide_eq_false_iff_not, Bool.not_eq_true', Bool.not_eq_false', Int.not_lt, Int.not_le, ne_eq, Decidable.not_not, bne_iff_ne, beq_iff_eq, not_true_eq_false, not_false_eq_true] at hc2
      have hO : pcOut p = [p.c] := by rw [pcOut, if_neg h0, if_pos hc2]
      refine x_region ?_
      refine s_go (s_move) ?_
      try simp only [opv, n1, n2, n3, n4, Value.cells]
      first | refine s_go (m_fieldAddr Try.underlying45 (hi := ti5)) ?_ | refine s_go (m_fieldAddr_rd Try.underlying45 (hi := ti5) (hS := hS)) ?_ | refine s_go (m_fieldAddr_vec Try.underlying45 (hi := ti5) (hS := hS)) ?_
      try simp only [opv, n1, n2, n3, n4, Value.cells, Nat.zero_add, Nat.add_zero, List.getElem_toArray, List.getElem_cons_zero, List.getElem_cons_succ]
      first | refine s_go (m_load_obj Try.underlying5 (hS := hS)) ?_ | refine s_go (m_load_bx Try.underlying5 (hS := hS)) ?_ | refine s_go (m_load_rd Try.underlying5 (hS := hS)) ?_ | refine s_go (m_load_vec Try.underlying5 (hS := hS)) ?_
      try simp only [opv, n1, n2, n3, n4, Value.cells, List.getElem_toArray, List.getElem_cons_zero, List.getElem_cons_succ]
      refine s_call en120 ?_
      try simp only [opv, n1, n2, n3, n4, Value.cells, List.map_toArray, List.map_cons, List.map_nil, List.append_toArray, List.cons_append, List.nil_append, Array.append_empty]
      refine CallR.mono (c_wbyte _ g A c xs (by omega) p.c (hS.owns (by repeat (first | exact Spl.nil | (apply Spl.cons (by repeat (first | exact Del.head | apply Del.tail))))))) ?_
      rintro _ w3 ⟨rfl, A3, c3, hC3⟩
      replace hS := hS.frame (by repeat (first | exact Spl.nil | (apply Spl.cons (by repeat (first | exact Del.head | apply Del.tail))))) hC3 (by intro r hr g hg; simp only [List.mem_cons, List.not_mem_nil, or_false] at hr; rcases hr with rfl | rfl | rfl <;> first | (simp [Res.reads] at hg; done) | exact .inr ⟨_, by simp, .inr hg⟩)
      simp only [List.cons_append, List.nil_append] at hS
      try simp only [opv, n1, n2, n3, n4, Value.cells]
      refine x_nil ?_
      refine r_none rfl ?_
      rw [hO]
      exact ⟨rfl, _, _, hS.sel (by repeat (first | exact Sel.nil | (refine Sel.cons (by repeat (first | exact Del.head | apply Del.tail)) ?_)))⟩
    ·
      try simp only [decide_eq_true_eq, decide_eq_false_iff_not, Bool.not_eq_true', Bool.not_eq_false', Int.not_lt, Int.not_le, ne_eq, Decidable.not_not, bne_iff_ne, beq_iff_eq, not_true_eq_false, not_false_eq_true] at hc2
      have h1 : ¬ p.d = 1 := hc2
      refine x_seq fun K5 hK5 => ?_
      refine x_region ?_
      refine s_go (s_eql) ?_
      try simp only [opv, n1, n2, n3, n4, Value.cells]
      refine s_go (s_assign) ?_
      try simp only [opv, n1, n2, n3, n4, Value.cells]
      refine x_nil ?_
      refine hK5 _ _ ?_
      refine x_cond (ht := fun hc3 => ?_) (hf := fun hc3 => ?_)
      ·
        try simp only [decide_eq_true_eq, decide_eq_false_iff_not, Bool.not_eq_true', Bool.not_eq_false', Int.not_lt, Int.not_le, ne_eq, Decidable.not_not, bne_iff_ne, beq_iff_eq, not_true_eq_false, not_false_eq_true] at hc3
        have hO : pcOut p = nmOut p.nm := by rw [pcOut, if_neg h0, if_neg h1, if_pos hc3]
        refine x_region ?_
        refine s_go (s_move) ?_
        try simp only [opv, n1, n2, n3, n4, Value.cells]
        first | refine s_go (m_fieldAddr Try.underlying45 (hi := ti42)) ?_ | refine s_go (m_fieldAddr_rd Try.underlying45 (hi := ti42) (hS := hS)) ?_ | refine s_go (m_fieldAddr_vec Try.underlying45 (hi := ti42) (hS := hS)) ?_
        try simp only [opv, n1, n2, n3, n4, Value.cells, Nat.zero_add, Nat.add_zero, List.getElem_toArray, List.getElem_cons_zero, List.getElem_cons_succ]
        first | refine s_go (m_load_row Try.underlying42 (hi := ti42) (hS := hS)) ?_ | refine s_go (m_loada_obj Try.underlying42 (hi := ti42) (hS := hS)) ?_ | refine s_go (m_loada_bx Try.underlying42 (hi := ti42) (hS := hS)) ?_ | refine s_go (m_loada_rd Try.underlying42 (hi := ti42) (hS := hS)) ?_ | refine s_go (m_loada_vec Try.underlying42 (hi := ti42) (hS := hS)) ?_
        try simp only [opv, n1, n2, n3, n4, Value.cells, List.getElem_toArray, List.getElem_cons_zero, List.getElem_cons_succ]
        rw [pc_nm _ _ _ hnl]
        refine s_call en116 ?_
        try simp only [opv, n1, n2, n3, n4, Value.cells, List.map_toArray, List.map_cons, List.map_nil, List.append_toArray, List.cons_append, List.nil_append, Array.append_empty]
        refine CallR.mono (c_wname _ g A c xs (by omega) p.nm hnl hnb (hS.owns (by repeat (first | exact Spl.nil | (apply Spl.cons (by repeat (first | exact Del.head | apply Del.tail))))))) ?_
        rintro _ w4 ⟨rfl, A4, c4, hC4⟩
        replace hS := hS.frame (by repeat (first | exact Spl.nil | (apply Spl.cons (by repeat (first | exact Del.head | apply Del.tail))))) hC4 (by intro r hr g hg; simp only [List.mem_cons, List.not_mem_nil, or_false] at hr; rcases hr with rfl | rfl | rfl <;> first | (simp [Res.reads] at hg; done) | exact .inr ⟨_, by simp, .inr hg⟩)
        simp only [List.cons_append, List.nil_append] at hS
        try simp only [opv, n1, n2, n3, n4, Value.cells]
        refine x_nil ?_
        refine r_none rfl ?_
        rw [hO]
        exact ⟨rfl, _, _, hS.sel (by repeat (first | exact Sel.nil | (refine Sel.cons (by repeat (first | exact Del.head | apply Del.tail)) ?_)))⟩
      ·
        try simp only [decide_eq_true_eq, decide_eq_false_iff_not, Bool.not_eq_true', Bool.not_eq_false', Int.not_lt, Int.not_le, ne_eq, Decidable.not_not, bne_iff_ne, beq_iff_eq, not_true_eq_false, not_false_eq_true] at hc3
        have hO : pcOut p = vari p.b.length ++ p.b := by rw [pcOut, if_neg h0, if_neg h1, if_neg hc3]
        refine x_region ?_
        refine s_go (s_move) ?_
        try simp only [opv, n1, n2, n3, n4, Value.cells]
        first | refine s_go (m_fieldAddr Try.underlying45 (hi := ti43)) ?_ | refine s_go (m_fieldAddr_rd Try.underlying45 (hi := ti43) (hS := hS)) ?_ | refine s_go (m_fieldAddr_vec Try.underlying45 (hi := ti43) (hS := hS)) ?_
        try simp only [opv, n1, n2, n3, n4, Value.cells, Nat.zero_add, Nat.add_zero, List.getElem_toArray, List.getElem_cons_zero, List.getElem_cons_succ]
        first | refine s_go (m_load_obj Try.underlying43 (hS := hS)) ?_ | refine s_go (m_load_bx Try.underlying43 (hS := hS)) ?_ | refine s_go (m_load_rd Try.underlying43 (hS := hS)) ?_ | refine s_go (m_load_vec Try.underlying43 (hS := hS)) ?_
        try simp only [opv, n1, n2, n3, n4, Value.cells, List.getElem_toArray, List.getElem_cons_zero, List.getElem_cons_succ]
        refine s_call en121 ?_
        try simp only [opv, n1, n2, n3, n4, Value.cells, List.map_toArray, List.map_cons, List.map_nil, List.append_toArray, List.cons_append, List.nil_append, Array.append_empty]
        refine CallR.mono (c_wbytes _ g A c xs (by omega) p.A _ p.b (by omega) (hS.owns (by repeat (first | exact Spl.nil | (apply Spl.cons (by repeat (first | exact Del.head | apply Del.tail))))))) ?_
        rintro _ w5 ⟨rfl, A5, c5, hC5⟩
        replace hS := hS.frame (by repeat (first | exact Spl.nil | (apply Spl.cons (by repeat (first | exact Del.head | apply Del.tail))))) hC5 (by intro r hr g hg; simp only [List.mem_cons, List.not_mem_nil, or_false] at hr; rcases hr with rfl | rfl | rfl <;> first | (simp [Res.reads] at hg; done) | exact .inr ⟨_, by simp, .inr hg⟩)
        simp only [List.cons_append, List.nil_append] at hS
        try simp only [opv, n1, n2, n3, n4, Value.cells]
        refine x_nil ?_
        refine r_none rfl ?_
        rw [hO]
        exact ⟨rfl, _, _, hS.sel (by repeat (first | exact Sel.nil | (refine Sel.cons (by repeat (first | exact Del.head | apply Del.tail)) ?_)))⟩


theorem al7_txt : vari 300 ++ nmOut [97, 98, 0, 0, 0, 0, 0, 0] = [172, 2, 2, 97, 98] := by
  rw [vari_ge (by decide), vari_lt (by decide)]; rfl
theorem al7_byt : Byt [97, 98, 0, 0, 0, 0, 0, 0] := by unfold Byt; decide
theorem al7_len : (vari 300 : List Int).length ≤ 100 := by have := vari_len10 (x := 300) (by decide); omega
theorem al7_len2 : (vari 300 ++ nmOut [97, 98, 0, 0, 0, 0, 0, 0] : List Int).length ≤ 100 := by rw [al7_txt]; decide


theorem c_law07alive  (w0 : World) :
    CallR Try.prog 27 #[] w0 fun v w' => v = .bool true ∧ Ext w0 w' := by
  have hS : St NoB w0 w0 [] := St.start w0
  refine c_enter (l := [undef, undef, undef, undef, undef, undef, undef, undef, undef, undef, undef, undef, undef, undef, undef, undef, undef]) Try.func27 rfl (by simp only [Try.ntmps27, List.size_toArray, List.length_cons, List.length_nil, Nat.reduceAdd, Nat.reduceSub, Array.replicate_succ, Array.replicate_zero, List.push_toArray, List.append_toArray, List.nil_append, List.cons_append]) ?_
  refine x_seq fun K1 hK1 => ?_
  refine x_region ?_
  refine s_go (s_assign) ?_
  try simp only [opv, n1, n2, n3, n4, Value.cells]
  refine x_nil ?_
  refine hK1 _ _ ?_
  refine x_seq fun K2 hK2 => ?_
  refine x_region ?_
  refine s_call en28 ?_
  try simp only [opv, n1, n2, n3, n4, Value.cells, List.map_toArray, List.map_cons, List.map_nil, List.append_toArray, List.cons_append, List.nil_append, Array.append_empty]
  refine CallR.mono (c_wnew _) ?_
  rintro _ w1 ⟨p, rfl, hC1⟩
  replace hS := hS.call hC1
  simp only [List.cons_append, List.nil_append] at hS
  try simp only [opv, n1, n2, n3, n4, Value.cells]
  refine s_go (s_assign) ?_
  try simp only [opv, n1, n2, n3, n4, Value.cells]
  refine x_nil ?_
  refine hK2 _ _ ?_
  refine x_seq fun K3 hK3 => ?_
  refine x_region ?_
  refine s_go (s_move) ?_
  try simp only [opv, n1, n2, n3, n4, Value.cells]
  refine s_call en115 ?_
  try simp only [opv, n1, n2, n3, n4, Value.cells, List.map_toArray, List.map_cons, List.map_nil, List.append_toArray, List.cons_append, List.nil_append, Array.append_empty]
  refine CallR.mono (c_wnum _ p none 0 [] (by simp) 300 (by omega) (hS.owns (by repeat (first | exact Spl.nil | (apply Spl.cons (by repeat (first | exact Del.head | apply Del.tail))))))) ?_
  rintro _ w2 ⟨rfl, A2, c2, hC2⟩
  replace hS := hS.frame (by repeat (first | exact Spl.nil | (apply Spl.cons (by repeat (first | exact Del.head | apply Del.tail))))) hC2 (by intro r hr g hg; simp only [List.mem_cons, List.not_mem_nil, or_false] at hr; rcases hr with rfl | rfl | rfl <;> first | (simp [Res.reads] at hg; done) | exact .inr ⟨_, by simp, .inr hg⟩)
  simp only [List.cons_append, List.nil_append] at hS
  try simp only [opv, n1, n2, n3, n4, Value.cells]
  refine x_nil ?_
  refine hK3 _ _ ?_
  refine x_seq fun K4 hK4 => ?_
  refine x_region ?_
  refine s_go (s_move) ?_
  try simp only [opv, n1, n2, n3, n4, Value.cells]
  refine s_go (s_build_arr (cells := #[_, _, .int .u8 0, .int .u8 0, .int .u8 0, .int .u8 0, .int .u8 0, .int .u8 0]) Try.underlying42 ti42 ti5 (hc := by simp only [List.map_toArray, List.map_cons, List.map_nil, opv, n1, n2, n3, n4, Value.cells, List.toList_toArray]; (repeat (refine fill_cons rfl rfl (Nat.le_of_ble_eq_true rfl) ?_)); rfl)) ?_
  try simp only [opv, n1, n2, n3, n4, Value.cells]
  rw [show (#[.int .u8 97, .int .u8 98, .int .u8 0, .int .u8 0, .int .u8 0, .int .u8 0, .int .u8 0, .int .u8 0] : Array Value) = ic .u8 [97, 98, 0, 0, 0, 0, 0, 0] from rfl]
  refine s_call en116 ?_
  try simp only [opv, n1, n2, n3, n4, Value.cells, List.map_toArray, List.map_cons, List.map_nil, List.append_toArray, List.cons_append, List.nil_append, Array.append_empty]
  refine CallR.mono (c_wname _ p _ _ (vari 300) (Nat.le_trans al7_len (by decide)) [97, 98, 0, 0, 0, 0, 0, 0] rfl al7_byt (hS.owns (by repeat (first | exact Spl.nil | (apply Spl.cons (by repeat (first | exact Del.head | apply Del.tail))))))) ?_
  rintro _ w3 ⟨rfl, A3, c3, hC3⟩
  replace hS := hS.frame (by repeat (first | exact Spl.nil | (apply Spl.cons (by repeat (first | exact Del.head | apply Del.tail))))) hC3 (by intro r hr g hg; simp only [List.mem_cons, List.not_mem_nil, or_false] at hr; rcases hr with rfl | rfl | rfl <;> first | (simp [Res.reads] at hg; done) | exact .inr ⟨_, by simp, .inr hg⟩)
  simp only [List.cons_append, List.nil_append] at hS
  try simp only [opv, n1, n2, n3, n4, Value.cells]
  refine x_nil ?_
  refine hK4 _ _ ?_
  refine x_seq fun K5 hK5 => ?_
  refine x_region ?_
  refine s_go (s_move) ?_
  try simp only [opv, n1, n2, n3, n4, Value.cells]
  refine s_call en32 ?_
  try simp only [opv, n1, n2, n3, n4, Value.cells, List.map_toArray, List.map_cons, List.map_nil, List.append_toArray, List.cons_append, List.nil_append, Array.append_empty]
  refine CallR.mono (c_wout _ p _ _ (vari 300 ++ nmOut [97, 98, 0, 0, 0, 0, 0, 0]) (Nat.le_trans al7_len2 (by decide)) (hS.owns (by repeat (first | exact Spl.nil | (apply Spl.cons (by repeat (first | exact Del.head | apply Del.tail))))))) ?_
  rintro _ w4 ⟨A4, c4, rfl, hC4⟩
  replace hS := hS.frame (by repeat (first | exact Spl.nil | (apply Spl.cons (by repeat (first | exact Del.head | apply Del.tail))))) hC4 (by intro r hr g hg; simp only [List.mem_cons, List.not_mem_nil, or_false] at hr; rcases hr with rfl | rfl | rfl <;> first | (simp [Res.reads] at hg; done) | exact .inr ⟨_, by simp, .inr hg⟩)
  simp only [List.cons_append, List.nil_append] at hS
  try simp only [opv, n1, n2, n3, n4, Value.cells]
  rw [al7_txt] at hS ⊢
  refine m_buildRow (cells := #[_, _, _, _, _]) Try.underlying43 ti5 (hc := by simp only [List.map_toArray, List.map_cons, List.map_nil, opv, n1, n2, n3, n4, Value.cells, List.toList_toArray]; (repeat (refine fill_cons rfl rfl (Nat.le_of_ble_eq_true rfl) ?_)); rfl) (hS := hS) (h := fun w5 g5 hS => ?_)
  try simp only [opv, n1, n2, n3, n4, Value.cells, Array.toArray_toList] at hS ⊢
  replace hS := hS.obj_rd (sz := 1) (n := 5) rfl .head
  replace hS : St NoB w0 w5 (.rd _ 1 5 (([172, 2, 2, 97, 98] : List Int).map (Value.int .u8)) :: _) := hS
  refine s_call en34 ?_
  try simp only [opv, n1, n2, n3, n4, Value.cells, List.map_toArray, List.map_cons, List.map_nil, List.append_toArray, List.cons_append, List.nil_append, Array.append_empty]
  refine CallR.mono (c_ref03Same _ _ _ _ _ _ _ _ _ (hS.vecRd (by repeat (first | exact Has.head | apply Has.tail))) (hS.hasRd (by repeat (first | exact Has.head | apply Has.tail))) (rfl) (rfl) (by first | omega | (simp; done))) ?_
  rintro _ w6 ⟨rfl, hE6⟩
  replace hS := hS.ext hE6
  try simp only [opv, n1, n2, n3, n4, Value.cells]
  try simp only [eq_self, decide_true, beq_self_eq_true, Bool.and_self]
  refine s_go (s_move) ?_
  try simp only [opv, n1, n2, n3, n4, Value.cells]
  refine g_on (yi (t := 12) rfl rfl) ?_
  refine s_call en31 ?_
  try simp only [opv, n1, n2, n3, n4, Value.cells, List.map_toArray, List.map_cons, List.map_nil, List.append_toArray, List.cons_append, List.nil_append, Array.append_empty]
  refine CallR.mono (c_cFrom _ none 0 [] (rd_zero _ _ _) (by simp)) ?_
  rintro _ w7 ⟨p7, A7, c7, rfl, hcp7, hC7⟩
  replace hS := hS.call hC7
  simp only [List.cons_append, List.nil_append] at hS
  replace hS := hS.vec_rd (by exact Upd.tail Upd.head)
  try simp only [opv, n1, n2, n3, n4, Value.cells]
  refine g_on (yi (t := 12) rfl rfl) ?_
  refine s_call en37 ?_
  try simp only [opv, n1, n2, n3, n4, Value.cells, List.map_toArray, List.map_cons, List.map_nil, List.append_toArray, List.cons_append, List.nil_append, Array.append_empty]
  refine CallR.mono (c_cDone _ _ 0 _ _ [] (by assumption) (hS.owns (by repeat (first | exact Spl.nil | (apply Spl.cons (by repeat (first | exact Del.head | apply Del.tail))))))) ?_
  rintro _ w8 ⟨rfl, hC8⟩
  replace hS := hS.frame (by repeat (first | exact Spl.nil | (apply Spl.cons (by repeat (first | exact Del.head | apply Del.tail))))) hC8 (by intro r hr g hg; simp only [List.mem_cons, List.not_mem_nil, or_false] at hr; rcases hr with rfl | rfl | rfl <;> first | (simp [Res.reads] at hg; done) | exact .inr ⟨_, by simp, .inr hg⟩)
  simp only [List.cons_append, List.nil_append] at hS
  try simp only [opv, n1, n2, n3, n4, Value.cells]
  refine g_on (yi (t := 12) rfl rfl) ?_
  refine s_go (s_eql) ?_
  try simp only [opv, n1, n2, n3, n4, Value.cells]
  first | refine s_go (s_pick_t) ?_ | refine s_go (s_pick_f) ?_
  try simp only [opv, n1, n2, n3, n4, Value.cells]
  refine s_go (s_assign) ?_
  try simp only [opv, n1, n2, n3, n4, Value.cells]
  refine x_nil ?_
  refine hK5 _ _ ?_
  refine x_ret ?_
  refine r_tmp rfl ?_
  exact ⟨rfl, hS.ext_of⟩
end Go.Proofs.Ytpjpaipkkcengaa
