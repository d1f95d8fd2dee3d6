/- Contracts of functions, printed by a program of this seat (wip/tools/gen.py) out of its specs. -/
import Derived.Test.YtjgbcaegofpggaaCq
set_option linter.unusedSimpArgs false
set_option linter.unusedVariables false
set_option maxHeartbeats 800000
set_option maxRecDepth 100000
namespace Go.Proofs.Ytjgbcaegofpggaa
open Go.RowKit

theorem c_ref03Var_step (x : Nat) (hx : x < 18446744073709551616) (ih : ∀ (y : Nat) (w : World), y < x → CallR Try.prog 56 #[.int .u64 (y : Int)] w fun v w' => ∃ A c, v = .slice A (vari y).length c ∧ St NoB w w' [.vec A c 5 1 (vari y).length ((vari y).map (Value.int .u8))])  (w0 : World) :
    CallR Try.prog 56 #[.int .u64 (x : Int)] w0 fun v w' => ∃ A c, v = .slice A (vari x).length c ∧ St NoB w0 w' [.vec A c 5 1 (vari x).length ((vari x).map (Value.int .u8))] := by
  have hS : St NoB w0 w0 [] := St.start w0
  refine c_enter (l := [.int .u64 (x : Int), undef, undef, undef, undef, undef, undef, undef, undef, undef, undef, undef, undef, undef, undef, undef, undef]) Try.func56 rfl (by simp only [Try.ntmps56, List.size_toArray, List.length_cons, List.length_nil, Nat.reduceAdd, Nat.reduceSub, Array.replicate_succ, Array.replicate_zero, List.push_toArray, List.append_toArray, List.nil_append, List.cons_append]) ?_
  refine x_seq fun K1 hK1 => ?_
  refine x_region ?_
  refine s_go (s_assign) ?_
  try simp only [opv, n1, n2, n3, n4, Value.cells]
  refine x_nil ?_
  refine hK1 _ _ ?_
  refine x_seq fun K2 hK2 => ?_
  refine x_seq fun K3 hK3 => ?_
  refine x_region ?_
  refine s_go (s_move) ?_
  try simp only [opv, n1, n2, n3, n4, Value.cells]
  refine s_go (s_lss) ?_
  try simp only [opv, n1, n2, n3, n4, Value.cells]
  refine x_nil ?_
  refine hK3 _ _ ?_
  refine x_cond (ht := fun hc1 => ?_) (hf := fun hc1 => ?_)
  ·
    try simp only [decide_eq_true_eq, decide_eq_false_iff_not, Bool.not_eq_true', Bool.not_eq_false', Int.not_lt, Int.not_le, ne_eq, Decidable.not_not, bne_iff_ne, beq_iff_eq, not_true_eq_false, not_false_eq_true] at hc1
    refine x_seq fun K4 hK4 => ?_
    refine x_region ?_
    refine s_go (s_move) ?_
    try simp only [opv, n1, n2, n3, n4, Value.cells]
    refine s_go (s_conv Try.underlying53 Try.underlying5 (hc := by first | exact wr_u8 (by omega) (by omega) | exact cv_u8 rfl | rfl)) ?_
    try simp only [opv, n1, n2, n3, n4, Value.cells]
    refine m_buildRow (cells := #[_]) Try.underlying42 ti5 (hc := by simp only [List.map_toArray, List.map_cons, List.map_nil, opv, n1, n2, n3, n4, Value.cells, List.toList_toArray]; (repeat (refine fill_cons rfl rfl (Nat.le_of_ble_eq_true rfl) ?_)); rfl) (hS := hS) (h := fun w1 g1 hS => ?_)
    try simp only [opv, n1, n2, n3, n4, Value.cells, Array.toArray_toList] at hS ⊢
    replace hS := hS.obj_vec (sz := 1) (n := 1) rfl (by decide) .head
    refine s_go (s_assign) ?_
    try simp only [opv, n1, n2, n3, n4, Value.cells]
    refine x_nil ?_
    refine hK4 _ _ ?_
    refine x_ret ?_
    refine r_tmp rfl ?_
    have hv := vari_lt (x := x) (by omega)
    exact ⟨_, _, by rw [hv]; rfl, by rw [hv]; exact hS.sel (by repeat (first | exact Sel.nil | (refine Sel.cons (by repeat (first | exact Del.head | apply Del.tail)) ?_)))⟩
  ·
    try simp only [decide_eq_true_eq, decide_eq_false_iff_not, Bool.not_eq_true', Bool.not_eq_false', Int.not_lt, Int.not_le, ne_eq, Decidable.not_not, bne_iff_ne, beq_iff_eq, not_true_eq_false, not_false_eq_true] at hc1
    refine x_skip ?_
    refine hK2 _ _ ?_
    refine x_seq fun K5 hK5 => ?_
    refine x_region ?_
    refine s_go (s_move) ?_
    try simp only [opv, n1, n2, n3, n4, Value.cells]
    refine s_go (s_rem (hc := rem_nat (r := x) (p := 128))) ?_
    try simp only [opv, n1, n2, n3, n4, Value.cells]
    refine s_go (s_add (hc := by first | exact wr_u64 (by omega) (by omega) | rfl)) ?_
    try simp only [opv, n1, n2, n3, n4, Value.cells]
    rw [show (128 : Int) + ((x % 128 : Nat) : Int) = ((128 + x % 128 : Nat) : Int) by omega]
    refine s_go (s_conv Try.underlying53 Try.underlying5 (hc := by first | exact wr_u8 (by omega) (by omega) | exact cv_u8 rfl | rfl)) ?_
    try simp only [opv, n1, n2, n3, n4, Value.cells]
    refine m_buildRow (cells := #[_]) Try.underlying42 ti5 (hc := by simp only [List.map_toArray, List.map_cons, List.map_nil, opv, n1, n2, n3, n4, Value.cells, List.toList_toArray]; (repeat (refine fill_cons rfl rfl (Nat.le_of_ble_eq_true rfl) ?_)); rfl) (hS := hS) (h := fun w2 g2 hS => ?_)
    try simp only [opv, n1, n2, n3, n4, Value.cells, Array.toArray_toList] at hS ⊢
    replace hS := hS.obj_vec (sz := 1) (n := 1) rfl (by decide) .head
    refine s_go (s_move) ?_
    try simp only [opv, n1, n2, n3, n4, Value.cells]
    refine s_go (s_quo (hc := quo_u64 (r := x) (p := 128) hx)) ?_
    try simp only [opv, n1, n2, n3, n4, Value.cells]
    refine s_call en56 ?_
    try simp only [opv, n1, n2, n3, n4, Value.cells, List.map_toArray, List.map_cons, List.map_nil, List.append_toArray, List.cons_append, List.nil_append, Array.append_empty]
    refine CallR.mono (ih (x / 128) _ (by omega)) ?_
    rintro _ w3 ⟨A3, c3, rfl, hC3⟩
    replace hS := hS.call hC3
    simp only [List.cons_append, List.nil_append] at hS
    replace hS := hS.vec_rd (by exact Upd.head)
    try simp only [opv, n1, n2, n3, n4, Value.cells]
    have hvl := vari_len10 (x := x / 128) (by omega)
    refine m_append Try.underlying42 ti5 (hS := hS) (xs := [((128 + x % 128 : Nat) : Int)].map (Value.int .u8)) (h := fun w4 A4 C4 hS => ?_)
    try simp only [← List.map_append, ← List.map_drop, ← List.map_take, Nat.mul_one, Nat.zero_mul, Nat.sub_zero, List.drop_zero, List.nil_append, Nat.zero_add] at hS ⊢
    try simp only [opv, n1, n2, n3, n4, Value.cells, Array.toArray_toList] at hS ⊢
    refine s_go (s_assign) ?_
    try simp only [opv, n1, n2, n3, n4, Value.cells]
    refine x_nil ?_
    refine hK5 _ _ ?_
    refine x_ret ?_
    refine r_tmp rfl ?_
    have hv := vari_ge (x := x) (by omega)
    exact ⟨_, _, by rw [hv, List.length_cons, Nat.add_comm]; rfl, by rw [hv, List.length_cons, Nat.add_comm]; exact hS.sel (by repeat (first | exact Sel.nil | (refine Sel.cons (by repeat (first | exact Del.head | apply Del.tail)) ?_)))⟩


theorem c_ref03Var (x : Nat) (hx : x < 18446744073709551616) (w0 : World) : CallR Try.prog 56 #[.int .u64 (x : Int)] w0 fun v w' => ∃ A c, v = .slice A (vari x).length c ∧ St NoB w0 w' [.vec A c 5 1 (vari x).length ((vari x).map (Value.int .u8))] := by
  revert w0
  induction x using Nat.strongRecOn with
  | ind x ih => exact fun w0 => c_ref03Var_step x hx (fun y w hy => ih y hy (by omega) w) w0


theorem c_ref03Get (w0 : World) (A : Option Addr) (n c : Nat) (l : List Int) (hr : Rd w0 A 1 n (l.map (Value.int .u8))) (hl : l.length = n) (hw : Byt l) (hn : n ≤ 140737488355000) (hc : n ≤ c) :
    CallR Try.prog 59 #[.slice A n c] w0 fun v w' => v = .tuple #[.int .u64 (getV l : Int), .int .i64 (getE l)] ∧ Ext w0 w' := by
  have hS := St.rd1 (S := NoB) hr
  refine c_enter (l := [.slice A n c, undef, undef, undef, undef, undef, undef, undef, undef, undef, undef, undef, undef, undef, undef, undef, undef, undef, undef, undef, undef, undef, undef, undef, undef, undef, undef, undef, undef, undef]) Try.func59 rfl (by simp only [Try.ntmps59, List.size_toArray, List.length_cons, List.length_nil, Nat.reduceAdd, Nat.reduceSub, Array.replicate_succ, Array.replicate_zero, List.push_toArray, List.append_toArray, List.nil_append, List.cons_append]) ?_
  refine x_seq fun K1 hK1 => ?_
  refine x_region ?_
  refine s_go (s_assign) ?_
  try simp only [opv, n1, n2, n3, n4, Value.cells]
  refine s_go (s_assign) ?_
  try simp only [opv, n1, n2, n3, n4, Value.cells]
  refine x_nil ?_
  refine hK1 _ _ ?_
  refine x_seq fun K2 hK2 => ?_
  refine x_seq fun K3 hK3 => ?_
  refine x_region ?_
  refine s_go (s_move) ?_
  try simp only [opv, n1, n2, n3, n4, Value.cells]
  refine s_go (s_len_sl Try.underlying42) ?_
  try simp only [opv, n1, n2, n3, n4, Value.cells]
  refine s_go (s_lss) ?_
  try simp only [opv, n1, n2, n3, n4, Value.cells]
  refine s_go (s_move) ?_
  try simp only [opv, n1, n2, n3, n4, Value.cells]
  refine s_part 9 rfl (fun hp1 => ?_) (fun hp1 => ?_)
  ·
    try simp only [n3, n4]
    try simp only [decide_eq_true_eq, decide_eq_false_iff_not, Bool.not_eq_true', Bool.not_eq_false', Int.not_lt, Int.not_le, ne_eq, Decidable.not_not] at hp1
    first
    | (exfalso; omega)
    | skip
      refine g_off (yi (t := 9) rfl rfl) ?_
      try simp only [opv, n1, n2, n3, n4, Value.cells]
      refine g_off (yi (t := 9) rfl rfl) ?_
      try simp only [opv, n1, n2, n3, n4, Value.cells]
      refine g_off (yi (t := 9) rfl rfl) ?_
      try simp only [opv, n1, n2, n3, n4, Value.cells]
      first | refine s_go (s_pick_t) ?_ | refine s_go (s_pick_f) ?_
      try simp only [opv, n1, n2, n3, n4, Value.cells]
      refine x_nil ?_
      refine hK3 _ _ ?_
      refine x_cond_t (h := ?_)
      have hg : ¬ (1 ≤ l.length ∧ l.length ≤ 8) := by rw [hl]; omega
      refine x_seq fun K4 hK4 => ?_
      refine x_region ?_
      refine s_go (s_assign) ?_
      try simp only [opv, n1, n2, n3, n4, Value.cells]
      refine s_go (s_assign) ?_
      try simp only [opv, n1, n2, n3, n4, Value.cells]
      refine x_nil ?_
      refine hK4 _ _ ?_
      refine x_ret ?_
      refine r_tmp2 rfl ?_
      first | exact ⟨by simp only [getV, getE, if_pos hg, List.drop_zero]; rfl, hS.ext_of⟩ | exact ⟨by simp only [getV, getE, if_neg hg]; rfl, hS.ext_of⟩
  ·
    try simp only [n3, n4]
    try simp only [decide_eq_true_eq, decide_eq_false_iff_not, Bool.not_eq_true', Bool.not_eq_false', Int.not_lt, Int.not_le, ne_eq, Decidable.not_not] at hp1
    first
    | (exfalso; omega)
    | skip
      refine g_on (yi (t := 9) rfl rfl) ?_
      refine s_go (s_move) ?_
      try simp only [opv, n1, n2, n3, n4, Value.cells]
      refine g_on (yi (t := 9) rfl rfl) ?_
      refine s_go (s_len_sl Try.underlying42) ?_
      try simp only [opv, n1, n2, n3, n4, Value.cells]
      refine g_on (yi (t := 9) rfl rfl) ?_
      refine s_go (s_gtr) ?_
      try simp only [opv, n1, n2, n3, n4, Value.cells]
      first | refine s_go (s_pick_t) ?_ | refine s_go (s_pick_f) ?_
      try simp only [opv, n1, n2, n3, n4, Value.cells]
      refine x_nil ?_
      refine hK3 _ _ ?_
      refine x_cond (ht := fun hc2 => ?_) (hf := fun hc2 => ?_)
      ·
        try simp only [decide_eq_true_eq, decide_eq_false_iff_not, Bool.not_eq_true', Bool.not_eq_false', Int.not_lt, Int.not_le, ne_eq, Decidable.not_not, bne_iff_ne, beq_iff_eq, not_true_eq_false, not_false_eq_true] at hc2
        first
        | (exfalso; omega)
        | skip
          have hg : ¬ (1 ≤ l.length ∧ l.length ≤ 8) := by rw [hl]; omega
          refine x_seq fun K5 hK5 => ?_
          refine x_region ?_
          refine s_go (s_assign) ?_
          try simp only [opv, n1, n2, n3, n4, Value.cells]
          refine s_go (s_assign) ?_
          try simp only [opv, n1, n2, n3, n4, Value.cells]
          refine x_nil ?_
          refine hK5 _ _ ?_
          refine x_ret ?_
          refine r_tmp2 rfl ?_
          first | exact ⟨by simp only [getV, getE, if_pos hg, List.drop_zero]; rfl, hS.ext_of⟩ | exact ⟨by simp only [getV, getE, if_neg hg]; rfl, hS.ext_of⟩
      ·
        try simp only [decide_eq_true_eq, decide_eq_false_iff_not, Bool.not_eq_true', Bool.not_eq_false', Int.not_lt, Int.not_le, ne_eq, Decidable.not_not, bne_iff_ne, beq_iff_eq, not_true_eq_false, not_false_eq_true] at hc2
        first
        | (exfalso; omega)
        | skip
          have hb8 : 1 ≤ n ∧ n ≤ 8 := by omega
          have hg : 1 ≤ l.length ∧ l.length ≤ 8 := by rw [hl]; exact hb8
          refine x_skip ?_
          refine hK2 _ _ ?_
          refine x_seq fun K6 hK6 => ?_
          refine x_region ?_
          refine s_go (s_assign) ?_
          try simp only [opv, n1, n2, n3, n4, Value.cells]
          refine x_nil ?_
          refine hK6 _ _ ?_
          refine x_seq fun K7 hK7 => ?_
          refine x_seq fun K8 hK8 => ?_
          refine x_region ?_
          refine s_go (s_move) ?_
          try simp only [opv, n1, n2, n3, n4, Value.cells]
          refine s_go (s_len_sl Try.underlying42) ?_
          try simp only [opv, n1, n2, n3, n4, Value.cells]
          refine s_go (s_sub (hc := by first | exact wr_i64 (by omega) (by omega) | rfl)) ?_
          try simp only [opv, n1, n2, n3, n4, Value.cells]
          refine s_go (s_assign) ?_
          try simp only [opv, n1, n2, n3, n4, Value.cells]
          refine x_nil ?_
          refine hK8 _ _ ?_
          refine x_block ?_
          refine x_loop [4, 5, 17, 18, 19, 20, 21, 22, 23, 24, 25, 26, 27, 28] (fun m f w => ∃ k : Nat, k ≤ n ∧ m = k ∧ f 5 = .int .i64 ((k : Int) - 1) ∧ f 4 = .int .u64 ((getN (l.drop k) : Nat) : Int) ∧ St NoB w0 w [.rd A 1 n (l.map (Value.int .u8))]) (n) ?init1 (fun m1 f1 wl1 hI => ?_)
          case init1 =>
            try simp only [opv, n1, n2, n3, n4, Value.cells]
            exact ⟨n, by omega, rfl, rfl, by rw [List.drop_eq_nil_of_le (by omega)]; rfl, hS⟩
          obtain ⟨k, hk, hm, h5, h4, hS⟩ := hI
          simp only [clob, List.foldl, n3, n4, h5, h4]
          have hgl := getN_lt (hw.drop k)
          rw [List.length_drop, hl, pow256] at hgl
          refine x_seq fun K9 hK9 => ?_
          refine x_seq fun K10 hK10 => ?_
          refine x_region ?_
          refine s_go (s_move) ?_
          try simp only [opv, n1, n2, n3, n4, Value.cells]
          refine s_go (s_geq) ?_
          try simp only [opv, n1, n2, n3, n4, Value.cells]
          refine x_nil ?_
          refine hK10 _ _ ?_
          refine x_cond (ht := fun hc3 => ?_) (hf := fun hc3 => ?_)
          ·
            try simp only [decide_eq_true_eq, decide_eq_false_iff_not, Bool.not_eq_true', Bool.not_eq_false', Int.not_lt, Int.not_le, ne_eq, Decidable.not_not, bne_iff_ne, beq_iff_eq, not_true_eq_false, not_false_eq_true] at hc3
            first
            | (exfalso; omega)
            | skip
              obtain ⟨q, rfl⟩ : ∃ q, k = q + 1 := ⟨k - 1, by omega⟩
              rw [show ((q + 1 : Nat) : Int) - 1 = (q : Int) by omega]
              have hby := hw.bt q
              have h56 : 2 ^ (8 * (n - (q + 1))) ≤ 2 ^ 56 := Nat.pow_le_pow_right (by omega) (by omega)
              refine x_skip ?_
              refine hK9 _ _ ?_
              refine x_seq fun K11 hK11 => ?_
              refine x_block ?_
              refine x_region ?_
              refine s_go (s_move) ?_
              try simp only [opv, n1, n2, n3, n4, Value.cells]
              refine s_go (s_mul (hc := mul_u64 (a := 256) (by omega))) ?_
              try simp only [opv, n1, n2, n3, n4, Value.cells]
              refine s_go (s_move) ?_
              try simp only [opv, n1, n2, n3, n4, Value.cells]
              refine s_go (s_move) ?_
              try simp only [opv, n1, n2, n3, n4, Value.cells]
              first | refine s_go (m_indexAddr_rd Try.underlying42 ti5 (hS := hS)) ?_ | refine s_go (m_indexAddr_vec Try.underlying42 ti5 (hS := hS)) ?_
              try simp only [opv, n1, n2, n3, n4, Value.cells, Nat.mul_one, Nat.zero_add, Int.toNat_natCast, Int.reduceToNat]
              first | refine s_go (m_load_obj Try.underlying5 (hS := hS)) ?_ | refine s_go (m_load_bx Try.underlying5 (hS := hS)) ?_ | refine s_go (m_load_rd Try.underlying5 (hS := hS)) ?_ | refine s_go (m_load_vec Try.underlying5 (hS := hS)) ?_
              try simp only [opv, n1, n2, n3, n4, Value.cells, List.getElem_toArray, List.getElem_cons_zero, List.getElem_cons_succ]
              rw [hby.1]
              refine s_go (s_conv Try.underlying5 Try.underlying53 (hc := by first | exact wr_u64 (by omega) (by omega) | rfl)) ?_
              try simp only [opv, n1, n2, n3, n4, Value.cells]
              refine s_go (s_add (hc := add_u64 (by omega))) ?_
              try simp only [opv, n1, n2, n3, n4, Value.cells]
              refine s_go (s_assign) ?_
              try simp only [opv, n1, n2, n3, n4, Value.cells]
              refine x_nil ?_
              refine hK11 _ _ ?_
              refine x_region ?_
              refine s_go (s_move) ?_
              try simp only [opv, n1, n2, n3, n4, Value.cells]
              refine s_go (s_sub (hc := by first | exact wr_i64 (by omega) (by omega) | rfl)) ?_
              try simp only [opv, n1, n2, n3, n4, Value.cells]
              refine s_go (s_assign) ?_
              try simp only [opv, n1, n2, n3, n4, Value.cells]
              refine x_nil ?_
              refine loop_back (m' := q) (by simp only [clob, List.foldl, n1, n2, n3, n4]) ?_ ?_
              · try simp only [opv, n1, n2, n3, n4, Value.cells]
                exact ⟨q, by omega, by omega, by rfl, by rw [getN_drop (l := l) (i := q) (by omega), Nat.add_comm], hS⟩
              · omega
          ·
            try simp only [decide_eq_true_eq, decide_eq_false_iff_not, Bool.not_eq_true', Bool.not_eq_false', Int.not_lt, Int.not_le, ne_eq, Decidable.not_not, bne_iff_ne, beq_iff_eq, not_true_eq_false, not_false_eq_true] at hc3
            first
            | (exfalso; omega)
            | skip
              obtain rfl : k = 0 := by omega
              refine x_exit (look_here ?_)
              refine hK7 _ _ ?_
              refine x_seq fun K12 hK12 => ?_
              refine x_region ?_
              refine s_go (s_move) ?_
              try simp only [opv, n1, n2, n3, n4, Value.cells]
              refine s_go (s_assign) ?_
              try simp only [opv, n1, n2, n3, n4, Value.cells]
              refine s_go (s_assign) ?_
              try simp only [opv, n1, n2, n3, n4, Value.cells]
              refine x_nil ?_
              refine hK12 _ _ ?_
              refine x_ret ?_
              refine r_tmp2 rfl ?_
              first | exact ⟨by simp only [getV, getE, if_pos hg, List.drop_zero]; rfl, hS.ext_of⟩ | exact ⟨by simp only [getV, getE, if_neg hg]; rfl, hS.ext_of⟩

theorem c_ref03Put (x : Nat) (hx : x < 18446744073709551616) (z : Int) (hz : -9223372036854775808 ≤ z ∧ z ≤ 9223372036854775807)  (w0 : World) :
    CallR Try.prog 61 #[.int .u64 (x : Int), .int .i64 z] w0 fun v w' => ∃ A m c, v = .slice A m c ∧ m = (putW x z).length ∧ St NoB w0 w' [.vec A c 5 1 m ((putW x z).map (Value.int .u8))] := by
  have hS : St NoB w0 w0 [] := St.start w0
  refine c_enter (l := [.int .u64 (x : Int), .int .i64 z, undef, undef, undef, undef, undef, undef, undef, undef, undef, undef, undef, undef, undef, undef, undef, undef, undef, undef, undef, undef, undef, undef, undef, undef, undef]) Try.func61 rfl (by simp only [Try.ntmps61, List.size_toArray, List.length_cons, List.length_nil, Nat.reduceAdd, Nat.reduceSub, Array.replicate_succ, Array.replicate_zero, List.push_toArray, List.append_toArray, List.nil_append, List.cons_append]) ?_
  refine x_seq fun K1 hK1 => ?_
  refine x_region ?_
  refine s_go (s_assign) ?_
  try simp only [opv, n1, n2, n3, n4, Value.cells]
  refine x_nil ?_
  refine hK1 _ _ ?_
  refine x_seq fun K2 hK2 => ?_
  refine x_seq fun K3 hK3 => ?_
  refine x_region ?_
  refine s_go (s_move) ?_
  try simp only [opv, n1, n2, n3, n4, Value.cells]
  refine s_go (s_lss) ?_
  try simp only [opv, n1, n2, n3, n4, Value.cells]
  refine s_go (s_move) ?_
  try simp only [opv, n1, n2, n3, n4, Value.cells]
  refine s_part 9 rfl (fun hp1 => ?_) (fun hp1 => ?_)
  ·
    try simp only [n3, n4]
    try simp only [decide_eq_true_eq, decide_eq_false_iff_not, Bool.not_eq_true', Bool.not_eq_false', Int.not_lt, Int.not_le, ne_eq, Decidable.not_not] at hp1
    first
    | (exfalso; omega)
    | skip
      refine g_off (yi (t := 9) rfl rfl) ?_
      try simp only [opv, n1, n2, n3, n4, Value.cells]
      refine g_off (yi (t := 9) rfl rfl) ?_
      try simp only [opv, n1, n2, n3, n4, Value.cells]
      first | refine s_go (s_pick_t) ?_ | refine s_go (s_pick_f) ?_
      try simp only [opv, n1, n2, n3, n4, Value.cells]
      refine x_nil ?_
      refine hK3 _ _ ?_
      refine x_cond_t (h := ?_)
      have hP := putW_no (x := x) (z := z) (by omega)
      have hS := hS.nil_vec 5 1
      refine x_seq fun K4 hK4 => ?_
      refine x_region ?_
      refine s_go (s_assign) ?_
      try simp only [opv, n1, n2, n3, n4, Value.cells]
      refine x_nil ?_
      refine hK4 _ _ ?_
      refine x_ret ?_
      refine r_tmp rfl ?_
      first | exact ⟨none, 0, 0, rfl, by rw [hP]; rfl, by rw [hP]; exact hS.sel (by repeat (first | exact Sel.nil | (refine Sel.cons (by repeat (first | exact Del.head | apply Del.tail)) ?_)))⟩ | exact ⟨_, _, _, rfl, by rw [hP, putL_len], by rw [hP]; exact hS.sel (by repeat (first | exact Sel.nil | (refine Sel.cons (by repeat (first | exact Del.head | apply Del.tail)) ?_)))⟩
  ·
    try simp only [n3, n4]
    try simp only [decide_eq_true_eq, decide_eq_false_iff_not, Bool.not_eq_true', Bool.not_eq_false', Int.not_lt, Int.not_le, ne_eq, Decidable.not_not] at hp1
    first
    | (exfalso; omega)
    | skip
      refine g_on (yi (t := 9) rfl rfl) ?_
      refine s_go (s_move) ?_
      try simp only [opv, n1, n2, n3, n4, Value.cells]
      refine g_on (yi (t := 9) rfl rfl) ?_
      refine s_go (s_gtr) ?_
      try simp only [opv, n1, n2, n3, n4, Value.cells]
      first | refine s_go (s_pick_t) ?_ | refine s_go (s_pick_f) ?_
      try simp only [opv, n1, n2, n3, n4, Value.cells]
      refine x_nil ?_
      refine hK3 _ _ ?_
      refine x_cond (ht := fun hc2 => ?_) (hf := fun hc2 => ?_)
      ·
        try simp only [decide_eq_true_eq, decide_eq_false_iff_not, Bool.not_eq_true', Bool.not_eq_false', Int.not_lt, Int.not_le, ne_eq, Decidable.not_not, bne_iff_ne, beq_iff_eq, not_true_eq_false, not_false_eq_true] at hc2
        first
        | (exfalso; omega)
        | skip
          have hP := putW_no (x := x) (z := z) (by omega)
          have hS := hS.nil_vec 5 1
          refine x_seq fun K5 hK5 => ?_
          refine x_region ?_
          refine s_go (s_assign) ?_
          try simp only [opv, n1, n2, n3, n4, Value.cells]
          refine x_nil ?_
          refine hK5 _ _ ?_
          refine x_ret ?_
          refine r_tmp rfl ?_
          first | exact ⟨none, 0, 0, rfl, by rw [hP]; rfl, by rw [hP]; exact hS.sel (by repeat (first | exact Sel.nil | (refine Sel.cons (by repeat (first | exact Del.head | apply Del.tail)) ?_)))⟩ | exact ⟨_, _, _, rfl, by rw [hP, putL_len], by rw [hP]; exact hS.sel (by repeat (first | exact Sel.nil | (refine Sel.cons (by repeat (first | exact Del.head | apply Del.tail)) ?_)))⟩
      ·
        try simp only [decide_eq_true_eq, decide_eq_false_iff_not, Bool.not_eq_true', Bool.not_eq_false', Int.not_lt, Int.not_le, ne_eq, Decidable.not_not, bne_iff_ne, beq_iff_eq, not_true_eq_false, not_false_eq_true] at hc2
        first
        | (exfalso; omega)
        | skip
          obtain ⟨n, rfl⟩ := Int.eq_ofNat_of_zero_le (show 0 ≤ z by omega)
          have hP := putW_yes (x := x) (n := n) (by omega)
          replace hS := hS.nil_vec 5 1
          refine x_skip ?_
          refine hK2 _ _ ?_
          refine x_seq fun K6 hK6 => ?_
          refine x_region ?_
          refine s_go (s_assign) ?_
          try simp only [opv, n1, n2, n3, n4, Value.cells]
          refine x_nil ?_
          refine hK6 _ _ ?_
          refine x_seq fun K7 hK7 => ?_
          refine x_seq fun K8 hK8 => ?_
          refine x_region ?_
          refine s_go (s_assign) ?_
          try simp only [opv, n1, n2, n3, n4, Value.cells]
          refine x_nil ?_
          refine hK8 _ _ ?_
          refine x_block ?_
          refine x_loop [5, 6, 13, 14, 15, 16, 17, 18, 19, 20, 21, 22, 23, 24, 25] (fun m f w => ∃ (k : Nat) (A : Option Addr) (c : Nat), k ≤ n ∧ m = n - k ∧ f 6 = .int .i64 (k : Int) ∧ f 5 = .slice A k c ∧ St NoB w0 w [.vec A c 5 1 k ((putL x k).map (Value.int .u8))]) (n) ?init1 (fun m1 f1 wl1 hI => ?_)
          case init1 =>
            try simp only [opv, n1, n2, n3, n4, Value.cells]
            exact ⟨0, _, _, by omega, rfl, rfl, rfl, hS.sel (by repeat (first | exact Sel.nil | (refine Sel.cons (by repeat (first | exact Del.head | apply Del.tail)) ?_)))⟩
          obtain ⟨k, A, c, hk, hm, h6, h5, hS⟩ := hI
          simp only [clob, List.foldl, n3, n4, h6, h5]
          refine x_seq fun K9 hK9 => ?_
          refine x_seq fun K10 hK10 => ?_
          refine x_region ?_
          refine s_go (s_move) ?_
          try simp only [opv, n1, n2, n3, n4, Value.cells]
          refine s_go (s_move) ?_
          try simp only [opv, n1, n2, n3, n4, Value.cells]
          refine s_go (s_lss) ?_
          try simp only [opv, n1, n2, n3, n4, Value.cells]
          refine x_nil ?_
          refine hK10 _ _ ?_
          refine x_cond (ht := fun hc3 => ?_) (hf := fun hc3 => ?_)
          ·
            try simp only [decide_eq_true_eq, decide_eq_false_iff_not, Bool.not_eq_true', Bool.not_eq_false', Int.not_lt, Int.not_le, ne_eq, Decidable.not_not, bne_iff_ne, beq_iff_eq, not_true_eq_false, not_false_eq_true] at hc3
            first
            | (exfalso; omega)
            | skip
              refine x_skip ?_
              refine hK9 _ _ ?_
              refine x_seq fun K11 hK11 => ?_
              refine x_block ?_
              refine x_region ?_
              refine s_go (s_move) ?_
              try simp only [opv, n1, n2, n3, n4, Value.cells]
              refine s_go (s_move) ?_
              try simp only [opv, n1, n2, n3, n4, Value.cells]
              refine s_go (s_move) ?_
              try simp only [opv, n1, n2, n3, n4, Value.cells]
              refine s_go (s_mul (hc := by first | exact wr_i64 (by omega) (by omega) | rfl)) ?_
              try simp only [opv, n1, n2, n3, n4, Value.cells]
              rw [show (8 : Int) * (k : Int) = ((8 * k : Nat) : Int) by omega]
              refine s_call en154 ?_
              try simp only [opv, n1, n2, n3, n4, Value.cells, List.map_toArray, List.map_cons, List.map_nil, List.append_toArray, List.cons_append, List.nil_append, Array.append_empty]
              refine CallR.mono (c_ref02Part x hx (8 * k) (by omega) 8 (by omega) _) ?_
              rintro _ w1 ⟨rfl, hE1⟩
              replace hS := hS.ext hE1
              try simp only [opv, n1, n2, n3, n4, Value.cells]
              rw [show lowN (x / 2 ^ (8 * k)) 8 = x / 256 ^ k % 256 by rw [pow256]; rfl]
              refine s_go (s_conv Try.underlying53 Try.underlying5 (hc := by first | exact wr_u8 (by omega) (by omega) | exact cv_u8 rfl | rfl)) ?_
              try simp only [opv, n1, n2, n3, n4, Value.cells]
              refine m_buildRow (cells := #[_]) Try.underlying42 ti5 (hc := by simp only [List.map_toArray, List.map_cons, List.map_nil, opv, n1, n2, n3, n4, Value.cells, List.toList_toArray]; (repeat (refine fill_cons rfl rfl (Nat.le_of_ble_eq_true rfl) ?_)); rfl) (hS := hS) (h := fun w2 g2 hS => ?_)
              try simp only [opv, n1, n2, n3, n4, Value.cells, Array.toArray_toList] at hS ⊢
              replace hS := hS.obj_rd (sz := 1) (n := 1) rfl .head
              refine m_append Try.underlying42 ti5 (hS := hS) (h := fun w3 A3 C3 hS => ?_)
              try simp only [← List.map_append, ← List.map_drop, ← List.map_take, Nat.mul_one, Nat.zero_mul, Nat.sub_zero, List.drop_zero, List.nil_append, Nat.zero_add] at hS ⊢
              try simp only [opv, n1, n2, n3, n4, Value.cells, Array.toArray_toList] at hS ⊢
              refine s_go (s_assign) ?_
              try simp only [opv, n1, n2, n3, n4, Value.cells]
              refine x_nil ?_
              refine hK11 _ _ ?_
              refine x_region ?_
              refine s_go (s_move) ?_
              try simp only [opv, n1, n2, n3, n4, Value.cells]
              refine s_go (s_add (hc := by first | exact wr_i64 (by omega) (by omega) | rfl)) ?_
              try simp only [opv, n1, n2, n3, n4, Value.cells]
              refine s_go (s_assign) ?_
              try simp only [opv, n1, n2, n3, n4, Value.cells]
              refine x_nil ?_
              refine loop_back (m' := n - (k + 1)) (by simp only [clob, List.foldl, n1, n2, n3, n4]) ?_ ?_
              · try simp only [opv, n1, n2, n3, n4, Value.cells]
                exact ⟨k + 1, _, _, by omega, by omega, by rfl, by rfl, by rw [putL_succ, List.map_append]; exact hS.sel (by repeat (first | exact Sel.nil | (refine Sel.cons (by repeat (first | exact Del.head | apply Del.tail)) ?_)))⟩
              · omega
          ·
            try simp only [decide_eq_true_eq, decide_eq_false_iff_not, Bool.not_eq_true', Bool.not_eq_false', Int.not_lt, Int.not_le, ne_eq, Decidable.not_not, bne_iff_ne, beq_iff_eq, not_true_eq_false, not_false_eq_true] at hc3
            first
            | (exfalso; omega)
            | skip
              obtain rfl : k = n := by omega
              refine x_exit (look_here ?_)
              refine hK7 _ _ ?_
              refine x_seq fun K12 hK12 => ?_
              refine x_region ?_
              refine s_go (s_move) ?_
              try simp only [opv, n1, n2, n3, n4, Value.cells]
              refine s_go (s_assign) ?_
              try simp only [opv, n1, n2, n3, n4, Value.cells]
              refine x_nil ?_
              refine hK12 _ _ ?_
              refine x_ret ?_
              refine r_tmp rfl ?_
              first | exact ⟨none, 0, 0, rfl, by rw [hP]; rfl, by rw [hP]; exact hS.sel (by repeat (first | exact Sel.nil | (refine Sel.cons (by repeat (first | exact Del.head | apply Del.tail)) ?_)))⟩ | exact ⟨_, _, _, rfl, by rw [hP, putL_len], by rw [hP]; exact hS.sel (by repeat (first | exact Sel.nil | (refine Sel.cons (by repeat (first | exact Del.head | apply Del.tail)) ?_)))⟩

theorem c_ref03Fits (x : Nat) (hx : x < 18446744073709551616) (z : Int) (hz : -9223372036854775808 ≤ z ∧ z ≤ 9223372036854775807)  (w0 : World) :
    CallR Try.prog 63 #[.int .u64 (x : Int), .int .i64 z] w0 fun v w' => v = .bool (fitsB x z) ∧ Ext w0 w' := by
  have hS : St NoB w0 w0 [] := St.start w0
  refine c_enter (l := [.int .u64 (x : Int), .int .i64 z, undef, undef, undef, undef, undef, undef, undef, undef, undef, undef, undef, undef, undef, undef, undef, undef, undef]) Try.func63 rfl (by simp only [Try.ntmps63, List.size_toArray, List.length_cons, List.length_nil, Nat.reduceAdd, Nat.reduceSub, Array.replicate_succ, Array.replicate_zero, List.push_toArray, List.append_toArray, List.nil_append, List.cons_append]) ?_
  refine x_seq fun K1 hK1 => ?_
  refine x_region ?_
  refine s_go (s_assign) ?_
  try simp only [opv, n1, n2, n3, n4, Value.cells]
  refine x_nil ?_
  refine hK1 _ _ ?_
  refine x_seq fun K2 hK2 => ?_
  refine x_region ?_
  refine s_go (s_move) ?_
  try simp only [opv, n1, n2, n3, n4, Value.cells]
  refine s_go (s_geq) ?_
  try simp only [opv, n1, n2, n3, n4, Value.cells]
  refine s_go (s_move) ?_
  try simp only [opv, n1, n2, n3, n4, Value.cells]
  refine s_part 7 rfl (fun hp1 => ?_) (fun hp1 => ?_)
  ·
    try simp only [n3, n4]
    try simp only [decide_eq_true_eq, decide_eq_false_iff_not, Bool.not_eq_true', Bool.not_eq_false', Int.not_lt, Int.not_le, ne_eq, Decidable.not_not] at hp1
    first
    | (exfalso; omega)
    | skip
      refine g_on (yi (t := 7) rfl rfl) ?_
      refine s_go (s_move) ?_
      try simp only [opv, n1, n2, n3, n4, Value.cells]
      refine g_on (yi (t := 7) rfl rfl) ?_
      refine s_go (s_leq) ?_
      try simp only [opv, n1, n2, n3, n4, Value.cells]
      first | refine s_go (s_pick_t) ?_ | refine s_go (s_pick_f) ?_
      try simp only [opv, n1, n2, n3, n4, Value.cells]
      refine s_go (s_move) ?_
      try simp only [opv, n1, n2, n3, n4, Value.cells]
      refine s_part 11 rfl (fun hp2 => ?_) (fun hp2 => ?_)
      ·
        try simp only [n3, n4]
        try simp only [decide_eq_true_eq, decide_eq_false_iff_not, Bool.not_eq_true', Bool.not_eq_false', Int.not_lt, Int.not_le, ne_eq, Decidable.not_not] at hp2
        first
        | (exfalso; omega)
        | skip
          obtain ⟨n, rfl⟩ := Int.eq_ofNat_of_zero_le (show 0 ≤ z by omega)
          refine g_on (yi (t := 11) rfl rfl) ?_
          refine s_go (s_move) ?_
          try simp only [opv, n1, n2, n3, n4, Value.cells]
          refine g_on (yi (t := 11) rfl rfl) ?_
          refine s_go (s_move) ?_
          try simp only [opv, n1, n2, n3, n4, Value.cells]
          refine g_on (yi (t := 11) rfl rfl) ?_
          refine s_go (s_mul (hc := by first | exact wr_i64 (by omega) (by omega) | rfl)) ?_
          try simp only [opv, n1, n2, n3, n4, Value.cells]
          refine g_on (yi (t := 11) rfl rfl) ?_
          refine s_call en155 ?_
          try simp only [opv, n1, n2, n3, n4, Value.cells, List.map_toArray, List.map_cons, List.map_nil, List.append_toArray, List.cons_append, List.nil_append, Array.append_empty]
          refine CallR.mono (c_ref02Low _ (by omega) _ (by omega) _) ?_
          rintro _ w1 ⟨rfl, hE1⟩
          replace hS := hS.ext hE1
          try simp only [opv, n1, n2, n3, n4, Value.cells]
          refine g_on (yi (t := 11) rfl rfl) ?_
          refine s_go (s_move) ?_
          try simp only [opv, n1, n2, n3, n4, Value.cells]
          refine g_on (yi (t := 11) rfl rfl) ?_
          refine s_go (s_eql) ?_
          try simp only [opv, n1, n2, n3, n4, Value.cells]
          first | refine s_go (s_pick_t) ?_ | refine s_go (s_pick_f) ?_
          try simp only [opv, n1, n2, n3, n4, Value.cells]
          refine s_go (s_assign) ?_
          try simp only [opv, n1, n2, n3, n4, Value.cells]
          refine x_nil ?_
          refine hK2 _ _ ?_
          refine x_ret ?_
          refine r_tmp rfl ?_
          refine ⟨congrArg Value.bool ?_, hS.ext_of⟩
          first | exact fits_yes hx (by omega) | (unfold fitsB; rw [Bool.eq_iff_iff]; simp; omega)
      ·
        try simp only [n3, n4]
        try simp only [decide_eq_true_eq, decide_eq_false_iff_not, Bool.not_eq_true', Bool.not_eq_false', Int.not_lt, Int.not_le, ne_eq, Decidable.not_not] at hp2
        first
        | (exfalso; omega)
        | skip
          refine g_off (yi (t := 11) rfl rfl) ?_
          try simp only [opv, n1, n2, n3, n4, Value.cells]
          refine g_off (yi (t := 11) rfl rfl) ?_
          try simp only [opv, n1, n2, n3, n4, Value.cells]
          refine g_off (yi (t := 11) rfl rfl) ?_
          try simp only [opv, n1, n2, n3, n4, Value.cells]
          refine g_off (yi (t := 11) rfl rfl) ?_
          try simp only [opv, n1, n2, n3, n4, Value.cells]
          refine g_off (yi (t := 11) rfl rfl) ?_
          try simp only [opv, n1, n2, n3, n4, Value.cells]
          refine g_off (yi (t := 11) rfl rfl) ?_
          try simp only [opv, n1, n2, n3, n4, Value.cells]
          first | refine s_go (s_pick_t) ?_ | refine s_go (s_pick_f) ?_
          try simp only [opv, n1, n2, n3, n4, Value.cells]
          refine s_go (s_assign) ?_
          try simp only [opv, n1, n2, n3, n4, Value.cells]
          refine x_nil ?_
          refine hK2 _ _ ?_
          refine x_ret ?_
          refine r_tmp rfl ?_
          refine ⟨congrArg Value.bool ?_, hS.ext_of⟩
          first | exact fits_yes hx (by omega) | (unfold fitsB; rw [Bool.eq_iff_iff]; simp; omega)
  ·
    try simp only [n3, n4]
    try simp only [decide_eq_true_eq, decide_eq_false_iff_not, Bool.not_eq_true', Bool.not_eq_false', Int.not_lt, Int.not_le, ne_eq, Decidable.not_not] at hp1
    first
    | (exfalso; omega)
    | skip
      refine g_off (yi (t := 7) rfl rfl) ?_
      try simp only [opv, n1, n2, n3, n4, Value.cells]
      refine g_off (yi (t := 7) rfl rfl) ?_
      try simp only [opv, n1, n2, n3, n4, Value.cells]
      first | refine s_go (s_pick_t) ?_ | refine s_go (s_pick_f) ?_
      try simp only [opv, n1, n2, n3, n4, Value.cells]
      refine s_go (s_move) ?_
      try simp only [opv, n1, n2, n3, n4, Value.cells]
      refine g_off (yi (t := 11) rfl rfl) ?_
      try simp only [opv, n1, n2, n3, n4, Value.cells]
      refine g_off (yi (t := 11) rfl rfl) ?_
      try simp only [opv, n1, n2, n3, n4, Value.cells]
      refine g_off (yi (t := 11) rfl rfl) ?_
      try simp only [opv, n1, n2, n3, n4, Value.cells]
      refine g_off (yi (t := 11) rfl rfl) ?_
      try simp only [opv, n1, n2, n3, n4, Value.cells]
      refine g_off (yi (t := 11) rfl rfl) ?_
      try simp only [opv, n1, n2, n3, n4, Value.cells]
      refine g_off (yi (t := 11) rfl rfl) ?_
      try simp only [opv, n1, n2, n3, n4, Value.cells]
      first | refine s_go (s_pick_t) ?_ | refine s_go (s_pick_f) ?_
      try simp only [opv, n1, n2, n3, n4, Value.cells]
      refine s_go (s_assign) ?_
      try simp only [opv, n1, n2, n3, n4, Value.cells]
      refine x_nil ?_
      refine hK2 _ _ ?_
      refine x_ret ?_
      refine r_tmp rfl ?_
      refine ⟨congrArg Value.bool ?_, hS.ext_of⟩
      first | exact fits_yes hx (by omega) | (unfold fitsB; rw [Bool.eq_iff_iff]; simp; omega)
end Go.Proofs.Ytjgbcaegofpggaa
