/- Rules, plain words and walks that the claim leans on: Cq, Pname, Cn, Pkey, Patom, Cx, De, Pread, Pread2, Df. -/
import Derived.Test.YtffmanidnlbjjaaGreatZCodecBack1
set_option linter.unusedSimpArgs false
set_option linter.unusedVariables false
set_option linter.unusedSimpArgs false
set_option linter.unusedVariables false
set_option maxHeartbeats 800000
set_option maxRecDepth 100000
namespace Go.Proofs.YtffmanidnlbjjaaGreat
open Go.RowKit

abbrev UnvP (l : List Int) : Value := .tuple #[.int .u64 ((unvar l).1 : Int), .int .i64 ((unvar l).2.1 : Int), .int .i64 ((unvar l).2.2 : Int)]
theorem unvP_of {l : List Int} {a b c : Nat} (h : unvar l = (a, b, c)) {x y z : Int} (hx : x = a) (hy : y = b) (hz : z = c) : Value.tuple #[.int .u64 x, .int .i64 y, .int .i64 z] = UnvP l := by
  subst hx; subst hy; subst hz; rw [UnvP, h]
theorem shl7 {c k : Nat} (hc : c < 128) (hk : k ≤ 9) (h9 : k = 9 → c ≤ 1) : c * 2 ^ (7 * k) < 18446744073709551616 := by
  by_cases h : k = 9
  · subst h
    have := h9 rfl
    have : c * 2 ^ (7 * 9) ≤ 1 * 2 ^ (7 * 9) := Nat.mul_le_mul_right _ this
    omega
  · have h1 : 2 ^ (7 * k) ≤ 2 ^ 56 := Nat.pow_le_pow_right (by omega) (by omega)
    have : c * 2 ^ (7 * k) ≤ 127 * 2 ^ 56 := Nat.mul_le_mul (by omega) h1
    omega
theorem unv_or {x c k : Nat} (hx : x < 128 ^ k) (hc : c < 256) (hk : k ≤ 9) (h9 : k = 9 → c ≤ 1) : bits .or .u64 (x : Int) (((c % 128) * 2 ^ (7 * k) % 18446744073709551616 : Nat) : Int) = ((x + 128 ^ k * (c % 128) : Nat) : Int) := by
  have h1 : c % 128 < 128 := Nat.mod_lt _ (by decide)
  have h2 : k = 9 → c % 128 ≤ 1 := fun h => by have := h9 h; omega
  rw [Nat.mod_eq_of_lt (shl7 h1 hk h2), pow128]
  exact or_dis64 (n := 7 * k) (b := c % 128) rfl (by rw [Nat.mul_comm]) (by rw [← pow128]; exact hx) (by rw [← pow128]; exact grp_64 hx h1 hk h2)

theorem c_packUnvar (w0 : World) (A : Option Addr) (n c : Nat) (l : List Int) (hr : Rd w0 A 1 n (l.map (Value.int .u8))) (hl : l.length = n) (hw : Byt l) (hn : n ≤ 140737488355000) (hc : n ≤ c) :
    CallR Tryz.prog 153 #[.slice A n c] w0 fun v w' => v = UnvP l ∧ Ext w0 w' := by
 have hS := St.rd1 (S := NoB) hr
 refine c_enter (l := [.slice A n c, undef, undef, undef, undef, undef, undef, undef, undef, undef, undef, undef, undef, undef, undef, undef, undef, undef, undef, undef, undef, undef, undef, undef, undef, undef, undef, undef, undef, undef, undef, undef, undef, undef, undef, undef, undef, undef, undef, undef, undef, undef, undef, undef, undef, undef, undef, undef, undef, undef, undef]) Tryz.func153 rfl (by simp only [Tryz.ntmps153, List.size_toArray, List.length_cons, List.length_nil, Nat.reduceAdd, Nat.reduceSub, Array.replicate_succ, Array.replicate_zero, List.push_toArray, List.append_toArray, List.nil_append, List.cons_append]) ?_
 refine x_seq fun K1 hK1 => ?_
 refine x_region ?_
 refine s_go (s_assign) ?_
 try simp only [opv, n1, n2, n3, n4, Value.cells]
 refine s_go (s_assign) ?_
 try simp only [opv, n1, n2, n3, n4, Value.cells]
 refine s_go (s_assign) ?_
 try simp only [opv, n1, n2, n3, n4, Value.cells]
 refine x_nil ?_
 refine hK1 _ _ ?_
 refine x_scope ?_
 refine x_seq fun K2 hK2 => ?_
 refine x_label ?_
 refine hK2 _ _ ?_
 refine x_seq fun K3 hK3 => ?_
 refine x_seq fun K4 hK4 => ?_
 refine x_region ?_
 refine s_go (s_move) ?_
 try simp only [opv, n1, n2, n3, n4, Value.cells]
 refine x_nil ?_
 refine hK4 _ _ ?_
 refine x_block ?_
 refine x_loop [2, 3, 4, 5, 6, 7, 8, 9, 10, 11, 12, 13, 14, 15, 16, 17, 18, 19, 20, 21, 22, 23, 24, 25, 26, 27, 28, 29, 30, 31, 32, 33, 34, 35, 36, 37, 38, 39, 40, 41, 42, 43, 44, 45, 46, 47, 48, 49, 50] (fun m f w => ∃ k x : Nat, k ≤ 10 ∧ m = 10 - k ∧ f 7 = .int .i64 (k : Int) ∧ f 2 = .int .u64 (x : Int) ∧ f 3 = .int .i64 0 ∧ f 4 = .int .i64 0 ∧ x < 128 ^ k ∧ unv l (10 - k) k x = unvar l ∧ St NoB w0 w [.rd A 1 n (l.map (Value.int .u8))]) (10) ?init1 (fun m1 f1 wl1 hI => ?_)
 case init1 =>
  try simp only [opv, n1, n2, n3, n4, Value.cells]
  exact ⟨0, 0, by omega, rfl, rfl, rfl, by trivial, by trivial, by omega, rfl, hS⟩
 obtain ⟨k, x, hk, hm, h7, h2, h3, h4, hx, hU, hS⟩ := hI
 simp only [clob, List.foldl, n3, n4, h7, h2, h3, h4]
 have hby := hw.bt k
 refine x_seq fun K5 hK5 => ?_
 refine x_region ?_
 refine s_go (s_lss) ?_
 try simp only [opv, n1, n2, n3, n4, Value.cells]
 refine x_nil ?_
 refine hK5 _ _ ?_
 refine x_seq fun K6 hK6 => ?_
 refine x_cond (ht := fun hc1 => ?_) (hf := fun hc1 => ?_)
 ·
  try simp only [decide_eq_true_eq, decide_eq_false_iff_not, Bool.not_eq_true', Bool.not_eq_false', Int.not_lt, Int.not_le, ne_eq, Decidable.not_not, bne_iff_ne, beq_iff_eq, not_true_eq_false, not_false_eq_true] at hc1
  refine x_skip ?_
  refine hK6 _ _ ?_
  refine x_seq fun K7 hK7 => ?_
  refine x_block ?_
  refine x_seq fun K8 hK8 => ?_
  refine x_region ?_
  refine s_go (s_move) ?_
  try simp only [opv, n1, n2, n3, n4, Value.cells]
  refine s_go (s_assign) ?_
  try simp only [opv, n1, n2, n3, n4, Value.cells]
  refine x_nil ?_
  refine hK8 _ _ ?_
  refine x_seq fun K9 hK9 => ?_
  refine x_seq fun K10 hK10 => ?_
  refine x_region ?_
  refine s_go (s_move) ?_
  try simp only [opv, n1, n2, n3, n4, Value.cells]
  refine s_go (s_move) ?_
  try simp only [opv, n1, n2, n3, n4, Value.cells]
  refine s_go (s_len_sl Tryz.underlying73) ?_
  try simp only [opv, n1, n2, n3, n4, Value.cells]
  refine s_go (s_geq) ?_
  try simp only [opv, n1, n2, n3, n4, Value.cells]
  refine x_nil ?_
  refine hK10 _ _ ?_
  refine x_cond (ht := fun hc2 => ?_) (hf := fun hc2 => ?_)
  ·
   try simp only [decide_eq_true_eq, decide_eq_false_iff_not, Bool.not_eq_true', Bool.not_eq_false', Int.not_lt, Int.not_le, ne_eq, Decidable.not_not, bne_iff_ne, beq_iff_eq, not_true_eq_false, not_false_eq_true] at hc2
   have hu := unv_short hU (by omega) (by omega)
   refine x_seq fun K11 hK11 => ?_
   refine x_region ?_
   refine s_go (s_assign) ?_
   try simp only [opv, n1, n2, n3, n4, Value.cells]
   refine s_go (s_assign) ?_
   try simp only [opv, n1, n2, n3, n4, Value.cells]
   refine s_go (s_assign) ?_
   try simp only [opv, n1, n2, n3, n4, Value.cells]
   refine x_nil ?_
   refine hK11 _ _ ?_
   refine x_ret ?_
   refine r_tmp3 rfl ?_
   exact ⟨unvP_of hu rfl rfl rfl, hS.ext_of⟩
  ·
   try simp only [decide_eq_true_eq, decide_eq_false_iff_not, Bool.not_eq_true', Bool.not_eq_false', Int.not_lt, Int.not_le, ne_eq, Decidable.not_not, bne_iff_ne, beq_iff_eq, not_true_eq_false, not_false_eq_true] at hc2
   refine x_skip ?_
   refine hK9 _ _ ?_
   refine x_seq fun K12 hK12 => ?_
   refine x_region ?_
   refine s_go (s_move) ?_
   try simp only [opv, n1, n2, n3, n4, Value.cells]
   refine s_go (s_move) ?_
   try simp only [opv, n1, n2, n3, n4, Value.cells]
   refine s_go (m_indexAddr_rd Tryz.underlying73 ti5 (hS := hS)) ?_
   try simp only [opv, n1, n2, n3, n4, Value.cells, Nat.mul_one, Nat.zero_add, Int.toNat_natCast, Int.reduceToNat]
   refine s_go (m_load_rd Tryz.underlying5 (hS := hS)) ?_
   try simp only [opv, n1, n2, n3, n4, Value.cells, List.getElem_toArray, List.getElem_cons_zero, List.getElem_cons_succ]
   rw [hby.1]
   refine s_go (s_assign) ?_
   try simp only [opv, n1, n2, n3, n4, Value.cells]
   refine x_nil ?_
   refine hK12 _ _ ?_
   refine x_seq fun K13 hK13 => ?_
   refine x_block ?_
   refine x_seq fun K14 hK14 => ?_
   refine x_block ?_
   refine x_seq fun K15 hK15 => ?_
   refine x_block ?_
   refine x_seq fun K16 hK16 => ?_
   refine x_block ?_
   refine x_seq fun K17 hK17 => ?_
   refine x_block ?_
   refine x_seq fun K18 hK18 => ?_
   refine x_seq fun K19 hK19 => ?_
   refine x_seq fun K20 hK20 => ?_
   refine x_region ?_
   refine s_go (s_move) ?_
   try simp only [opv, n1, n2, n3, n4, Value.cells]
   refine s_go (s_eql) ?_
   try simp only [opv, n1, n2, n3, n4, Value.cells]
   refine s_go (s_move) ?_
   try simp only [opv, n1, n2, n3, n4, Value.cells]
   refine s_part 21 rfl (fun hp1 => ?_) (fun hp1 => ?_)
   ·
    try simp only [n3, n4]
    try simp only [decide_eq_true_eq, decide_eq_false_iff_not, Bool.not_eq_true', Bool.not_eq_false', Int.not_lt, Int.not_le, ne_eq, Decidable.not_not] at hp1
    refine g_on (yi (t := 21) rfl rfl) ?_
    refine s_go (s_move) ?_
    try simp only [opv, n1, n2, n3, n4, Value.cells]
    refine g_on (yi (t := 21) rfl rfl) ?_
    refine s_go (s_gtr) ?_
    try simp only [opv, n1, n2, n3, n4, Value.cells]
    refine s_go (s_pick_t) ?_
    try simp only [opv, n1, n2, n3, n4, Value.cells]
    refine s_go (s_assign) ?_
    try simp only [opv, n1, n2, n3, n4, Value.cells]
    refine x_nil ?_
    refine hK20 _ _ ?_
    refine x_cond (ht := fun hc3 => ?_) (hf := fun hc3 => ?_)
    ·
     try simp only [decide_eq_true_eq, decide_eq_false_iff_not, Bool.not_eq_true', Bool.not_eq_false', Int.not_lt, Int.not_le, ne_eq, Decidable.not_not, bne_iff_ne, beq_iff_eq, not_true_eq_false, not_false_eq_true] at hc3
     have hu := unv_big hU (by omega) (by omega) (by omega)
     refine x_exit (look_here ?_)
     refine hK17 _ _ ?_
     refine x_seq fun K21 hK21 => ?_
     refine x_exit (look_on (by decide) (look_on (by decide) (look_on (by decide) (look_on (by decide) (look_on (by decide) (look_here ?_))))))
     refine hK3 _ _ ?_
     refine x_seq fun K22 hK22 => ?_
     refine x_region ?_
     refine s_go (s_assign) ?_
     try simp only [opv, n1, n2, n3, n4, Value.cells]
     refine s_go (s_assign) ?_
     try simp only [opv, n1, n2, n3, n4, Value.cells]
     refine s_go (s_assign) ?_
     try simp only [opv, n1, n2, n3, n4, Value.cells]
     refine x_nil ?_
     refine hK22 _ _ ?_
     refine x_ret ?_
     refine r_tmp3 rfl ?_
     exact ⟨unvP_of hu rfl rfl rfl, hS.ext_of⟩
    ·
     try simp only [decide_eq_true_eq, decide_eq_false_iff_not, Bool.not_eq_true', Bool.not_eq_false', Int.not_lt, Int.not_le, ne_eq, Decidable.not_not, bne_iff_ne, beq_iff_eq, not_true_eq_false, not_false_eq_true] at hc3
     refine x_skip ?_
     refine hK19 _ _ ?_
     refine x_seq fun K23 hK23 => ?_
     refine x_seq fun K24 hK24 => ?_
     refine x_region ?_
     refine s_go (s_move) ?_
     try simp only [opv, n1, n2, n3, n4, Value.cells]
     refine s_go (s_eql) ?_
     try simp only [opv, n1, n2, n3, n4, Value.cells]
     refine s_go (s_move) ?_
     try simp only [opv, n1, n2, n3, n4, Value.cells]
     refine s_part 28 rfl (fun hp2 => ?_) (fun hp2 => ?_)
     ·
      try simp only [n3, n4]
      try simp only [decide_eq_true_eq, decide_eq_false_iff_not, Bool.not_eq_true', Bool.not_eq_false', Int.not_lt, Int.not_le, ne_eq, Decidable.not_not] at hp2
      refine g_on (yi (t := 28) rfl rfl) ?_
      refine s_go (s_move) ?_
      try simp only [opv, n1, n2, n3, n4, Value.cells]
      refine g_on (yi (t := 28) rfl rfl) ?_
      refine s_go (s_gtr) ?_
      try simp only [opv, n1, n2, n3, n4, Value.cells]
      refine s_go (s_pick_t) ?_
      try simp only [opv, n1, n2, n3, n4, Value.cells]
      refine s_go (s_assign) ?_
      try simp only [opv, n1, n2, n3, n4, Value.cells]
      refine x_nil ?_
      refine hK24 _ _ ?_
      refine x_cond (ht := fun hc4 => ?_) (hf := fun hc4 => ?_)
      ·
       try simp only [decide_eq_true_eq, decide_eq_false_iff_not, Bool.not_eq_true', Bool.not_eq_false', Int.not_lt, Int.not_le, ne_eq, Decidable.not_not, bne_iff_ne, beq_iff_eq, not_true_eq_false, not_false_eq_true] at hc4
       have hu := unv_form hU (by omega) (by omega) (by omega) (by omega)
       refine x_exit (look_on (by decide) (look_here ?_))
       refine hK16 _ _ ?_
       refine x_seq fun K25 hK25 => ?_
       refine x_seq fun K26 hK26 => ?_
       refine x_region ?_
       refine s_go (s_assign) ?_
       try simp only [opv, n1, n2, n3, n4, Value.cells]
       refine s_go (s_assign) ?_
       try simp only [opv, n1, n2, n3, n4, Value.cells]
       refine s_go (s_assign) ?_
       try simp only [opv, n1, n2, n3, n4, Value.cells]
       refine x_nil ?_
       refine hK26 _ _ ?_
       refine x_ret ?_
       refine r_tmp3 rfl ?_
       exact ⟨unvP_of hu rfl rfl rfl, hS.ext_of⟩
      ·
       try simp only [decide_eq_true_eq, decide_eq_false_iff_not, Bool.not_eq_true', Bool.not_eq_false', Int.not_lt, Int.not_le, ne_eq, Decidable.not_not, bne_iff_ne, beq_iff_eq, not_true_eq_false, not_false_eq_true] at hc4
       (exfalso; omega)
     ·
      try simp only [n3, n4]
      try simp only [decide_eq_true_eq, decide_eq_false_iff_not, Bool.not_eq_true', Bool.not_eq_false', Int.not_lt, Int.not_le, ne_eq, Decidable.not_not] at hp2
      refine g_off (yi (t := 28) rfl rfl) ?_
      try simp only [opv, n1, n2, n3, n4, Value.cells]
      refine g_off (yi (t := 28) rfl rfl) ?_
      try simp only [opv, n1, n2, n3, n4, Value.cells]
      refine s_go (s_pick_f) ?_
      try simp only [opv, n1, n2, n3, n4, Value.cells]
      refine s_go (s_assign) ?_
      try simp only [opv, n1, n2, n3, n4, Value.cells]
      refine x_nil ?_
      refine hK24 _ _ ?_
      refine x_cond_f (h := ?_)
      refine x_skip ?_
      refine hK23 _ _ ?_
      refine x_seq fun K34 hK34 => ?_
      refine x_region ?_
      refine s_go (s_move) ?_
      try simp only [opv, n1, n2, n3, n4, Value.cells]
      refine s_go (s_lss) ?_
      try simp only [opv, n1, n2, n3, n4, Value.cells]
      refine s_go (s_assign) ?_
      try simp only [opv, n1, n2, n3, n4, Value.cells]
      refine x_nil ?_
      refine hK34 _ _ ?_
      refine x_cond (ht := fun hc9 => ?_) (hf := fun hc9 => ?_)
      ·
       try simp only [decide_eq_true_eq, decide_eq_false_iff_not, Bool.not_eq_true', Bool.not_eq_false', Int.not_lt, Int.not_le, ne_eq, Decidable.not_not, bne_iff_ne, beq_iff_eq, not_true_eq_false, not_false_eq_true] at hc9
       have hu := unv_done hU (by omega) (by omega) (by omega) (by omega) (by omega)
       refine x_exit (look_on (by decide) (look_on (by decide) (look_here ?_)))
       refine hK15 _ _ ?_
       refine x_region ?_
       refine s_go (s_move) ?_
       try simp only [opv, n1, n2, n3, n4, Value.cells]
       refine s_go (s_add (hc := by exact wr_i64 (by omega) (by omega))) ?_
       try simp only [opv, n1, n2, n3, n4, Value.cells]
       refine s_go (s_assign) ?_
       try simp only [opv, n1, n2, n3, n4, Value.cells]
       refine x_nil ?_
       refine hK14 _ _ ?_
       refine x_seq fun K35 hK35 => ?_
       refine x_region ?_
       refine s_go (s_move) ?_
       try simp only [opv, n1, n2, n3, n4, Value.cells]
       refine s_go (s_move) ?_
       try simp only [opv, n1, n2, n3, n4, Value.cells]
       refine s_go (s_bits (by simp) (hc := andn7 hby.2)) ?_
       try simp only [opv, n1, n2, n3, n4, Value.cells]
       refine s_go (s_conv Tryz.underlying5 Tryz.underlying84 (hc := by exact wr_u64 (by omega) (by omega))) ?_
       try simp only [opv, n1, n2, n3, n4, Value.cells]
       refine s_go (s_move) ?_
       try simp only [opv, n1, n2, n3, n4, Value.cells]
       refine s_go (s_mul (hc := by exact wr_i64 (by omega) (by omega))) ?_
       try simp only [opv, n1, n2, n3, n4, Value.cells]
       refine s_go (s_conv Tryz.underlying3 Tryz.underlying164 (hc := by exact wr_u64 (by omega) (by omega))) ?_
       try simp only [opv, n1, n2, n3, n4, Value.cells]
       refine s_go (s_shl (hc := shl_n64 (r := bt l k % 128) (n := 7 * k) (by omega))) ?_
       try simp only [opv, n1, n2, n3, n4, Value.cells]
       refine s_go (s_bits (by simp) (hc := unv_or hx hby.2 (by omega) (by omega))) ?_
       try simp only [opv, n1, n2, n3, n4, Value.cells]
       refine s_go (s_assign) ?_
       try simp only [opv, n1, n2, n3, n4, Value.cells]
       refine x_nil ?_
       refine hK35 _ _ ?_
       refine x_exit (look_here ?_)
       refine hK13 _ _ ?_
       refine x_seq fun K36 hK36 => ?_
       refine x_region ?_
       refine s_go (s_move) ?_
       try simp only [opv, n1, n2, n3, n4, Value.cells]
       refine s_go (s_gtr) ?_
       try simp only [opv, n1, n2, n3, n4, Value.cells]
       refine x_nil ?_
       refine hK36 _ _ ?_
       refine x_cond (ht := fun hc10 => ?_) (hf := fun hc10 => ?_)
       ·
        try simp only [decide_eq_true_eq, decide_eq_false_iff_not, Bool.not_eq_true', Bool.not_eq_false', Int.not_lt, Int.not_le, ne_eq, Decidable.not_not, bne_iff_ne, beq_iff_eq, not_true_eq_false, not_false_eq_true] at hc10
        refine x_seq fun K37 hK37 => ?_
        refine x_region ?_
        refine s_go (s_move) ?_
        try simp only [opv, n1, n2, n3, n4, Value.cells]
        refine s_go (s_move) ?_
        try simp only [opv, n1, n2, n3, n4, Value.cells]
        refine s_go (s_assign) ?_
        try simp only [opv, n1, n2, n3, n4, Value.cells]
        refine s_go (s_assign) ?_
        try simp only [opv, n1, n2, n3, n4, Value.cells]
        refine s_go (s_assign) ?_
        try simp only [opv, n1, n2, n3, n4, Value.cells]
        refine x_nil ?_
        refine hK37 _ _ ?_
        refine x_ret ?_
        refine r_tmp3 rfl ?_
        exact ⟨unvP_of hu (by rw [Nat.mod_eq_of_lt (show bt l k < 128 by omega)]) (by omega) rfl, hS.ext_of⟩
       ·
        try simp only [decide_eq_true_eq, decide_eq_false_iff_not, Bool.not_eq_true', Bool.not_eq_false', Int.not_lt, Int.not_le, ne_eq, Decidable.not_not, bne_iff_ne, beq_iff_eq, not_true_eq_false, not_false_eq_true] at hc10
        (exfalso; omega)
      ·
       try simp only [decide_eq_true_eq, decide_eq_false_iff_not, Bool.not_eq_true', Bool.not_eq_false', Int.not_lt, Int.not_le, ne_eq, Decidable.not_not, bne_iff_ne, beq_iff_eq, not_true_eq_false, not_false_eq_true] at hc9
       (exfalso; omega)
   ·
    try simp only [n3, n4]
    try simp only [decide_eq_true_eq, decide_eq_false_iff_not, Bool.not_eq_true', Bool.not_eq_false', Int.not_lt, Int.not_le, ne_eq, Decidable.not_not] at hp1
    refine g_off (yi (t := 21) rfl rfl) ?_
    try simp only [opv, n1, n2, n3, n4, Value.cells]
    refine g_off (yi (t := 21) rfl rfl) ?_
    try simp only [opv, n1, n2, n3, n4, Value.cells]
    refine s_go (s_pick_f) ?_
    try simp only [opv, n1, n2, n3, n4, Value.cells]
    refine s_go (s_assign) ?_
    try simp only [opv, n1, n2, n3, n4, Value.cells]
    refine x_nil ?_
    refine hK20 _ _ ?_
    refine x_cond_f (h := ?_)
    refine x_skip ?_
    refine hK19 _ _ ?_
    refine x_seq fun K41 hK41 => ?_
    refine x_seq fun K42 hK42 => ?_
    refine x_region ?_
    refine s_go (s_move) ?_
    try simp only [opv, n1, n2, n3, n4, Value.cells]
    refine s_go (s_eql) ?_
    try simp only [opv, n1, n2, n3, n4, Value.cells]
    refine s_go (s_move) ?_
    try simp only [opv, n1, n2, n3, n4, Value.cells]
    refine s_part 28 rfl (fun hp3 => ?_) (fun hp3 => ?_)
    ·
     try simp only [n3, n4]
     try simp only [decide_eq_true_eq, decide_eq_false_iff_not, Bool.not_eq_true', Bool.not_eq_false', Int.not_lt, Int.not_le, ne_eq, Decidable.not_not] at hp3
     refine g_on (yi (t := 28) rfl rfl) ?_
     refine s_go (s_move) ?_
     try simp only [opv, n1, n2, n3, n4, Value.cells]
     refine g_on (yi (t := 28) rfl rfl) ?_
     refine s_go (s_gtr) ?_
     try simp only [opv, n1, n2, n3, n4, Value.cells]
     refine s_go (s_pick_t) ?_
     try simp only [opv, n1, n2, n3, n4, Value.cells]
     refine s_go (s_assign) ?_
     try simp only [opv, n1, n2, n3, n4, Value.cells]
     refine x_nil ?_
     refine hK42 _ _ ?_
     refine x_cond (ht := fun hc13 => ?_) (hf := fun hc13 => ?_)
     ·
      try simp only [decide_eq_true_eq, decide_eq_false_iff_not, Bool.not_eq_true', Bool.not_eq_false', Int.not_lt, Int.not_le, ne_eq, Decidable.not_not, bne_iff_ne, beq_iff_eq, not_true_eq_false, not_false_eq_true] at hc13
      have hu := unv_form hU (by omega) (by omega) (by omega) (by omega)
      refine x_exit (look_on (by decide) (look_here ?_))
      refine hK16 _ _ ?_
      refine x_seq fun K43 hK43 => ?_
      refine x_seq fun K44 hK44 => ?_
      refine x_region ?_
      refine s_go (s_assign) ?_
      try simp only [opv, n1, n2, n3, n4, Value.cells]
      refine s_go (s_assign) ?_
      try simp only [opv, n1, n2, n3, n4, Value.cells]
      refine s_go (s_assign) ?_
      try simp only [opv, n1, n2, n3, n4, Value.cells]
      refine x_nil ?_
      refine hK44 _ _ ?_
      refine x_ret ?_
      refine r_tmp3 rfl ?_
      exact ⟨unvP_of hu rfl rfl rfl, hS.ext_of⟩
     ·
      try simp only [decide_eq_true_eq, decide_eq_false_iff_not, Bool.not_eq_true', Bool.not_eq_false', Int.not_lt, Int.not_le, ne_eq, Decidable.not_not, bne_iff_ne, beq_iff_eq, not_true_eq_false, not_false_eq_true] at hc13
      refine x_skip ?_
      refine hK41 _ _ ?_
      refine x_seq fun K45 hK45 => ?_
      refine x_region ?_
      refine s_go (s_move) ?_
      try simp only [opv, n1, n2, n3, n4, Value.cells]
      refine s_go (s_lss) ?_
      try simp only [opv, n1, n2, n3, n4, Value.cells]
      refine s_go (s_assign) ?_
      try simp only [opv, n1, n2, n3, n4, Value.cells]
      refine x_nil ?_
      refine hK45 _ _ ?_
      refine x_cond (ht := fun hc14 => ?_) (hf := fun hc14 => ?_)
      ·
       try simp only [decide_eq_true_eq, decide_eq_false_iff_not, Bool.not_eq_true', Bool.not_eq_false', Int.not_lt, Int.not_le, ne_eq, Decidable.not_not, bne_iff_ne, beq_iff_eq, not_true_eq_false, not_false_eq_true] at hc14
       have hu := unv_done hU (by omega) (by omega) (by omega) (by omega) (by omega)
       refine x_exit (look_on (by decide) (look_on (by decide) (look_here ?_)))
       refine hK15 _ _ ?_
       refine x_region ?_
       refine s_go (s_move) ?_
       try simp only [opv, n1, n2, n3, n4, Value.cells]
       refine s_go (s_add (hc := by exact wr_i64 (by omega) (by omega))) ?_
       try simp only [opv, n1, n2, n3, n4, Value.cells]
       refine s_go (s_assign) ?_
       try simp only [opv, n1, n2, n3, n4, Value.cells]
       refine x_nil ?_
       refine hK14 _ _ ?_
       refine x_seq fun K46 hK46 => ?_
       refine x_region ?_
       refine s_go (s_move) ?_
       try simp only [opv, n1, n2, n3, n4, Value.cells]
       refine s_go (s_move) ?_
       try simp only [opv, n1, n2, n3, n4, Value.cells]
       refine s_go (s_bits (by simp) (hc := andn7 hby.2)) ?_
       try simp only [opv, n1, n2, n3, n4, Value.cells]
       refine s_go (s_conv Tryz.underlying5 Tryz.underlying84 (hc := by exact wr_u64 (by omega) (by omega))) ?_
       try simp only [opv, n1, n2, n3, n4, Value.cells]
       refine s_go (s_move) ?_
       try simp only [opv, n1, n2, n3, n4, Value.cells]
       refine s_go (s_mul (hc := by exact wr_i64 (by omega) (by omega))) ?_
       try simp only [opv, n1, n2, n3, n4, Value.cells]
       refine s_go (s_conv Tryz.underlying3 Tryz.underlying164 (hc := by exact wr_u64 (by omega) (by omega))) ?_
       try simp only [opv, n1, n2, n3, n4, Value.cells]
       refine s_go (s_shl (hc := shl_n64 (r := bt l k % 128) (n := 7 * k) (by omega))) ?_
       try simp only [opv, n1, n2, n3, n4, Value.cells]
       refine s_go (s_bits (by simp) (hc := unv_or hx hby.2 (by omega) (by omega))) ?_
       try simp only [opv, n1, n2, n3, n4, Value.cells]
       refine s_go (s_assign) ?_
       try simp only [opv, n1, n2, n3, n4, Value.cells]
       refine x_nil ?_
       refine hK46 _ _ ?_
       refine x_exit (look_here ?_)
       refine hK13 _ _ ?_
       refine x_seq fun K47 hK47 => ?_
       refine x_region ?_
       refine s_go (s_move) ?_
       try simp only [opv, n1, n2, n3, n4, Value.cells]
       refine s_go (s_gtr) ?_
       try simp only [opv, n1, n2, n3, n4, Value.cells]
       refine x_nil ?_
       refine hK47 _ _ ?_
       refine x_cond (ht := fun hc15 => ?_) (hf := fun hc15 => ?_)
       ·
        try simp only [decide_eq_true_eq, decide_eq_false_iff_not, Bool.not_eq_true', Bool.not_eq_false', Int.not_lt, Int.not_le, ne_eq, Decidable.not_not, bne_iff_ne, beq_iff_eq, not_true_eq_false, not_false_eq_true] at hc15
        refine x_seq fun K48 hK48 => ?_
        refine x_region ?_
        refine s_go (s_move) ?_
        try simp only [opv, n1, n2, n3, n4, Value.cells]
        refine s_go (s_move) ?_
        try simp only [opv, n1, n2, n3, n4, Value.cells]
        refine s_go (s_assign) ?_
        try simp only [opv, n1, n2, n3, n4, Value.cells]
        refine s_go (s_assign) ?_
        try simp only [opv, n1, n2, n3, n4, Value.cells]
        refine s_go (s_assign) ?_
        try simp only [opv, n1, n2, n3, n4, Value.cells]
        refine x_nil ?_
        refine hK48 _ _ ?_
        refine x_ret ?_
        refine r_tmp3 rfl ?_
        exact ⟨unvP_of hu (by rw [Nat.mod_eq_of_lt (show bt l k < 128 by omega)]) (by omega) rfl, hS.ext_of⟩
       ·
        try simp only [decide_eq_true_eq, decide_eq_false_iff_not, Bool.not_eq_true', Bool.not_eq_false', Int.not_lt, Int.not_le, ne_eq, Decidable.not_not, bne_iff_ne, beq_iff_eq, not_true_eq_false, not_false_eq_true] at hc15
        (exfalso; omega)
      ·
       try simp only [decide_eq_true_eq, decide_eq_false_iff_not, Bool.not_eq_true', Bool.not_eq_false', Int.not_lt, Int.not_le, ne_eq, Decidable.not_not, bne_iff_ne, beq_iff_eq, not_true_eq_false, not_false_eq_true] at hc14
       (exfalso; omega)
    ·
     try simp only [n3, n4]
     try simp only [decide_eq_true_eq, decide_eq_false_iff_not, Bool.not_eq_true', Bool.not_eq_false', Int.not_lt, Int.not_le, ne_eq, Decidable.not_not] at hp3
     refine g_off (yi (t := 28) rfl rfl) ?_
     try simp only [opv, n1, n2, n3, n4, Value.cells]
     refine g_off (yi (t := 28) rfl rfl) ?_
     try simp only [opv, n1, n2, n3, n4, Value.cells]
     refine s_go (s_pick_f) ?_
     try simp only [opv, n1, n2, n3, n4, Value.cells]
     refine s_go (s_assign) ?_
     try simp only [opv, n1, n2, n3, n4, Value.cells]
     refine x_nil ?_
     refine hK42 _ _ ?_
     refine x_cond_f (h := ?_)
     refine x_skip ?_
     refine hK41 _ _ ?_
     refine x_seq fun K52 hK52 => ?_
     refine x_region ?_
     refine s_go (s_move) ?_
     try simp only [opv, n1, n2, n3, n4, Value.cells]
     refine s_go (s_lss) ?_
     try simp only [opv, n1, n2, n3, n4, Value.cells]
     refine s_go (s_assign) ?_
     try simp only [opv, n1, n2, n3, n4, Value.cells]
     refine x_nil ?_
     refine hK52 _ _ ?_
     refine x_cond (ht := fun hc18 => ?_) (hf := fun hc18 => ?_)
     ·
      try simp only [decide_eq_true_eq, decide_eq_false_iff_not, Bool.not_eq_true', Bool.not_eq_false', Int.not_lt, Int.not_le, ne_eq, Decidable.not_not, bne_iff_ne, beq_iff_eq, not_true_eq_false, not_false_eq_true] at hc18
      have hu := unv_done hU (by omega) (by omega) (by omega) (by omega) (by omega)
      refine x_exit (look_on (by decide) (look_on (by decide) (look_here ?_)))
      refine hK15 _ _ ?_
      refine x_region ?_
      refine s_go (s_move) ?_
      try simp only [opv, n1, n2, n3, n4, Value.cells]
      refine s_go (s_add (hc := by exact wr_i64 (by omega) (by omega))) ?_
      try simp only [opv, n1, n2, n3, n4, Value.cells]
      refine s_go (s_assign) ?_
      try simp only [opv, n1, n2, n3, n4, Value.cells]
      refine x_nil ?_
      refine hK14 _ _ ?_
      refine x_seq fun K53 hK53 => ?_
      refine x_region ?_
      refine s_go (s_move) ?_
      try simp only [opv, n1, n2, n3, n4, Value.cells]
      refine s_go (s_move) ?_
      try simp only [opv, n1, n2, n3, n4, Value.cells]
      refine s_go (s_bits (by simp) (hc := andn7 hby.2)) ?_
      try simp only [opv, n1, n2, n3, n4, Value.cells]
      refine s_go (s_conv Tryz.underlying5 Tryz.underlying84 (hc := by exact wr_u64 (by omega) (by omega))) ?_
      try simp only [opv, n1, n2, n3, n4, Value.cells]
      refine s_go (s_move) ?_
      try simp only [opv, n1, n2, n3, n4, Value.cells]
      refine s_go (s_mul (hc := by exact wr_i64 (by omega) (by omega))) ?_
      try simp only [opv, n1, n2, n3, n4, Value.cells]
      refine s_go (s_conv Tryz.underlying3 Tryz.underlying164 (hc := by exact wr_u64 (by omega) (by omega))) ?_
      try simp only [opv, n1, n2, n3, n4, Value.cells]
      refine s_go (s_shl (hc := shl_n64 (r := bt l k % 128) (n := 7 * k) (by omega))) ?_
      try simp only [opv, n1, n2, n3, n4, Value.cells]
      refine s_go (s_bits (by simp) (hc := unv_or hx hby.2 (by omega) (by omega))) ?_
      try simp only [opv, n1, n2, n3, n4, Value.cells]
      refine s_go (s_assign) ?_
      try simp only [opv, n1, n2, n3, n4, Value.cells]
      refine x_nil ?_
      refine hK53 _ _ ?_
      refine x_exit (look_here ?_)
      refine hK13 _ _ ?_
      refine x_seq fun K54 hK54 => ?_
      refine x_region ?_
      refine s_go (s_move) ?_
      try simp only [opv, n1, n2, n3, n4, Value.cells]
      refine s_go (s_gtr) ?_
      try simp only [opv, n1, n2, n3, n4, Value.cells]
      refine x_nil ?_
      refine hK54 _ _ ?_
      refine x_cond (ht := fun hc19 => ?_) (hf := fun hc19 => ?_)
      ·
       try simp only [decide_eq_true_eq, decide_eq_false_iff_not, Bool.not_eq_true', Bool.not_eq_false', Int.not_lt, Int.not_le, ne_eq, Decidable.not_not, bne_iff_ne, beq_iff_eq, not_true_eq_false, not_false_eq_true] at hc19
       refine x_seq fun K55 hK55 => ?_
       refine x_region ?_
       refine s_go (s_move) ?_
       try simp only [opv, n1, n2, n3, n4, Value.cells]
       refine s_go (s_move) ?_
       try simp only [opv, n1, n2, n3, n4, Value.cells]
       refine s_go (s_assign) ?_
       try simp only [opv, n1, n2, n3, n4, Value.cells]
       refine s_go (s_assign) ?_
       try simp only [opv, n1, n2, n3, n4, Value.cells]
       refine s_go (s_assign) ?_
       try simp only [opv, n1, n2, n3, n4, Value.cells]
       refine x_nil ?_
       refine hK55 _ _ ?_
       refine x_ret ?_
       refine r_tmp3 rfl ?_
       exact ⟨unvP_of hu (by rw [Nat.mod_eq_of_lt (show bt l k < 128 by omega)]) (by omega) rfl, hS.ext_of⟩
      ·
       try simp only [decide_eq_true_eq, decide_eq_false_iff_not, Bool.not_eq_true', Bool.not_eq_false', Int.not_lt, Int.not_le, ne_eq, Decidable.not_not, bne_iff_ne, beq_iff_eq, not_true_eq_false, not_false_eq_true] at hc19
       (exfalso; omega)
     ·
      try simp only [decide_eq_true_eq, decide_eq_false_iff_not, Bool.not_eq_true', Bool.not_eq_false', Int.not_lt, Int.not_le, ne_eq, Decidable.not_not, bne_iff_ne, beq_iff_eq, not_true_eq_false, not_false_eq_true] at hc18
      refine x_skip ?_
      refine hK18 _ _ ?_
      refine x_exit (look_on (by decide) (look_on (by decide) (look_on (by decide) (look_here ?_))))
      refine hK14 _ _ ?_
      refine x_seq fun K56 hK56 => ?_
      refine x_region ?_
      refine s_go (s_move) ?_
      try simp only [opv, n1, n2, n3, n4, Value.cells]
      refine s_go (s_move) ?_
      try simp only [opv, n1, n2, n3, n4, Value.cells]
      refine s_go (s_bits (by simp) (hc := andn7 hby.2)) ?_
      try simp only [opv, n1, n2, n3, n4, Value.cells]
      refine s_go (s_conv Tryz.underlying5 Tryz.underlying84 (hc := by exact wr_u64 (by omega) (by omega))) ?_
      try simp only [opv, n1, n2, n3, n4, Value.cells]
      refine s_go (s_move) ?_
      try simp only [opv, n1, n2, n3, n4, Value.cells]
      refine s_go (s_mul (hc := by exact wr_i64 (by omega) (by omega))) ?_
      try simp only [opv, n1, n2, n3, n4, Value.cells]
      refine s_go (s_conv Tryz.underlying3 Tryz.underlying164 (hc := by exact wr_u64 (by omega) (by omega))) ?_
      try simp only [opv, n1, n2, n3, n4, Value.cells]
      refine s_go (s_shl (hc := shl_n64 (r := bt l k % 128) (n := 7 * k) (by omega))) ?_
      try simp only [opv, n1, n2, n3, n4, Value.cells]
      refine s_go (s_bits (by simp) (hc := unv_or hx hby.2 (by omega) (by omega))) ?_
      try simp only [opv, n1, n2, n3, n4, Value.cells]
      refine s_go (s_assign) ?_
      try simp only [opv, n1, n2, n3, n4, Value.cells]
      refine x_nil ?_
      refine hK56 _ _ ?_
      refine x_exit (look_here ?_)
      refine hK13 _ _ ?_
      refine x_seq fun K57 hK57 => ?_
      refine x_region ?_
      refine s_go (s_move) ?_
      try simp only [opv, n1, n2, n3, n4, Value.cells]
      refine s_go (s_gtr) ?_
      try simp only [opv, n1, n2, n3, n4, Value.cells]
      refine x_nil ?_
      refine hK57 _ _ ?_
      refine x_cond (ht := fun hc20 => ?_) (hf := fun hc20 => ?_)
      ·
       try simp only [decide_eq_true_eq, decide_eq_false_iff_not, Bool.not_eq_true', Bool.not_eq_false', Int.not_lt, Int.not_le, ne_eq, Decidable.not_not, bne_iff_ne, beq_iff_eq, not_true_eq_false, not_false_eq_true] at hc20
       (exfalso; omega)
      ·
       try simp only [decide_eq_true_eq, decide_eq_false_iff_not, Bool.not_eq_true', Bool.not_eq_false', Int.not_lt, Int.not_le, ne_eq, Decidable.not_not, bne_iff_ne, beq_iff_eq, not_true_eq_false, not_false_eq_true] at hc20
       refine x_skip ?_
       refine hK7 _ _ ?_
       refine x_region ?_
       refine s_go (s_add (hc := by exact wr_i64 (by omega) (by omega))) ?_
       try simp only [opv, n1, n2, n3, n4, Value.cells]
       refine s_go (s_move) ?_
       try simp only [opv, n1, n2, n3, n4, Value.cells]
       refine x_nil ?_
       refine loop_back (m' := 10 - (k + 1)) (by simp only [clob, List.foldl, n1, n2, n3, n4]) ?_ ?_
       · try simp only [opv, n1, n2, n3, n4, Value.cells]
         exact ⟨k + 1, x + 128 ^ k * (bt l k % 128), by omega, by omega, by rfl, by rfl, by trivial, by trivial, grp_lt hx (Nat.mod_lt _ (by decide)), by rw [show bt l k % 128 = bt l k - 128 by omega]; exact unv_on hU (by omega) (by omega) (by omega) (by omega) (by omega), hS⟩
       · omega
 ·
  try simp only [decide_eq_true_eq, decide_eq_false_iff_not, Bool.not_eq_true', Bool.not_eq_false', Int.not_lt, Int.not_le, ne_eq, Decidable.not_not, bne_iff_ne, beq_iff_eq, not_true_eq_false, not_false_eq_true] at hc1
  obtain rfl : k = 10 := by omega
  have hu := unv_end hU
  refine x_exit (look_here ?_)
  refine hK3 _ _ ?_
  refine x_seq fun K59 hK59 => ?_
  refine x_region ?_
  refine s_go (s_assign) ?_
  try simp only [opv, n1, n2, n3, n4, Value.cells]
  refine s_go (s_assign) ?_
  try simp only [opv, n1, n2, n3, n4, Value.cells]
  refine s_go (s_assign) ?_
  try simp only [opv, n1, n2, n3, n4, Value.cells]
  refine x_nil ?_
  refine hK59 _ _ ?_
  refine x_ret ?_
  refine r_tmp3 rfl ?_
  exact ⟨unvP_of hu rfl rfl rfl, hS.ext_of⟩
end Go.Proofs.YtffmanidnlbjjaaGreat
namespace Go.Proofs.YtffmanidnlbjjaaGreat
/-- how many bytes stand ahead of the first zero -/
def nsz : List Int → Nat
  | [] => 0
  | b :: l => if b = 0 then 0 else nsz l + 1
theorem nsz_le : ∀ (l : List Int), nsz l ≤ l.length
  | [] => Nat.le_refl _
  | b :: l => by unfold nsz; have := nsz_le l; split <;> simp; omega
theorem nsz_of : ∀ {l : List Int} {k : Nat}, k ≤ l.length → (∀ j, j < k → l.getD j 0 ≠ 0) → (k = l.length ∨ l.getD k 0 = 0) → nsz l = k
  | [], k, hk, _, _ => by simp at hk; subst hk; rfl
  | b :: l, 0, _, _, he => by
    rcases he with he | he
    · simp at he
    · simp at he; simp [nsz, he]
  | b :: l, k + 1, hk, hn, he => by
    have h0 : b ≠ 0 := by simpa using hn 0 (by omega)
    rw [nsz, if_neg h0, nsz_of (by simpa using hk) (fun j hj => by simpa using hn (j + 1) (by omega)) (by simpa using he)]
theorem nsz_zero : ∀ {l : List Int}, nsz l < l.length → l.getD (nsz l) 0 = 0
  | [], h => by simp at h
  | b :: l, h => by
    unfold nsz at h ⊢
    split
    · simp_all
    · rename_i hb
      rw [if_neg hb] at h
      simpa using nsz_zero (l := l) (by simpa using h)
def nmTxt (l : List Int) : List Int := l.take (nsz l)
theorem nmTxt_len (l : List Int) : (nmTxt l).length = nsz l := by simp [nmTxt, nsz_le]
def isLet (b : Int) : Bool := decide (97 ≤ b ∧ b ≤ 122)
def isOth (b : Int) : Bool := decide ((97 ≤ b ∧ b ≤ 122) ∨ (48 ≤ b ∧ b ≤ 57) ∨ b = 45)
def isZer (b : Int) : Bool := decide (b = 0)
def nright (l : List Int) : Bool := isLet (l.getD 0 0) && (l.take (nsz l)).all isOth && (l.drop (nsz l)).all isZer
def isN (ns : List Int) : Bool := decide (1 ≤ ns.length ∧ ns.length ≤ 8) && isLet (ns.getD 0 0) && ns.all isOth
def padN (ns : List Int) : List Int := ns.take 8 ++ List.replicate (8 - ns.length) 0
theorem padN_len (ns : List Int) : (padN ns).length = 8 := by simp [padN]; omega
theorem all_zer : ∀ {l : List Int}, l.all isZer = true ↔ l = List.replicate l.length 0
  | [] => by simp
  | b :: l => by
    have := all_zer (l := l)
    simp only [List.all_cons, Bool.and_eq_true, isZer, decide_eq_true_eq, List.length_cons, List.replicate_succ, List.cons.injEq] at this ⊢
    rw [← this]
theorem nright_eq {l : List Int} (h : l.length = 8) : nright l = (isN (nmTxt l) && decide (padN (nmTxt l) = l)) := by
  have hs := nsz_le l
  have hl := nmTxt_len l
  have hp : padN (nmTxt l) = l ↔ (l.drop (nsz l)).all isZer = true := by
    rw [all_zer, padN, hl, List.take_of_length_le (by omega), nmTxt]
    conv => lhs; rhs; rw [← List.take_append_drop (nsz l) l]
    rw [List.append_cancel_left_eq, List.length_drop, h]
    exact eq_comm
  unfold nright isN
  by_cases h0 : nsz l = 0
  · have e0 : l.getD 0 0 = 0 := by have := nsz_zero (l := l) (by omega); rwa [h0] at this
    rw [hl, h0, e0]; simp [isLet]
  · have e0 : (nmTxt l).getD 0 0 = l.getD 0 0 := by
      simp only [nmTxt, List.getD_eq_getElem?_getD]
      rw [List.getElem?_take_of_lt (by omega)]
    rw [e0, hl, show decide (1 ≤ nsz l ∧ nsz l ≤ 8) = true by simp; omega, Bool.true_and]
    congr 1
    rw [Bool.eq_iff_iff, decide_eq_true_eq, hp]
def numN (l : List Int) : Nat := l.foldl (fun x b => 256 * x + b.toNat) 0
theorem numN_snoc (l : List Int) (b : Int) : numN (l ++ [b]) = 256 * numN l + b.toNat := by simp [numN]
theorem numN_take {l : List Int} {k : Nat} (h : k < l.length) : numN (l.take (k + 1)) = 256 * numN (l.take k) + bt l k := by
  rw [take_succ_getD h, numN_snoc]; rfl
theorem numN_lt {l : List Int} (h : Byt l) : ∀ k, numN (l.take k) < 256 ^ k
  | 0 => by simp [numN]
  | k + 1 => by
    have ih := numN_lt h k
    have hb := (h.bt k).2
    by_cases hk : k < l.length
    · rw [numN_take hk, Nat.pow_succ]; omega
    · rw [List.take_of_length_le (by omega)] at ih ⊢
      rw [Nat.pow_succ]; omega
theorem num_shl {x k : Nat} (hx : x < 256 ^ k) (hk : k < 8) : x * 256 % 18446744073709551616 = 256 * x := by
  have : 256 ^ k ≤ 256 ^ 7 := Nat.pow_le_pow_right (by omega) (by omega)
  have e : (256 : Nat) ^ 7 = 72057594037927936 := by decide
  omega
theorem num_sum {x k b : Nat} (hx : x < 256 ^ k) (hb : b < 256) (hk : k < 8) : 256 * x + b < 18446744073709551616 := by
  have : 256 ^ k ≤ 256 ^ 7 := Nat.pow_le_pow_right (by omega) (by omega)
  have e : (256 : Nat) ^ 7 = 72057594037927936 := by decide
  omega
theorem all_not {p : Int → Bool} {l : List Int} {k : Nat} (h : p (l.getD k 0) = false) (hk : k < l.length) : l.all p = false := by
  rw [List.all_eq_false]
  refine ⟨l.getD k 0, ?_, by rw [h]; decide⟩
  rw [List.getD_eq_getElem?_getD, List.getElem?_eq_getElem hk]
  exact List.getElem_mem hk
theorem numN_64 {l : List Int} (h : Byt l) (hl : l.length = 8) : numN l < 18446744073709551616 := by
  have := numN_lt h 8
  rwa [← hl, List.take_length, hl] at this
def nm0 : List Int := List.replicate 8 0
def padT (ns : List Int) (k : Nat) : List Int := ns.take k ++ List.replicate (8 - k) 0
theorem padT_len {ns : List Int} {k : Nat} (h : k ≤ ns.length) (h8 : k ≤ 8) : (padT ns k).length = 8 := by simp [padT]; omega
theorem padT_zero (ns : List Int) : padT ns 0 = nm0 := by simp [padT, nm0]
theorem padT_set {ns : List Int} {k : Nat} (h : k < ns.length) (h8 : k < 8) : (padT ns k).set k (ns.getD k 0) = padT ns (k + 1) := by
  unfold padT
  rw [List.set_append_right _ _ (by simp; omega), show k - (ns.take k).length = 0 by simp; omega, show 8 - k = (8 - (k + 1)) + 1 by omega, List.replicate_succ, List.set_cons_zero, take_succ_getD h, List.append_assoc]
  rfl
theorem padT_all {ns : List Int} {k : Nat} (h : k ≤ ns.length) (h8 : k ≤ 8) (he : k = ns.length ∨ k = 8) : padT ns k = padN ns := by
  unfold padT padN
  rcases he with rfl | rfl
  · rw [List.take_length, List.take_of_length_le (by omega)]
  · rw [show 8 - 8 = 8 - ns.length by omega]
theorem nmTxt_of {l : List Int} {k : Nat} (hk : k ≤ l.length) (h : ∀ j, j < k → l.getD j 0 ≠ 0) (he : k = l.length ∨ l.getD k 0 = 0) : l.take k = nmTxt l := by rw [nmTxt, nsz_of hk h he]
theorem nmTxt_byt {l : List Int} (h : Byt l) : Byt (nmTxt l) := h.take _
theorem padN_byt {l : List Int} (h : Byt l) : Byt (padN l) := by
  refine Byt.app (h.take _) ?_
  intro y hy; simp at hy; omega
theorem nm0_byt : Byt nm0 := by intro y hy; simp [nm0] at hy; omega
end Go.Proofs.YtffmanidnlbjjaaGreat
set_option linter.unusedSimpArgs false
set_option linter.unusedVariables false
set_option maxHeartbeats 800000
set_option maxRecDepth 100000
namespace Go.Proofs.YtffmanidnlbjjaaGreat
open Go.RowKit
theorem c_nameLetter (b : Int) (hb : 0 ≤ b ∧ b ≤ 255)  (w0 : World) :
    CallR Tryz.prog 138 #[.int .u8 b] w0 fun v w' => v = .bool (isLet b) ∧ Ext w0 w' := by
 have hS : St NoB w0 w0 [] := St.start w0
 refine c_enter (l := [.int .u8 b, undef, undef, undef, undef, undef, undef, undef, undef]) Tryz.func138 rfl (by simp only [Tryz.ntmps138, List.size_toArray, List.length_cons, List.length_nil, Nat.reduceAdd, Nat.reduceSub, Array.replicate_succ, Array.replicate_zero, List.push_toArray, List.append_toArray, List.nil_append, List.cons_append]) ?_
 refine x_seq fun K1 hK1 => ?_
 refine x_region ?_
 refine s_go (s_assign) ?_
 try simp only [opv, n1, n2, n3, n4, Value.cells]
 refine x_nil ?_
 refine hK1 _ _ ?_
 refine x_seq fun K2 hK2 => ?_
 refine x_region ?_
 refine s_go (s_move) ?_
 try simp only [opv, n1, n2, n3, n4, Value.cells]
 refine s_go (s_leq) ?_
 try simp only [opv, n1, n2, n3, n4, Value.cells]
 refine s_go (s_move) ?_
 try simp only [opv, n1, n2, n3, n4, Value.cells]
 refine s_part 5 rfl (fun hp1 => ?_) (fun hp1 => ?_)
 ·
  try simp only [n3, n4]
  try simp only [decide_eq_true_eq, decide_eq_false_iff_not, Bool.not_eq_true', Bool.not_eq_false', Int.not_lt, Int.not_le, ne_eq, Decidable.not_not] at hp1
  refine g_on (yi (t := 5) rfl rfl) ?_
  refine s_go (s_move) ?_
  try simp only [opv, n1, n2, n3, n4, Value.cells]
  refine g_on (yi (t := 5) rfl rfl) ?_
  refine s_go (s_leq) ?_
  try simp only [opv, n1, n2, n3, n4, Value.cells]
  refine s_go (s_pick_t) ?_
  try simp only [opv, n1, n2, n3, n4, Value.cells]
  refine s_go (s_assign) ?_
  try simp only [opv, n1, n2, n3, n4, Value.cells]
  refine x_nil ?_
  refine hK2 _ _ ?_
  refine x_ret ?_
  refine r_tmp rfl ?_
  exact ⟨congrArg Value.bool (by unfold isLet; (simp [*]; done)), hS.ext_of⟩
 ·
  try simp only [n3, n4]
  try simp only [decide_eq_true_eq, decide_eq_false_iff_not, Bool.not_eq_true', Bool.not_eq_false', Int.not_lt, Int.not_le, ne_eq, Decidable.not_not] at hp1
  refine g_off (yi (t := 5) rfl rfl) ?_
  try simp only [opv, n1, n2, n3, n4, Value.cells]
  refine g_off (yi (t := 5) rfl rfl) ?_
  try simp only [opv, n1, n2, n3, n4, Value.cells]
  refine s_go (s_pick_f) ?_
  try simp only [opv, n1, n2, n3, n4, Value.cells]
  refine s_go (s_assign) ?_
  try simp only [opv, n1, n2, n3, n4, Value.cells]
  refine x_nil ?_
  refine hK2 _ _ ?_
  refine x_ret ?_
  refine r_tmp rfl ?_
  exact ⟨congrArg Value.bool (by unfold isLet; (simp; omega)), hS.ext_of⟩
theorem c_ref06Letter (b : Int) (hb : 0 ≤ b ∧ b ≤ 255)  (w0 : World) :
    CallR Tryz.prog 187 #[.int .u8 b] w0 fun v w' => v = .bool (isLet b) ∧ Ext w0 w' := by
 have hS : St NoB w0 w0 [] := St.start w0
 refine c_enter (l := [.int .u8 b, undef, undef, undef, undef, undef, undef, undef, undef]) Tryz.func187 rfl (by simp only [Tryz.ntmps187, List.size_toArray, List.length_cons, List.length_nil, Nat.reduceAdd, Nat.reduceSub, Array.replicate_succ, Array.replicate_zero, List.push_toArray, List.append_toArray, List.nil_append, List.cons_append]) ?_
 refine x_seq fun K1 hK1 => ?_
 refine x_region ?_
 refine s_go (s_assign) ?_
 try simp only [opv, n1, n2, n3, n4, Value.cells]
 refine x_nil ?_
 refine hK1 _ _ ?_
 refine x_seq fun K2 hK2 => ?_
 refine x_region ?_
 refine s_go (s_move) ?_
 try simp only [opv, n1, n2, n3, n4, Value.cells]
 refine s_go (s_geq) ?_
 try simp only [opv, n1, n2, n3, n4, Value.cells]
 refine s_go (s_move) ?_
 try simp only [opv, n1, n2, n3, n4, Value.cells]
 refine s_part 5 rfl (fun hp1 => ?_) (fun hp1 => ?_)
 ·
  try simp only [n3, n4]
  try simp only [decide_eq_true_eq, decide_eq_false_iff_not, Bool.not_eq_true', Bool.not_eq_false', Int.not_lt, Int.not_le, ne_eq, Decidable.not_not] at hp1
  refine g_on (yi (t := 5) rfl rfl) ?_
  refine s_go (s_move) ?_
  try simp only [opv, n1, n2, n3, n4, Value.cells]
  refine g_on (yi (t := 5) rfl rfl) ?_
  refine s_go (s_leq) ?_
  try simp only [opv, n1, n2, n3, n4, Value.cells]
  refine s_go (s_pick_t) ?_
  try simp only [opv, n1, n2, n3, n4, Value.cells]
  refine s_go (s_assign) ?_
  try simp only [opv, n1, n2, n3, n4, Value.cells]
  refine x_nil ?_
  refine hK2 _ _ ?_
  refine x_ret ?_
  refine r_tmp rfl ?_
  exact ⟨congrArg Value.bool (by unfold isLet; (simp [*]; done)), hS.ext_of⟩
 ·
  try simp only [n3, n4]
  try simp only [decide_eq_true_eq, decide_eq_false_iff_not, Bool.not_eq_true', Bool.not_eq_false', Int.not_lt, Int.not_le, ne_eq, Decidable.not_not] at hp1
  refine g_off (yi (t := 5) rfl rfl) ?_
  try simp only [opv, n1, n2, n3, n4, Value.cells]
  refine g_off (yi (t := 5) rfl rfl) ?_
  try simp only [opv, n1, n2, n3, n4, Value.cells]
  refine s_go (s_pick_f) ?_
  try simp only [opv, n1, n2, n3, n4, Value.cells]
  refine s_go (s_assign) ?_
  try simp only [opv, n1, n2, n3, n4, Value.cells]
  refine x_nil ?_
  refine hK2 _ _ ?_
  refine x_ret ?_
  refine r_tmp rfl ?_
  exact ⟨congrArg Value.bool (by unfold isLet; (simp; omega)), hS.ext_of⟩
theorem c_nameOther (b : Int) (hb : 0 ≤ b ∧ b ≤ 255)  (w0 : World) :
    CallR Tryz.prog 140 #[.int .u8 b] w0 fun v w' => v = .bool (isOth b) ∧ Ext w0 w' := by
 have hS : St NoB w0 w0 [] := St.start w0
 refine c_enter (l := [.int .u8 b, undef, undef, undef, undef, undef, undef, undef, undef, undef, undef, undef, undef, undef]) Tryz.func140 rfl (by simp only [Tryz.ntmps140, List.size_toArray, List.length_cons, List.length_nil, Nat.reduceAdd, Nat.reduceSub, Array.replicate_succ, Array.replicate_zero, List.push_toArray, List.append_toArray, List.nil_append, List.cons_append]) ?_
 refine x_seq fun K1 hK1 => ?_
 refine x_region ?_
 refine s_go (s_assign) ?_
 try simp only [opv, n1, n2, n3, n4, Value.cells]
 refine x_nil ?_
 refine hK1 _ _ ?_
 refine x_seq fun K2 hK2 => ?_
 refine x_block ?_
 refine x_seq fun K3 hK3 => ?_
 refine x_seq fun K4 hK4 => ?_
 refine x_region ?_
 refine s_go (s_move) ?_
 try simp only [opv, n1, n2, n3, n4, Value.cells]
 refine s_call en138 ?_
 try simp only [opv, n1, n2, n3, n4, Value.cells, List.map_toArray, List.map_cons, List.map_nil, List.append_toArray, List.cons_append, List.nil_append, Array.append_empty]
 refine CallR.mono (c_nameLetter _ (by assumption) _) ?_
 rintro _ w1 ⟨rfl, hE1⟩
 replace hS := hS.ext hE1
 try simp only [opv, n1, n2, n3, n4, Value.cells]
 unfold isLet
 refine s_go (s_assign) ?_
 try simp only [opv, n1, n2, n3, n4, Value.cells]
 refine x_nil ?_
 refine hK4 _ _ ?_
 refine x_cond (ht := fun hc1 => ?_) (hf := fun hc1 => ?_)
 ·
  try simp only [decide_eq_true_eq, decide_eq_false_iff_not, Bool.not_eq_true', Bool.not_eq_false', Int.not_lt, Int.not_le, ne_eq, Decidable.not_not, bne_iff_ne, beq_iff_eq, not_true_eq_false, not_false_eq_true] at hc1
  refine x_skip ?_
  refine hK3 _ _ ?_
  refine x_cond (ht := fun hc2 => ?_) (hf := fun hc2 => ?_)
  ·
   try simp only [decide_eq_true_eq, decide_eq_false_iff_not, Bool.not_eq_true', Bool.not_eq_false', Int.not_lt, Int.not_le, ne_eq, Decidable.not_not, bne_iff_ne, beq_iff_eq, not_true_eq_false, not_false_eq_true] at hc2
   refine x_seq fun K5 hK5 => ?_
   refine x_region ?_
   refine s_go (s_assign) ?_
   try simp only [opv, n1, n2, n3, n4, Value.cells]
   refine x_nil ?_
   refine hK5 _ _ ?_
   refine x_ret ?_
   refine r_tmp rfl ?_
   exact ⟨congrArg Value.bool (by unfold isOth; exact (decide_eq_true (by omega)).symm), hS.ext_of⟩
  ·
   try simp only [decide_eq_true_eq, decide_eq_false_iff_not, Bool.not_eq_true', Bool.not_eq_false', Int.not_lt, Int.not_le, ne_eq, Decidable.not_not, bne_iff_ne, beq_iff_eq, not_true_eq_false, not_false_eq_true] at hc2
   (exfalso; omega)
 ·
  try simp only [decide_eq_true_eq, decide_eq_false_iff_not, Bool.not_eq_true', Bool.not_eq_false', Int.not_lt, Int.not_le, ne_eq, Decidable.not_not, bne_iff_ne, beq_iff_eq, not_true_eq_false, not_false_eq_true] at hc1
  refine x_seq fun K7 hK7 => ?_
  refine x_region ?_
  refine s_go (s_move) ?_
  try simp only [opv, n1, n2, n3, n4, Value.cells]
  refine s_go (s_leq) ?_
  try simp only [opv, n1, n2, n3, n4, Value.cells]
  refine s_go (s_move) ?_
  try simp only [opv, n1, n2, n3, n4, Value.cells]
  refine s_part 8 rfl (fun hp1 => ?_) (fun hp1 => ?_)
  ·
   try simp only [n3, n4]
   try simp only [decide_eq_true_eq, decide_eq_false_iff_not, Bool.not_eq_true', Bool.not_eq_false', Int.not_lt, Int.not_le, ne_eq, Decidable.not_not] at hp1
   refine g_on (yi (t := 8) rfl rfl) ?_
   refine s_go (s_move) ?_
   try simp only [opv, n1, n2, n3, n4, Value.cells]
   refine g_on (yi (t := 8) rfl rfl) ?_
   refine s_go (s_leq) ?_
   try simp only [opv, n1, n2, n3, n4, Value.cells]
   refine s_go (s_pick_t) ?_
   try simp only [opv, n1, n2, n3, n4, Value.cells]
   refine s_go (s_assign) ?_
   try simp only [opv, n1, n2, n3, n4, Value.cells]
   refine x_nil ?_
   refine hK7 _ _ ?_
   refine x_cond (ht := fun hc3 => ?_) (hf := fun hc3 => ?_)
   ·
    try simp only [decide_eq_true_eq, decide_eq_false_iff_not, Bool.not_eq_true', Bool.not_eq_false', Int.not_lt, Int.not_le, ne_eq, Decidable.not_not, bne_iff_ne, beq_iff_eq, not_true_eq_false, not_false_eq_true] at hc3
    refine x_skip ?_
    refine hK3 _ _ ?_
    refine x_cond (ht := fun hc4 => ?_) (hf := fun hc4 => ?_)
    ·
     try simp only [decide_eq_true_eq, decide_eq_false_iff_not, Bool.not_eq_true', Bool.not_eq_false', Int.not_lt, Int.not_le, ne_eq, Decidable.not_not, bne_iff_ne, beq_iff_eq, not_true_eq_false, not_false_eq_true] at hc4
     refine x_seq fun K8 hK8 => ?_
     refine x_region ?_
     refine s_go (s_assign) ?_
     try simp only [opv, n1, n2, n3, n4, Value.cells]
     refine x_nil ?_
     refine hK8 _ _ ?_
     refine x_ret ?_
     refine r_tmp rfl ?_
     exact ⟨congrArg Value.bool (by unfold isOth; exact (decide_eq_true (by omega)).symm), hS.ext_of⟩
    ·
     try simp only [decide_eq_true_eq, decide_eq_false_iff_not, Bool.not_eq_true', Bool.not_eq_false', Int.not_lt, Int.not_le, ne_eq, Decidable.not_not, bne_iff_ne, beq_iff_eq, not_true_eq_false, not_false_eq_true] at hc4
     (exfalso; omega)
   ·
    try simp only [decide_eq_true_eq, decide_eq_false_iff_not, Bool.not_eq_true', Bool.not_eq_false', Int.not_lt, Int.not_le, ne_eq, Decidable.not_not, bne_iff_ne, beq_iff_eq, not_true_eq_false, not_false_eq_true] at hc3
    refine x_region ?_
    refine s_go (s_move) ?_
    try simp only [opv, n1, n2, n3, n4, Value.cells]
    refine s_go (s_eql) ?_
    try simp only [opv, n1, n2, n3, n4, Value.cells]
    refine s_go (s_assign) ?_
    try simp only [opv, n1, n2, n3, n4, Value.cells]
    refine x_nil ?_
    refine hK3 _ _ ?_
    refine x_cond (ht := fun hc5 => ?_) (hf := fun hc5 => ?_)
    ·
     try simp only [decide_eq_true_eq, decide_eq_false_iff_not, Bool.not_eq_true', Bool.not_eq_false', Int.not_lt, Int.not_le, ne_eq, Decidable.not_not, bne_iff_ne, beq_iff_eq, not_true_eq_false, not_false_eq_true] at hc5
     (exfalso; omega)
    ·
     try simp only [decide_eq_true_eq, decide_eq_false_iff_not, Bool.not_eq_true', Bool.not_eq_false', Int.not_lt, Int.not_le, ne_eq, Decidable.not_not, bne_iff_ne, beq_iff_eq, not_true_eq_false, not_false_eq_true] at hc5
     refine x_skip ?_
     refine hK2 _ _ ?_
     refine x_seq fun K11 hK11 => ?_
     refine x_region ?_
     refine s_go (s_assign) ?_
     try simp only [opv, n1, n2, n3, n4, Value.cells]
     refine x_nil ?_
     refine hK11 _ _ ?_
     refine x_ret ?_
     refine r_tmp rfl ?_
     exact ⟨congrArg Value.bool (by unfold isOth; exact (decide_eq_false (by omega)).symm), hS.ext_of⟩
  ·
   try simp only [n3, n4]
   try simp only [decide_eq_true_eq, decide_eq_false_iff_not, Bool.not_eq_true', Bool.not_eq_false', Int.not_lt, Int.not_le, ne_eq, Decidable.not_not] at hp1
   refine g_off (yi (t := 8) rfl rfl) ?_
   try simp only [opv, n1, n2, n3, n4, Value.cells]
   refine g_off (yi (t := 8) rfl rfl) ?_
   try simp only [opv, n1, n2, n3, n4, Value.cells]
   refine s_go (s_pick_f) ?_
   try simp only [opv, n1, n2, n3, n4, Value.cells]
   refine s_go (s_assign) ?_
   try simp only [opv, n1, n2, n3, n4, Value.cells]
   refine x_nil ?_
   refine hK7 _ _ ?_
   refine x_cond_f (h := ?_)
   refine x_region ?_
   refine s_go (s_move) ?_
   try simp only [opv, n1, n2, n3, n4, Value.cells]
   refine s_go (s_eql) ?_
   try simp only [opv, n1, n2, n3, n4, Value.cells]
   refine s_go (s_assign) ?_
   try simp only [opv, n1, n2, n3, n4, Value.cells]
   refine x_nil ?_
   refine hK3 _ _ ?_
   refine x_cond (ht := fun hc7 => ?_) (hf := fun hc7 => ?_)
   ·
    try simp only [decide_eq_true_eq, decide_eq_false_iff_not, Bool.not_eq_true', Bool.not_eq_false', Int.not_lt, Int.not_le, ne_eq, Decidable.not_not, bne_iff_ne, beq_iff_eq, not_true_eq_false, not_false_eq_true] at hc7
    refine x_seq fun K12 hK12 => ?_
    refine x_region ?_
    refine s_go (s_assign) ?_
    try simp only [opv, n1, n2, n3, n4, Value.cells]
    refine x_nil ?_
    refine hK12 _ _ ?_
    refine x_ret ?_
    refine r_tmp rfl ?_
    exact ⟨congrArg Value.bool (by unfold isOth; exact (decide_eq_true (by omega)).symm), hS.ext_of⟩
   ·
    try simp only [decide_eq_true_eq, decide_eq_false_iff_not, Bool.not_eq_true', Bool.not_eq_false', Int.not_lt, Int.not_le, ne_eq, Decidable.not_not, bne_iff_ne, beq_iff_eq, not_true_eq_false, not_false_eq_true] at hc7
    refine x_skip ?_
    refine hK2 _ _ ?_
    refine x_seq fun K13 hK13 => ?_
    refine x_region ?_
    refine s_go (s_assign) ?_
    try simp only [opv, n1, n2, n3, n4, Value.cells]
    refine x_nil ?_
    refine hK13 _ _ ?_
    refine x_ret ?_
    refine r_tmp rfl ?_
    exact ⟨congrArg Value.bool (by unfold isOth; exact (decide_eq_false (by omega)).symm), hS.ext_of⟩
theorem c_nameZero (b : Int) (hb : 0 ≤ b ∧ b ≤ 255)  (w0 : World) :
    CallR Tryz.prog 141 #[.int .u8 b] w0 fun v w' => v = .bool (isZer b) ∧ Ext w0 w' := by
 have hS : St NoB w0 w0 [] := St.start w0
 refine c_enter (l := [.int .u8 b, undef, undef, undef, undef]) Tryz.func141 rfl (by simp only [Tryz.ntmps141, List.size_toArray, List.length_cons, List.length_nil, Nat.reduceAdd, Nat.reduceSub, Array.replicate_succ, Array.replicate_zero, List.push_toArray, List.append_toArray, List.nil_append, List.cons_append]) ?_
 refine x_seq fun K1 hK1 => ?_
 refine x_region ?_
 refine s_go (s_assign) ?_
 try simp only [opv, n1, n2, n3, n4, Value.cells]
 refine x_nil ?_
 refine hK1 _ _ ?_
 refine x_seq fun K2 hK2 => ?_
 refine x_region ?_
 refine s_go (s_move) ?_
 try simp only [opv, n1, n2, n3, n4, Value.cells]
 refine s_go (s_eql) ?_
 try simp only [opv, n1, n2, n3, n4, Value.cells]
 refine s_go (s_assign) ?_
 try simp only [opv, n1, n2, n3, n4, Value.cells]
 refine x_nil ?_
 refine hK2 _ _ ?_
 refine x_ret ?_
 refine r_tmp rfl ?_
 exact ⟨rfl, hS.ext_of⟩
theorem c_ref06Other (b : Int) (hb : 0 ≤ b ∧ b ≤ 255)  (w0 : World) :
    CallR Tryz.prog 188 #[.int .u8 b] w0 fun v w' => v = .bool (isOth b) ∧ Ext w0 w' := by
 have hS : St NoB w0 w0 [] := St.start w0
 refine c_enter (l := [.int .u8 b, undef, undef, undef, undef, undef, undef, undef, undef, undef, undef, undef, undef, undef, undef, undef, undef]) Tryz.func188 rfl (by simp only [Tryz.ntmps188, List.size_toArray, List.length_cons, List.length_nil, Nat.reduceAdd, Nat.reduceSub, Array.replicate_succ, Array.replicate_zero, List.push_toArray, List.append_toArray, List.nil_append, List.cons_append]) ?_
 refine x_seq fun K1 hK1 => ?_
 refine x_region ?_
 refine s_go (s_assign) ?_
 try simp only [opv, n1, n2, n3, n4, Value.cells]
 refine x_nil ?_
 refine hK1 _ _ ?_
 refine x_seq fun K2 hK2 => ?_
 refine x_region ?_
 refine s_go (s_move) ?_
 try simp only [opv, n1, n2, n3, n4, Value.cells]
 refine s_call en187 ?_
 try simp only [opv, n1, n2, n3, n4, Value.cells, List.map_toArray, List.map_cons, List.map_nil, List.append_toArray, List.cons_append, List.nil_append, Array.append_empty]
 refine CallR.mono (c_ref06Letter _ (by assumption) _) ?_
 rintro _ w1 ⟨rfl, hE1⟩
 replace hS := hS.ext hE1
 try simp only [opv, n1, n2, n3, n4, Value.cells]
 unfold isLet
 refine s_go (s_move) ?_
 try simp only [opv, n1, n2, n3, n4, Value.cells]
 refine s_part 5 rfl (fun hp1 => ?_) (fun hp1 => ?_)
 ·
  try simp only [n3, n4]
  try simp only [decide_eq_true_eq, decide_eq_false_iff_not, Bool.not_eq_true', Bool.not_eq_false', Int.not_lt, Int.not_le, ne_eq, Decidable.not_not] at hp1
  refine g_off (yi (t := 5) rfl rfl) ?_
  try simp only [opv, n1, n2, n3, n4, Value.cells]
  refine g_off (yi (t := 5) rfl rfl) ?_
  try simp only [opv, n1, n2, n3, n4, Value.cells]
  refine g_off (yi (t := 5) rfl rfl) ?_
  try simp only [opv, n1, n2, n3, n4, Value.cells]
  refine g_un (yn (t := 8) rfl rfl) ?_
  try simp only [opv, n1, n2, n3, n4, Value.cells]
  refine g_un (yn (t := 8) rfl rfl) ?_
  try simp only [opv, n1, n2, n3, n4, Value.cells]
  refine g_off (yi (t := 5) rfl rfl) ?_
  try simp only [opv, n1, n2, n3, n4, Value.cells]
  refine s_go (s_pick_t) ?_
  try simp only [opv, n1, n2, n3, n4, Value.cells]
  refine s_go (s_move) ?_
  try simp only [opv, n1, n2, n3, n4, Value.cells]
  refine g_off (yi (t := 13) rfl rfl) ?_
  try simp only [opv, n1, n2, n3, n4, Value.cells]
  refine g_off (yi (t := 13) rfl rfl) ?_
  try simp only [opv, n1, n2, n3, n4, Value.cells]
  refine s_go (s_pick_t) ?_
  try simp only [opv, n1, n2, n3, n4, Value.cells]
  refine s_go (s_assign) ?_
  try simp only [opv, n1, n2, n3, n4, Value.cells]
  refine x_nil ?_
  refine hK2 _ _ ?_
  refine x_ret ?_
  refine r_tmp rfl ?_
  exact ⟨congrArg Value.bool (by unfold isOth; exact (decide_eq_true (by omega)).symm), hS.ext_of⟩
 ·
  try simp only [n3, n4]
  try simp only [decide_eq_true_eq, decide_eq_false_iff_not, Bool.not_eq_true', Bool.not_eq_false', Int.not_lt, Int.not_le, ne_eq, Decidable.not_not] at hp1
  refine g_on (yi (t := 5) rfl rfl) ?_
  refine s_go (s_move) ?_
  try simp only [opv, n1, n2, n3, n4, Value.cells]
  refine g_on (yi (t := 5) rfl rfl) ?_
  refine s_go (s_geq) ?_
  try simp only [opv, n1, n2, n3, n4, Value.cells]
  refine g_on (yi (t := 5) rfl rfl) ?_
  refine s_go (s_move) ?_
  try simp only [opv, n1, n2, n3, n4, Value.cells]
  refine s_part 8 rfl (fun hp2 => ?_) (fun hp2 => ?_)
  ·
   try simp only [n3, n4]
   try simp only [decide_eq_true_eq, decide_eq_false_iff_not, Bool.not_eq_true', Bool.not_eq_false', Int.not_lt, Int.not_le, ne_eq, Decidable.not_not] at hp2
   refine g_on (yi (t := 8) rfl rfl) ?_
   refine s_go (s_move) ?_
   try simp only [opv, n1, n2, n3, n4, Value.cells]
   refine g_on (yi (t := 8) rfl rfl) ?_
   refine s_go (s_leq) ?_
   try simp only [opv, n1, n2, n3, n4, Value.cells]
   refine g_on (yi (t := 5) rfl rfl) ?_
   refine s_go (s_pick_t) ?_
   try simp only [opv, n1, n2, n3, n4, Value.cells]
   refine s_go (s_pick_f) ?_
   try simp only [opv, n1, n2, n3, n4, Value.cells]
   refine s_go (s_move) ?_
   try simp only [opv, n1, n2, n3, n4, Value.cells]
   refine s_part 13 rfl (fun hp3 => ?_) (fun hp3 => ?_)
   ·
    try simp only [n3, n4]
    try simp only [decide_eq_true_eq, decide_eq_false_iff_not, Bool.not_eq_true', Bool.not_eq_false', Int.not_lt, Int.not_le, ne_eq, Decidable.not_not] at hp3
    refine g_off (yi (t := 13) rfl rfl) ?_
    try simp only [opv, n1, n2, n3, n4, Value.cells]
    refine g_off (yi (t := 13) rfl rfl) ?_
    try simp only [opv, n1, n2, n3, n4, Value.cells]
    refine s_go (s_pick_t) ?_
    try simp only [opv, n1, n2, n3, n4, Value.cells]
    refine s_go (s_assign) ?_
    try simp only [opv, n1, n2, n3, n4, Value.cells]
    refine x_nil ?_
    refine hK2 _ _ ?_
    refine x_ret ?_
    refine r_tmp rfl ?_
    exact ⟨congrArg Value.bool (by unfold isOth; exact (decide_eq_true (by omega)).symm), hS.ext_of⟩
   ·
    try simp only [n3, n4]
    try simp only [decide_eq_true_eq, decide_eq_false_iff_not, Bool.not_eq_true', Bool.not_eq_false', Int.not_lt, Int.not_le, ne_eq, Decidable.not_not] at hp3
    refine g_on (yi (t := 13) rfl rfl) ?_
    refine s_go (s_move) ?_
    try simp only [opv, n1, n2, n3, n4, Value.cells]
    refine g_on (yi (t := 13) rfl rfl) ?_
    refine s_go (s_eql) ?_
    try simp only [opv, n1, n2, n3, n4, Value.cells]
    refine s_go (s_pick_f) ?_
    try simp only [opv, n1, n2, n3, n4, Value.cells]
    refine s_go (s_assign) ?_
    try simp only [opv, n1, n2, n3, n4, Value.cells]
    refine x_nil ?_
    refine hK2 _ _ ?_
    refine x_ret ?_
    refine r_tmp rfl ?_
    exact ⟨congrArg Value.bool (by unfold isOth; exact decide_eq_decide.2 (by omega)), hS.ext_of⟩
  ·
   try simp only [n3, n4]
   try simp only [decide_eq_true_eq, decide_eq_false_iff_not, Bool.not_eq_true', Bool.not_eq_false', Int.not_lt, Int.not_le, ne_eq, Decidable.not_not] at hp2
   refine g_off (yi (t := 8) rfl rfl) ?_
   try simp only [opv, n1, n2, n3, n4, Value.cells]
   refine g_off (yi (t := 8) rfl rfl) ?_
   try simp only [opv, n1, n2, n3, n4, Value.cells]
   refine g_on (yi (t := 5) rfl rfl) ?_
   refine s_go (s_pick_f) ?_
   try simp only [opv, n1, n2, n3, n4, Value.cells]
   refine s_go (s_pick_f) ?_
   try simp only [opv, n1, n2, n3, n4, Value.cells]
   refine s_go (s_move) ?_
   try simp only [opv, n1, n2, n3, n4, Value.cells]
   refine g_on (yi (t := 13) rfl rfl) ?_
   refine s_go (s_move) ?_
   try simp only [opv, n1, n2, n3, n4, Value.cells]
   refine g_on (yi (t := 13) rfl rfl) ?_
   refine s_go (s_eql) ?_
   try simp only [opv, n1, n2, n3, n4, Value.cells]
   refine s_go (s_pick_f) ?_
   try simp only [opv, n1, n2, n3, n4, Value.cells]
   refine s_go (s_assign) ?_
   try simp only [opv, n1, n2, n3, n4, Value.cells]
   refine x_nil ?_
   refine hK2 _ _ ?_
   refine x_ret ?_
   refine r_tmp rfl ?_
   exact ⟨congrArg Value.bool (by unfold isOth; exact decide_eq_decide.2 (by omega)), hS.ext_of⟩
theorem c_nameSize (l : List Int) (hl : l.length = 8) (hw : Byt l)  (w0 : World) :
    CallR Tryz.prog 137 #[.agg (ic .u8 l)] w0 fun v w' => v = .int .i64 (nsz l : Int) ∧ Ext w0 w' := by
 have hS : St NoB w0 w0 [] := St.start w0
 refine c_enter (l := [.agg (ic .u8 l), undef, undef, undef, undef, undef, undef, undef, undef, undef, undef, undef, undef, undef]) Tryz.func137 rfl (by simp only [Tryz.ntmps137, List.size_toArray, List.length_cons, List.length_nil, Nat.reduceAdd, Nat.reduceSub, Array.replicate_succ, Array.replicate_zero, List.push_toArray, List.append_toArray, List.nil_append, List.cons_append]) ?_
 refine x_seq fun K1 hK1 => ?_
 refine x_region ?_
 refine m_box hS (fun w1 g1 hS => ?_)
 try simp only [opv, n1, n2, n3, n4, Value.cells, Array.toArray_toList] at hS ⊢
 refine s_go (s_assign) ?_
 try simp only [opv, n1, n2, n3, n4, Value.cells]
 refine x_nil ?_
 refine hK1 _ _ ?_
 refine x_seq fun K2 hK2 => ?_
 refine x_seq fun K3 hK3 => ?_
 refine x_region ?_
 refine s_go (m_load_row Tryz.underlying41 (hi := ti41) (hS := hS)) ?_
 try simp only [opv, n1, n2, n3, n4, Value.cells, List.getElem_toArray, List.getElem_cons_zero, List.getElem_cons_succ]
 refine s_go (s_move) ?_
 try simp only [opv, n1, n2, n3, n4, Value.cells]
 refine x_nil ?_
 refine hK3 _ _ ?_
 refine x_block ?_
 refine x_loop [2, 3, 4, 6, 7, 8, 9, 10, 11, 12, 13] (fun m f w => ∃ k : Nat, k ≤ 8 ∧ m = 8 - k ∧ f 6 = .int .i64 (k : Int) ∧ (∀ j, j < k → l.getD j 0 ≠ 0) ∧ St NoB w0 w []) (8) ?init1 (fun m1 f1 wl1 hI => ?_)
 case init1 =>
  try simp only [opv, n1, n2, n3, n4, Value.cells]
  exact ⟨0, by omega, rfl, rfl, fun j hj => absurd hj (by omega), hS.sel .nil⟩
 obtain ⟨k, hk, hm, h6, hz, hS⟩ := hI
 simp only [clob, List.foldl, n3, n4, h6]
 refine x_seq fun K4 hK4 => ?_
 refine x_region ?_
 refine s_go (s_lss) ?_
 try simp only [opv, n1, n2, n3, n4, Value.cells]
 refine x_nil ?_
 refine hK4 _ _ ?_
 refine x_seq fun K5 hK5 => ?_
 refine x_cond (ht := fun hc1 => ?_) (hf := fun hc1 => ?_)
 ·
  try simp only [decide_eq_true_eq, decide_eq_false_iff_not, Bool.not_eq_true', Bool.not_eq_false', Int.not_lt, Int.not_le, ne_eq, Decidable.not_not, bne_iff_ne, beq_iff_eq, not_true_eq_false, not_false_eq_true] at hc1
  refine x_skip ?_
  refine hK5 _ _ ?_
  refine x_seq fun K6 hK6 => ?_
  refine x_block ?_
  refine x_seq fun K7 hK7 => ?_
  refine x_region ?_
  refine s_go (s_move) ?_
  try simp only [opv, n1, n2, n3, n4, Value.cells]
  refine s_go (s_index_one Tryz.underlying41 ti5 Tryz.underlying5) ?_
  try simp only [opv, n1, n2, n3, n4, Value.cells, Nat.mul_one, Nat.zero_add, Int.toNat_natCast, Int.reduceToNat]
  refine s_go (s_assign) ?_
  try simp only [opv, n1, n2, n3, n4, Value.cells]
  refine s_go (s_assign) ?_
  try simp only [opv, n1, n2, n3, n4, Value.cells]
  refine x_nil ?_
  refine hK7 _ _ ?_
  refine x_seq fun K8 hK8 => ?_
  refine x_region ?_
  refine s_go (s_move) ?_
  try simp only [opv, n1, n2, n3, n4, Value.cells]
  refine s_go (s_eql) ?_
  try simp only [opv, n1, n2, n3, n4, Value.cells]
  refine x_nil ?_
  refine hK8 _ _ ?_
  refine x_cond (ht := fun hc2 => ?_) (hf := fun hc2 => ?_)
  ·
   try simp only [decide_eq_true_eq, decide_eq_false_iff_not, Bool.not_eq_true', Bool.not_eq_false', Int.not_lt, Int.not_le, ne_eq, Decidable.not_not, bne_iff_ne, beq_iff_eq, not_true_eq_false, not_false_eq_true] at hc2
   refine x_seq fun K9 hK9 => ?_
   refine x_region ?_
   refine s_go (s_move) ?_
   try simp only [opv, n1, n2, n3, n4, Value.cells]
   refine s_go (s_assign) ?_
   try simp only [opv, n1, n2, n3, n4, Value.cells]
   refine x_nil ?_
   refine hK9 _ _ ?_
   refine x_ret ?_
   refine r_tmp rfl ?_
   exact ⟨NU (nsz_of (by omega) hz (.inr hc2)).symm, hS.ext_of⟩
  ·
   try simp only [decide_eq_true_eq, decide_eq_false_iff_not, Bool.not_eq_true', Bool.not_eq_false', Int.not_lt, Int.not_le, ne_eq, Decidable.not_not, bne_iff_ne, beq_iff_eq, not_true_eq_false, not_false_eq_true] at hc2
   refine x_skip ?_
   refine hK6 _ _ ?_
   refine x_region ?_
   refine s_go (s_add (hc := by exact wr_i64 (by omega) (by omega))) ?_
   try simp only [opv, n1, n2, n3, n4, Value.cells]
   refine s_go (s_move) ?_
   try simp only [opv, n1, n2, n3, n4, Value.cells]
   refine x_nil ?_
   refine loop_back (m' := 8 - (k + 1)) (by simp only [clob, List.foldl, n1, n2, n3, n4]) ?_ ?_
   · try simp only [opv, n1, n2, n3, n4, Value.cells]
     exact ⟨k + 1, by omega, by omega, by rfl, fun j hj => by rcases Nat.lt_or_eq_of_le (Nat.le_of_lt_succ hj) with h | h; exact hz j h; subst h; exact hc2, hS⟩
   · omega
 ·
  try simp only [decide_eq_true_eq, decide_eq_false_iff_not, Bool.not_eq_true', Bool.not_eq_false', Int.not_lt, Int.not_le, ne_eq, Decidable.not_not, bne_iff_ne, beq_iff_eq, not_true_eq_false, not_false_eq_true] at hc1
  obtain rfl : k = 8 := by omega
  refine x_exit (look_here ?_)
  refine hK2 _ _ ?_
  refine x_seq fun K10 hK10 => ?_
  refine x_region ?_
  refine s_go (s_assign) ?_
  try simp only [opv, n1, n2, n3, n4, Value.cells]
  refine x_nil ?_
  refine hK10 _ _ ?_
  refine x_ret ?_
  refine r_tmp rfl ?_
  exact ⟨NU (nsz_of (l := l) (k := 8) (by omega) hz (.inl hl.symm)).symm, hS.ext_of⟩
theorem c_nameAll (w0 : World) (A : Option Addr) (n c : Nat) (l : List Int) (hr : Rd w0 A 1 n (l.map (Value.int .u8))) (hl : l.length = n) (hw : Byt l) (hn : n ≤ 1000) (p : Int → Bool) (f : FuncId) (he : Enters Tryz.prog f) (H : ∀ (w : World) (b : Int), 0 ≤ b ∧ b ≤ 255 → CallR Tryz.prog f #[.int .u8 b] w fun v w' => v = .bool (p b) ∧ Ext w w') :
    CallR Tryz.prog 139 #[.slice A n c, .func (.func f) #[] #[]] w0 fun v w' => v = .bool (l.all p) ∧ Ext w0 w' := by
 have hS := St.rd1 (S := NoB) hr
 refine c_enter (l := [.slice A n c, .func (.func f) #[] #[], undef, undef, undef, undef, undef, undef, undef, undef, undef, undef, undef, undef, undef, undef, undef, undef]) Tryz.func139 rfl (by simp only [Tryz.ntmps139, List.size_toArray, List.length_cons, List.length_nil, Nat.reduceAdd, Nat.reduceSub, Array.replicate_succ, Array.replicate_zero, List.push_toArray, List.append_toArray, List.nil_append, List.cons_append]) ?_
 refine x_seq fun K1 hK1 => ?_
 refine x_region ?_
 refine s_go (s_assign) ?_
 try simp only [opv, n1, n2, n3, n4, Value.cells]
 refine x_nil ?_
 refine hK1 _ _ ?_
 refine x_seq fun K2 hK2 => ?_
 refine x_seq fun K3 hK3 => ?_
 refine x_region ?_
 refine s_go (s_move) ?_
 try simp only [opv, n1, n2, n3, n4, Value.cells]
 refine s_go (s_len_sl Tryz.underlying73) ?_
 try simp only [opv, n1, n2, n3, n4, Value.cells]
 refine s_go (s_move) ?_
 try simp only [opv, n1, n2, n3, n4, Value.cells]
 refine x_nil ?_
 refine hK3 _ _ ?_
 refine x_block ?_
 refine x_loop [4, 6, 9, 10, 11, 12, 13, 14, 15, 16, 17] (fun m f w => ∃ k : Nat, k ≤ n ∧ m = n - k ∧ f 9 = .int .i64 (k : Int) ∧ (l.take k).all p = true ∧ St NoB w0 w [.rd A 1 n (l.map (Value.int .u8))]) (n) ?init1 (fun m1 f1 wl1 hI => ?_)
 case init1 =>
  try simp only [opv, n1, n2, n3, n4, Value.cells]
  exact ⟨0, by omega, rfl, rfl, rfl, hS⟩
 obtain ⟨k, hk, hm, h9, hz, hS⟩ := hI
 simp only [clob, List.foldl, n3, n4, h9]
 refine x_seq fun K4 hK4 => ?_
 refine x_region ?_
 refine s_go (s_lss) ?_
 try simp only [opv, n1, n2, n3, n4, Value.cells]
 refine x_nil ?_
 refine hK4 _ _ ?_
 refine x_seq fun K5 hK5 => ?_
 refine x_cond (ht := fun hc1 => ?_) (hf := fun hc1 => ?_)
 ·
  try simp only [decide_eq_true_eq, decide_eq_false_iff_not, Bool.not_eq_true', Bool.not_eq_false', Int.not_lt, Int.not_le, ne_eq, Decidable.not_not, bne_iff_ne, beq_iff_eq, not_true_eq_false, not_false_eq_true] at hc1
  refine x_skip ?_
  refine hK5 _ _ ?_
  refine x_seq fun K6 hK6 => ?_
  refine x_block ?_
  refine x_seq fun K7 hK7 => ?_
  refine x_region ?_
  refine s_go (m_indexAddr_rd Tryz.underlying73 ti5 (hS := hS)) ?_
  try simp only [opv, n1, n2, n3, n4, Value.cells, Nat.mul_one, Nat.zero_add, Int.toNat_natCast, Int.reduceToNat]
  refine s_go (m_load_rd Tryz.underlying5 (hS := hS)) ?_
  try simp only [opv, n1, n2, n3, n4, Value.cells, List.getElem_toArray, List.getElem_cons_zero, List.getElem_cons_succ]
  refine s_go (s_assign) ?_
  try simp only [opv, n1, n2, n3, n4, Value.cells]
  refine x_nil ?_
  refine hK7 _ _ ?_
  refine x_seq fun K8 hK8 => ?_
  refine x_region ?_
  refine s_go (s_move) ?_
  try simp only [opv, n1, n2, n3, n4, Value.cells]
  refine s_go (s_move) ?_
  try simp only [opv, n1, n2, n3, n4, Value.cells]
  refine s_callv (hv := rfl) he ?_
  try simp only [opv, n1, n2, n3, n4, Value.cells, List.map_toArray, List.map_cons, List.map_nil, List.append_toArray, List.cons_append, List.nil_append, Array.append_empty]
  refine CallR.mono (H _ _ (hw.get k)) ?_
  rintro _ w1 ⟨rfl, hE1⟩
  replace hS := hS.ext hE1
  try simp only [opv, n1, n2, n3, n4, Value.cells]
  refine s_go (s_not) ?_
  try simp only [opv, n1, n2, n3, n4, Value.cells]
  refine x_nil ?_
  refine hK8 _ _ ?_
  refine x_cond (ht := fun hc2 => ?_) (hf := fun hc2 => ?_)
  ·
   try simp only [decide_eq_true_eq, decide_eq_false_iff_not, Bool.not_eq_true', Bool.not_eq_false', Int.not_lt, Int.not_le, ne_eq, Decidable.not_not, bne_iff_ne, beq_iff_eq, not_true_eq_false, not_false_eq_true] at hc2
   refine x_seq fun K9 hK9 => ?_
   refine x_region ?_
   refine s_go (s_assign) ?_
   try simp only [opv, n1, n2, n3, n4, Value.cells]
   refine x_nil ?_
   refine hK9 _ _ ?_
   refine x_ret ?_
   refine r_tmp rfl ?_
   exact ⟨congrArg Value.bool (all_not hc2 (by omega)).symm, hS.ext_of⟩
  ·
   try simp only [decide_eq_true_eq, decide_eq_false_iff_not, Bool.not_eq_true', Bool.not_eq_false', Int.not_lt, Int.not_le, ne_eq, Decidable.not_not, bne_iff_ne, beq_iff_eq, not_true_eq_false, not_false_eq_true] at hc2
   refine x_skip ?_
   refine hK6 _ _ ?_
   refine x_region ?_
   refine s_go (s_add (hc := by exact wr_i64 (by omega) (by omega))) ?_
   try simp only [opv, n1, n2, n3, n4, Value.cells]
   refine s_go (s_move) ?_
   try simp only [opv, n1, n2, n3, n4, Value.cells]
   refine x_nil ?_
   refine loop_back (m' := n - (k + 1)) (by simp only [clob, List.foldl, n1, n2, n3, n4]) ?_ ?_
   · try simp only [opv, n1, n2, n3, n4, Value.cells]
     exact ⟨k + 1, by omega, by omega, by rfl, by rw [take_succ_getD (by omega), List.all_append, hz]; simpa using hc2, hS⟩
   · omega
 ·
  try simp only [decide_eq_true_eq, decide_eq_false_iff_not, Bool.not_eq_true', Bool.not_eq_false', Int.not_lt, Int.not_le, ne_eq, Decidable.not_not, bne_iff_ne, beq_iff_eq, not_true_eq_false, not_false_eq_true] at hc1
  obtain rfl : k = n := by omega
  rw [← hl, List.take_length] at hz
  refine x_exit (look_here ?_)
  refine hK2 _ _ ?_
  refine x_seq fun K10 hK10 => ?_
  refine x_region ?_
  refine s_go (s_assign) ?_
  try simp only [opv, n1, n2, n3, n4, Value.cells]
  refine x_nil ?_
  refine hK10 _ _ ?_
  refine x_ret ?_
  refine r_tmp rfl ?_
  exact ⟨by rw [hz]; rfl, hS.ext_of⟩

theorem c_nameRight (l : List Int) (hl : l.length = 8) (hw : Byt l)  (w0 : World) :
    CallR Tryz.prog 72 #[.agg (ic .u8 l)] w0 fun v w' => v = .bool (nright l) ∧ Ext w0 w' := by
 have hS : St NoB w0 w0 [] := St.start w0
 refine c_enter (l := [.agg (ic .u8 l), undef, undef, undef, undef, undef, undef, undef, undef, undef, undef, undef, undef, undef, undef, undef, undef, undef, undef]) Tryz.func72 rfl (by simp only [Tryz.ntmps72, List.size_toArray, List.length_cons, List.length_nil, Nat.reduceAdd, Nat.reduceSub, Array.replicate_succ, Array.replicate_zero, List.push_toArray, List.append_toArray, List.nil_append, List.cons_append]) ?_
 refine x_seq fun K1 hK1 => ?_
 refine x_region ?_
 refine m_box hS (fun w1 g1 hS => ?_)
 try simp only [opv, n1, n2, n3, n4, Value.cells, Array.toArray_toList] at hS ⊢
 refine s_go (s_assign) ?_
 try simp only [opv, n1, n2, n3, n4, Value.cells]
 refine x_nil ?_
 refine hK1 _ _ ?_
 refine x_seq fun K2 hK2 => ?_
 refine x_region ?_
 refine s_go (m_load_row Tryz.underlying41 (hi := ti41) (hS := hS)) ?_
 try simp only [opv, n1, n2, n3, n4, Value.cells, List.getElem_toArray, List.getElem_cons_zero, List.getElem_cons_succ]
 refine s_call en137 ?_
 try simp only [opv, n1, n2, n3, n4, Value.cells, List.map_toArray, List.map_cons, List.map_nil, List.append_toArray, List.cons_append, List.nil_append, Array.append_empty]
 refine CallR.mono (c_nameSize _ (by assumption) (by assumption) _) ?_
 rintro _ w2 ⟨rfl, hE2⟩
 replace hS := hS.ext hE2
 try simp only [opv, n1, n2, n3, n4, Value.cells]
 refine s_go (s_assign) ?_
 try simp only [opv, n1, n2, n3, n4, Value.cells]
 refine x_nil ?_
 refine hK2 _ _ ?_
 refine x_seq fun K3 hK3 => ?_
 refine x_region ?_
 have hs := nsz_le l
 refine s_go (m_indexAddr_arr Tryz.underlying41 ti5) ?_
 try simp only [opv, n1, n2, n3, n4, Value.cells, Nat.mul_one, Nat.zero_add, Int.toNat_natCast, Int.reduceToNat]
 refine s_go (m_load_obj Tryz.underlying5 (hS := hS)) ?_
 try simp only [opv, n1, n2, n3, n4, Value.cells, List.getElem_toArray, List.getElem_cons_zero, List.getElem_cons_succ]
 have hb0 := hw.get 0
 refine s_call en138 ?_
 try simp only [opv, n1, n2, n3, n4, Value.cells, List.map_toArray, List.map_cons, List.map_nil, List.append_toArray, List.cons_append, List.nil_append, Array.append_empty]
 refine CallR.mono (c_nameLetter _ (by assumption) _) ?_
 rintro _ w3 ⟨rfl, hE3⟩
 replace hS := hS.ext hE3
 try simp only [opv, n1, n2, n3, n4, Value.cells]
 refine s_go (s_move) ?_
 try simp only [opv, n1, n2, n3, n4, Value.cells]
 refine s_part 9 rfl (fun hp1 => ?_) (fun hp1 => ?_)
 ·
  try simp only [n3, n4]
  try simp only [decide_eq_true_eq, decide_eq_false_iff_not, Bool.not_eq_true', Bool.not_eq_false', Int.not_lt, Int.not_le, ne_eq, Decidable.not_not] at hp1
  refine g_on (yi (t := 9) rfl rfl) ?_
  refine s_go (s_move) ?_
  try simp only [opv, n1, n2, n3, n4, Value.cells]
  refine g_on (yi (t := 9) rfl rfl) ?_
  refine m_slice_arr (lo := 0) (hi := nsz l) Tryz.underlying41 ti5 (hlo := rfl) (hhi := ⟨_, rfl⟩) (hS := hS) (h := fun A1 hS => ?_)
  try simp only [← List.map_append, ← List.map_drop, ← List.map_take, Nat.mul_one, Nat.zero_mul, Nat.sub_zero, List.drop_zero, List.nil_append, Nat.zero_add] at hS ⊢
  try simp only [opv, n1, n2, n3, n4, Value.cells, Array.toArray_toList] at hS ⊢
  try simp only [ic, List.toList_toArray, ← List.map_take, ← List.map_drop] at hS
  refine g_on (yi (t := 9) rfl rfl) ?_
  refine s_call en139 ?_
  try simp only [opv, n1, n2, n3, n4, Value.cells, List.map_toArray, List.map_cons, List.map_nil, List.append_toArray, List.cons_append, List.nil_append, Array.append_empty]
  refine CallR.mono (c_nameAll _ _ _ _ (l.take (nsz l)) (hS.hasRd (by repeat (exact Has.head))) (by simp; omega) (hw.take _) (by omega) isOth _ en140 (fun w b hb => c_nameOther b hb w)) ?_
  rintro _ w4 ⟨rfl, hE4⟩
  replace hS := hS.ext hE4
  try simp only [opv, n1, n2, n3, n4, Value.cells]
  refine s_go (s_pick_t) ?_
  try simp only [opv, n1, n2, n3, n4, Value.cells]
  refine s_go (s_move) ?_
  try simp only [opv, n1, n2, n3, n4, Value.cells]
  refine s_part 14 rfl (fun hp2 => ?_) (fun hp2 => ?_)
  ·
   try simp only [n3, n4]
   try simp only [decide_eq_true_eq, decide_eq_false_iff_not, Bool.not_eq_true', Bool.not_eq_false', Int.not_lt, Int.not_le, ne_eq, Decidable.not_not] at hp2
   refine g_on (yi (t := 14) rfl rfl) ?_
   refine s_go (s_move) ?_
   try simp only [opv, n1, n2, n3, n4, Value.cells]
   refine g_on (yi (t := 14) rfl rfl) ?_
   refine m_slice_bx (lo := nsz l) (hi := 8) Tryz.underlying41 ti5 (hlo := ⟨_, rfl⟩) (hhi := rfl) (hS := hS) (h := fun A2 hS => ?_)
   try simp only [← List.map_append, ← List.map_drop, ← List.map_take, Nat.mul_one, Nat.zero_mul, Nat.sub_zero, List.drop_zero, List.nil_append, Nat.zero_add] at hS ⊢
   try simp only [opv, n1, n2, n3, n4, Value.cells, Array.toArray_toList] at hS ⊢
   try simp only [ic, List.toList_toArray, ← List.map_take, ← List.map_drop] at hS
   rw [show List.take (8 - nsz l) (List.drop (nsz l) l) = List.drop (nsz l) l from List.take_of_length_le (by simp; omega)] at hS
   refine g_on (yi (t := 14) rfl rfl) ?_
   refine s_call en139 ?_
   try simp only [opv, n1, n2, n3, n4, Value.cells, List.map_toArray, List.map_cons, List.map_nil, List.append_toArray, List.cons_append, List.nil_append, Array.append_empty]
   refine CallR.mono (c_nameAll _ _ _ _ (l.drop (nsz l)) (hS.hasRd (by repeat (exact Has.head))) (by simp; omega) (hw.drop _) (by omega) isZer _ en141 (fun w b hb => c_nameZero b hb w)) ?_
   rintro _ w5 ⟨rfl, hE5⟩
   replace hS := hS.ext hE5
   try simp only [opv, n1, n2, n3, n4, Value.cells]
   refine s_go (s_pick_t) ?_
   try simp only [opv, n1, n2, n3, n4, Value.cells]
   refine s_go (s_assign) ?_
   try simp only [opv, n1, n2, n3, n4, Value.cells]
   refine x_nil ?_
   refine hK3 _ _ ?_
   refine x_ret ?_
   refine r_tmp rfl ?_
   exact ⟨congrArg Value.bool (by simp only [nright, *, Bool.false_and, Bool.true_and]), hS.ext_of⟩
  ·
   try simp only [n3, n4]
   try simp only [decide_eq_true_eq, decide_eq_false_iff_not, Bool.not_eq_true', Bool.not_eq_false', Int.not_lt, Int.not_le, ne_eq, Decidable.not_not] at hp2
   refine g_off (yi (t := 14) rfl rfl) ?_
   try simp only [opv, n1, n2, n3, n4, Value.cells]
   refine g_off (yi (t := 14) rfl rfl) ?_
   try simp only [opv, n1, n2, n3, n4, Value.cells]
   refine g_off (yi (t := 14) rfl rfl) ?_
   try simp only [opv, n1, n2, n3, n4, Value.cells]
   refine s_go (s_pick_f) ?_
   try simp only [opv, n1, n2, n3, n4, Value.cells]
   refine s_go (s_assign) ?_
   try simp only [opv, n1, n2, n3, n4, Value.cells]
   refine x_nil ?_
   refine hK3 _ _ ?_
   refine x_ret ?_
   refine r_tmp rfl ?_
   exact ⟨congrArg Value.bool (by simp only [nright, *, Bool.false_and, Bool.true_and]), hS.ext_of⟩
 ·
  try simp only [n3, n4]
  try simp only [decide_eq_true_eq, decide_eq_false_iff_not, Bool.not_eq_true', Bool.not_eq_false', Int.not_lt, Int.not_le, ne_eq, Decidable.not_not] at hp1
  refine g_off (yi (t := 9) rfl rfl) ?_
  try simp only [opv, n1, n2, n3, n4, Value.cells]
  refine g_off (yi (t := 9) rfl rfl) ?_
  try simp only [opv, n1, n2, n3, n4, Value.cells]
  refine g_off (yi (t := 9) rfl rfl) ?_
  try simp only [opv, n1, n2, n3, n4, Value.cells]
  refine s_go (s_pick_f) ?_
  try simp only [opv, n1, n2, n3, n4, Value.cells]
  refine s_go (s_move) ?_
  try simp only [opv, n1, n2, n3, n4, Value.cells]
  refine g_off (yi (t := 14) rfl rfl) ?_
  try simp only [opv, n1, n2, n3, n4, Value.cells]
  refine g_off (yi (t := 14) rfl rfl) ?_
  try simp only [opv, n1, n2, n3, n4, Value.cells]
  refine g_off (yi (t := 14) rfl rfl) ?_
  try simp only [opv, n1, n2, n3, n4, Value.cells]
  refine s_go (s_pick_f) ?_
  try simp only [opv, n1, n2, n3, n4, Value.cells]
  refine s_go (s_assign) ?_
  try simp only [opv, n1, n2, n3, n4, Value.cells]
  refine x_nil ?_
  refine hK3 _ _ ?_
  refine x_ret ?_
  refine r_tmp rfl ?_
  exact ⟨congrArg Value.bool (by simp only [nright, *, Bool.false_and, Bool.true_and]), hS.ext_of⟩
theorem c_nameText (l : List Int) (hl : l.length = 8) (hw : Byt l)  (w0 : World) :
    CallR Tryz.prog 199 #[.agg (ic .u8 l)] w0 fun v w' => v = .string (strOf (nmTxt l)) ∧ Ext w0 w' := by
 have hS : St NoB w0 w0 [] := St.start w0
 refine c_enter (l := [.agg (ic .u8 l), undef, undef, undef, undef, undef, undef]) Tryz.func199 rfl (by simp only [Tryz.ntmps199, List.size_toArray, List.length_cons, List.length_nil, Nat.reduceAdd, Nat.reduceSub, Array.replicate_succ, Array.replicate_zero, List.push_toArray, List.append_toArray, List.nil_append, List.cons_append]) ?_
 refine x_seq fun K1 hK1 => ?_
 refine x_region ?_
 refine m_box hS (fun w1 g1 hS => ?_)
 try simp only [opv, n1, n2, n3, n4, Value.cells, Array.toArray_toList] at hS ⊢
 refine s_go (s_assign) ?_
 try simp only [opv, n1, n2, n3, n4, Value.cells]
 refine x_nil ?_
 refine hK1 _ _ ?_
 refine x_seq fun K2 hK2 => ?_
 refine x_region ?_
 refine s_go (m_load_row Tryz.underlying41 (hi := ti41) (hS := hS)) ?_
 try simp only [opv, n1, n2, n3, n4, Value.cells, List.getElem_toArray, List.getElem_cons_zero, List.getElem_cons_succ]
 refine s_call en137 ?_
 try simp only [opv, n1, n2, n3, n4, Value.cells, List.map_toArray, List.map_cons, List.map_nil, List.append_toArray, List.cons_append, List.nil_append, Array.append_empty]
 refine CallR.mono (c_nameSize _ (by assumption) (by assumption) _) ?_
 rintro _ w2 ⟨rfl, hE2⟩
 replace hS := hS.ext hE2
 try simp only [opv, n1, n2, n3, n4, Value.cells]
 have hs := nsz_le l
 refine m_slice_arr (lo := 0) (hi := nsz l) Tryz.underlying41 ti5 (hlo := rfl) (hhi := ⟨_, rfl⟩) (hS := hS) (h := fun A1 hS => ?_)
 try simp only [← List.map_append, ← List.map_drop, ← List.map_take, Nat.mul_one, Nat.zero_mul, Nat.sub_zero, List.drop_zero, List.nil_append, Nat.zero_add] at hS ⊢
 try simp only [opv, n1, n2, n3, n4, Value.cells, Array.toArray_toList] at hS ⊢
 try simp only [ic, List.toList_toArray, ← List.map_take, ← List.map_drop] at hS
 refine s_go (m_bytes_str Tryz.underlying73 Tryz.underlying9 Tryz.underlying5 (hS := hS)) ?_
 try simp only [opv, n1, n2, n3, n4, Value.cells]
 refine s_go (s_assign) ?_
 try simp only [opv, n1, n2, n3, n4, Value.cells]
 refine x_nil ?_
 refine hK2 _ _ ?_
 refine x_ret ?_
 refine r_tmp rfl ?_
 exact ⟨rfl, hS.ext_of⟩
theorem c_nameSome (l : List Int) (hl : l.length = 8) (hw : Byt l)  (w0 : World) :
    CallR Tryz.prog 73 #[.agg (ic .u8 l)] w0 fun v w' => v = .bool (!decide (l = nm0)) ∧ Ext w0 w' := by
 have hS : St NoB w0 w0 [] := St.start w0
 refine c_enter (l := [.agg (ic .u8 l), undef, undef, undef, undef, undef]) Tryz.func73 rfl (by simp only [Tryz.ntmps73, List.size_toArray, List.length_cons, List.length_nil, Nat.reduceAdd, Nat.reduceSub, Array.replicate_succ, Array.replicate_zero, List.push_toArray, List.append_toArray, List.nil_append, List.cons_append]) ?_
 refine x_seq fun K1 hK1 => ?_
 refine x_region ?_
 refine m_box hS (fun w1 g1 hS => ?_)
 try simp only [opv, n1, n2, n3, n4, Value.cells, Array.toArray_toList] at hS ⊢
 refine s_go (s_assign) ?_
 try simp only [opv, n1, n2, n3, n4, Value.cells]
 refine x_nil ?_
 refine hK1 _ _ ?_
 refine x_seq fun K2 hK2 => ?_
 refine x_region ?_
 refine s_go (m_load_row Tryz.underlying41 (hi := ti41) (hS := hS)) ?_
 try simp only [opv, n1, n2, n3, n4, Value.cells, List.getElem_toArray, List.getElem_cons_zero, List.getElem_cons_succ]
 refine s_go (s_build_arr (cells := #[.int .u8 0, .int .u8 0, .int .u8 0, .int .u8 0, .int .u8 0, .int .u8 0, .int .u8 0, .int .u8 0]) Tryz.underlying41 ti41 ti5 (hc := by simp only [List.map_toArray, List.map_cons, List.map_nil, opv, n1, n2, n3, n4, Value.cells, List.toList_toArray]; (repeat (refine fill_cons rfl rfl (Nat.le_of_ble_eq_true rfl) ?_)); rfl)) ?_
 try simp only [opv, n1, n2, n3, n4, Value.cells]
 rw [show (#[.int .u8 0, .int .u8 0, .int .u8 0, .int .u8 0, .int .u8 0, .int .u8 0, .int .u8 0, .int .u8 0] : Array Value) = ic .u8 nm0 from rfl]
 refine s_go (s_neq_agg eqv41 (hg := eg41) (hX := zi_ic (by assumption)) (hY := zi_ic (by rfl)) (h1 := by assumption) (h2 := by rfl)) ?_
 try simp only [opv, n1, n2, n3, n4, Value.cells]
 refine s_go (s_assign) ?_
 try simp only [opv, n1, n2, n3, n4, Value.cells]
 refine x_nil ?_
 refine hK2 _ _ ?_
 refine x_ret ?_
 refine r_tmp rfl ?_
 exact ⟨rfl, hS.ext_of⟩
theorem c_nameNumber (l : List Int) (hl : l.length = 8) (hw : Byt l)  (w0 : World) :
    CallR Tryz.prog 189 #[.agg (ic .u8 l)] w0 fun v w' => v = .int .u64 (numN l : Int) ∧ Ext w0 w' := by
 have hS : St NoB w0 w0 [] := St.start w0
 refine c_enter (l := [.agg (ic .u8 l), undef, undef, undef, undef, undef, undef, undef, undef, undef, undef, undef, undef, undef, undef, undef]) Tryz.func189 rfl (by simp only [Tryz.ntmps189, List.size_toArray, List.length_cons, List.length_nil, Nat.reduceAdd, Nat.reduceSub, Array.replicate_succ, Array.replicate_zero, List.push_toArray, List.append_toArray, List.nil_append, List.cons_append]) ?_
 refine x_seq fun K1 hK1 => ?_
 refine x_region ?_
 refine m_box hS (fun w1 g1 hS => ?_)
 try simp only [opv, n1, n2, n3, n4, Value.cells, Array.toArray_toList] at hS ⊢
 refine s_go (s_assign) ?_
 try simp only [opv, n1, n2, n3, n4, Value.cells]
 refine x_nil ?_
 refine hK1 _ _ ?_
 refine x_seq fun K2 hK2 => ?_
 refine x_seq fun K3 hK3 => ?_
 refine x_region ?_
 refine s_go (m_load_row Tryz.underlying41 (hi := ti41) (hS := hS)) ?_
 try simp only [opv, n1, n2, n3, n4, Value.cells, List.getElem_toArray, List.getElem_cons_zero, List.getElem_cons_succ]
 refine s_go (s_move) ?_
 try simp only [opv, n1, n2, n3, n4, Value.cells]
 refine x_nil ?_
 refine hK3 _ _ ?_
 refine x_block ?_
 refine x_loop [2, 4, 6, 7, 8, 9, 10, 11, 12, 13, 14] (fun m f w => ∃ k : Nat, k ≤ 8 ∧ m = 8 - k ∧ f 6 = .int .i64 (k : Int) ∧ f 2 = .int .u64 (numN (l.take k) : Int) ∧ St NoB w0 w []) (8) ?init1 (fun m1 f1 wl1 hI => ?_)
 case init1 =>
  try simp only [opv, n1, n2, n3, n4, Value.cells]
  exact ⟨0, by omega, rfl, rfl, rfl, hS.sel .nil⟩
 obtain ⟨k, hk, hm, h6, h2, hS⟩ := hI
 simp only [clob, List.foldl, n3, n4, h6, h2]
 have hby := hw.bt k
 have hnl := numN_lt hw k
 refine x_seq fun K4 hK4 => ?_
 refine x_region ?_
 refine s_go (s_lss) ?_
 try simp only [opv, n1, n2, n3, n4, Value.cells]
 refine x_nil ?_
 refine hK4 _ _ ?_
 refine x_seq fun K5 hK5 => ?_
 refine x_cond (ht := fun hc1 => ?_) (hf := fun hc1 => ?_)
 ·
  try simp only [decide_eq_true_eq, decide_eq_false_iff_not, Bool.not_eq_true', Bool.not_eq_false', Int.not_lt, Int.not_le, ne_eq, Decidable.not_not, bne_iff_ne, beq_iff_eq, not_true_eq_false, not_false_eq_true] at hc1
  refine x_skip ?_
  refine hK5 _ _ ?_
  refine x_seq fun K6 hK6 => ?_
  refine x_block ?_
  refine x_seq fun K7 hK7 => ?_
  refine x_region ?_
  refine s_go (s_index_one Tryz.underlying41 ti5 Tryz.underlying5) ?_
  try simp only [opv, n1, n2, n3, n4, Value.cells, Nat.mul_one, Nat.zero_add, Int.toNat_natCast, Int.reduceToNat]
  rw [hby.1]
  refine s_go (s_assign) ?_
  try simp only [opv, n1, n2, n3, n4, Value.cells]
  refine x_nil ?_
  refine hK7 _ _ ?_
  refine x_region ?_
  refine s_go (s_move) ?_
  try simp only [opv, n1, n2, n3, n4, Value.cells]
  refine s_go (s_shl (hc := shl_u64 (r := numN (l.take k)) (p := 256) (s := 256 * numN (l.take k)) (num_shl hnl (by omega)))) ?_
  try simp only [opv, n1, n2, n3, n4, Value.cells]
  refine s_go (s_move) ?_
  try simp only [opv, n1, n2, n3, n4, Value.cells]
  refine s_go (s_conv Tryz.underlying5 Tryz.underlying84 (hc := by exact wr_u64 (by omega) (by omega))) ?_
  try simp only [opv, n1, n2, n3, n4, Value.cells]
  refine s_go (s_bits (by simp) (hc := or_hi64 (n := 8) hby.2 (num_sum hnl hby.2 (by omega)))) ?_
  try simp only [opv, n1, n2, n3, n4, Value.cells]
  refine s_go (s_assign) ?_
  try simp only [opv, n1, n2, n3, n4, Value.cells]
  refine x_nil ?_
  refine hK6 _ _ ?_
  refine x_region ?_
  refine s_go (s_add (hc := by exact wr_i64 (by omega) (by omega))) ?_
  try simp only [opv, n1, n2, n3, n4, Value.cells]
  refine s_go (s_move) ?_
  try simp only [opv, n1, n2, n3, n4, Value.cells]
  refine x_nil ?_
  refine loop_back (m' := 8 - (k + 1)) (by simp only [clob, List.foldl, n1, n2, n3, n4]) ?_ ?_
  · try simp only [opv, n1, n2, n3, n4, Value.cells]
    exact ⟨k + 1, by omega, by omega, by rfl, by rw [numN_take (by omega)], hS⟩
  · omega
 ·
  try simp only [decide_eq_true_eq, decide_eq_false_iff_not, Bool.not_eq_true', Bool.not_eq_false', Int.not_lt, Int.not_le, ne_eq, Decidable.not_not, bne_iff_ne, beq_iff_eq, not_true_eq_false, not_false_eq_true] at hc1
  obtain rfl : k = 8 := by omega
  rw [show l.take 8 = l by rw [← hl]; exact List.take_length]
  refine x_exit (look_here ?_)
  refine hK2 _ _ ?_
  refine x_seq fun K8 hK8 => ?_
  refine x_region ?_
  refine s_go (s_move) ?_
  try simp only [opv, n1, n2, n3, n4, Value.cells]
  refine s_go (s_assign) ?_
  try simp only [opv, n1, n2, n3, n4, Value.cells]
  refine x_nil ?_
  refine hK8 _ _ ?_
  refine x_ret ?_
  refine r_tmp rfl ?_
  exact ⟨rfl, hS.ext_of⟩
theorem c_ref06Number (l : List Int) (hl : l.length = 8) (hw : Byt l)  (w0 : World) :
    CallR Tryz.prog 110 #[.agg (ic .u8 l)] w0 fun v w' => v = .int .u64 (numN l : Int) ∧ Ext w0 w' := by
 have hS : St NoB w0 w0 [] := St.start w0
 refine c_enter (l := [.agg (ic .u8 l), undef, undef, undef, undef, undef, undef, undef, undef, undef, undef, undef, undef, undef, undef, undef, undef]) Tryz.func110 rfl (by simp only [Tryz.ntmps110, List.size_toArray, List.length_cons, List.length_nil, Nat.reduceAdd, Nat.reduceSub, Array.replicate_succ, Array.replicate_zero, List.push_toArray, List.append_toArray, List.nil_append, List.cons_append]) ?_
 refine x_seq fun K1 hK1 => ?_
 refine x_region ?_
 refine m_box hS (fun w1 g1 hS => ?_)
 try simp only [opv, n1, n2, n3, n4, Value.cells, Array.toArray_toList] at hS ⊢
 refine s_go (s_assign) ?_
 try simp only [opv, n1, n2, n3, n4, Value.cells]
 refine x_nil ?_
 refine hK1 _ _ ?_
 refine x_seq fun K2 hK2 => ?_
 refine x_region ?_
 refine s_go (s_assign) ?_
 try simp only [opv, n1, n2, n3, n4, Value.cells]
 refine x_nil ?_
 refine hK2 _ _ ?_
 refine x_seq fun K3 hK3 => ?_
 refine x_seq fun K4 hK4 => ?_
 refine x_region ?_
 refine s_go (s_assign) ?_
 try simp only [opv, n1, n2, n3, n4, Value.cells]
 refine x_nil ?_
 refine hK4 _ _ ?_
 refine x_block ?_
 refine x_loop [3, 4, 5, 6, 7, 8, 9, 10, 11, 12, 13, 14, 15] (fun m f w => ∃ k : Nat, k ≤ 8 ∧ m = 8 - k ∧ f 4 = .int .i64 (k : Int) ∧ f 3 = .int .u64 (numN (l.take k) : Int) ∧ St NoB w0 w [.obj g1 (.cells (ic .u8 l) 41 (0, 0))]) (8) ?init1 (fun m1 f1 wl1 hI => ?_)
 case init1 =>
  try simp only [opv, n1, n2, n3, n4, Value.cells]
  exact ⟨0, by omega, rfl, rfl, rfl, hS⟩
 obtain ⟨k, hk, hm, h4, h3, hS⟩ := hI
 simp only [clob, List.foldl, n3, n4, h4, h3]
 have hby := hw.bt k
 have hnl := numN_lt hw k
 refine x_seq fun K5 hK5 => ?_
 refine x_seq fun K6 hK6 => ?_
 refine x_region ?_
 refine s_go (s_move) ?_
 try simp only [opv, n1, n2, n3, n4, Value.cells]
 refine s_go (s_lss) ?_
 try simp only [opv, n1, n2, n3, n4, Value.cells]
 refine x_nil ?_
 refine hK6 _ _ ?_
 refine x_cond (ht := fun hc1 => ?_) (hf := fun hc1 => ?_)
 ·
  try simp only [decide_eq_true_eq, decide_eq_false_iff_not, Bool.not_eq_true', Bool.not_eq_false', Int.not_lt, Int.not_le, ne_eq, Decidable.not_not, bne_iff_ne, beq_iff_eq, not_true_eq_false, not_false_eq_true] at hc1
  refine x_skip ?_
  refine hK5 _ _ ?_
  refine x_seq fun K7 hK7 => ?_
  refine x_block ?_
  refine x_region ?_
  refine s_go (s_move) ?_
  try simp only [opv, n1, n2, n3, n4, Value.cells]
  have hns := num_sum hnl hby.2 (by omega)
  refine s_go (s_mul (hc := mul_u64 (a := 256) (by omega))) ?_
  try simp only [opv, n1, n2, n3, n4, Value.cells]
  refine s_go (s_move) ?_
  try simp only [opv, n1, n2, n3, n4, Value.cells]
  refine s_go (m_indexAddr_arr Tryz.underlying41 ti5) ?_
  try simp only [opv, n1, n2, n3, n4, Value.cells, Nat.mul_one, Nat.zero_add, Int.toNat_natCast, Int.reduceToNat]
  refine s_go (m_load_obj Tryz.underlying5 (hS := hS)) ?_
  try simp only [opv, n1, n2, n3, n4, Value.cells, List.getElem_toArray, List.getElem_cons_zero, List.getElem_cons_succ]
  rw [hby.1]
  refine s_go (s_conv Tryz.underlying5 Tryz.underlying84 (hc := by exact wr_u64 (by omega) (by omega))) ?_
  try simp only [opv, n1, n2, n3, n4, Value.cells]
  refine s_go (s_add (hc := add_u64 (by omega))) ?_
  try simp only [opv, n1, n2, n3, n4, Value.cells]
  refine s_go (s_assign) ?_
  try simp only [opv, n1, n2, n3, n4, Value.cells]
  refine x_nil ?_
  refine hK7 _ _ ?_
  refine x_region ?_
  refine s_go (s_move) ?_
  try simp only [opv, n1, n2, n3, n4, Value.cells]
  refine s_go (s_add (hc := by exact wr_i64 (by omega) (by omega))) ?_
  try simp only [opv, n1, n2, n3, n4, Value.cells]
  refine s_go (s_assign) ?_
  try simp only [opv, n1, n2, n3, n4, Value.cells]
  refine x_nil ?_
  refine loop_back (m' := 8 - (k + 1)) (by simp only [clob, List.foldl, n1, n2, n3, n4]) ?_ ?_
  · try simp only [opv, n1, n2, n3, n4, Value.cells]
    exact ⟨k + 1, by omega, by omega, by rfl, by rw [numN_take (by omega)], hS⟩
  · omega
 ·
  try simp only [decide_eq_true_eq, decide_eq_false_iff_not, Bool.not_eq_true', Bool.not_eq_false', Int.not_lt, Int.not_le, ne_eq, Decidable.not_not, bne_iff_ne, beq_iff_eq, not_true_eq_false, not_false_eq_true] at hc1
  obtain rfl : k = 8 := by omega
  rw [show l.take 8 = l by rw [← hl]; exact List.take_length]
  refine x_exit (look_here ?_)
  refine hK3 _ _ ?_
  refine x_seq fun K8 hK8 => ?_
  refine x_region ?_
  refine s_go (s_move) ?_
  try simp only [opv, n1, n2, n3, n4, Value.cells]
  refine s_go (s_assign) ?_
  try simp only [opv, n1, n2, n3, n4, Value.cells]
  refine x_nil ?_
  refine hK8 _ _ ?_
  refine x_ret ?_
  refine r_tmp rfl ?_
  exact ⟨rfl, hS.ext_of⟩
theorem c_ref06Is (ns : List Int) (hw : Byt ns) (hn : ns.length ≤ 1000)  (w0 : World) :
    CallR Tryz.prog 142 #[.string (strOf ns)] w0 fun v w' => v = .bool (isN ns) ∧ Ext w0 w' := by
 have hS : St NoB w0 w0 [] := St.start w0
 refine c_enter (l := [.string (strOf ns), undef, undef, undef, undef, undef, undef, undef, undef, undef, undef, undef, undef, undef, undef, undef, undef, undef, undef, undef, undef, undef, undef, undef, undef, undef, undef, undef, undef]) Tryz.func142 rfl (by simp only [Tryz.ntmps142, List.size_toArray, List.length_cons, List.length_nil, Nat.reduceAdd, Nat.reduceSub, Array.replicate_succ, Array.replicate_zero, List.push_toArray, List.append_toArray, List.nil_append, List.cons_append]) ?_
 refine x_seq fun K1 hK1 => ?_
 refine x_region ?_
 refine s_go (s_assign) ?_
 try simp only [opv, n1, n2, n3, n4, Value.cells]
 refine x_nil ?_
 refine hK1 _ _ ?_
 refine x_seq fun K2 hK2 => ?_
 refine x_seq fun K3 hK3 => ?_
 refine x_region ?_
 refine s_go (s_move) ?_
 try simp only [opv, n1, n2, n3, n4, Value.cells]
 refine s_go (s_len_str Tryz.underlying9) ?_
 try simp only [opv, n1, n2, n3, n4, Value.cells]
 rw [strOf_size]
 refine s_go (s_lss) ?_
 try simp only [opv, n1, n2, n3, n4, Value.cells]
 refine s_go (s_move) ?_
 try simp only [opv, n1, n2, n3, n4, Value.cells]
 refine s_part 7 rfl (fun hp1 => ?_) (fun hp1 => ?_)
 ·
  try simp only [n3, n4]
  try simp only [decide_eq_true_eq, decide_eq_false_iff_not, Bool.not_eq_true', Bool.not_eq_false', Int.not_lt, Int.not_le, ne_eq, Decidable.not_not] at hp1
  refine g_off (yi (t := 7) rfl rfl) ?_
  try simp only [opv, n1, n2, n3, n4, Value.cells]
  refine g_off (yi (t := 7) rfl rfl) ?_
  try simp only [opv, n1, n2, n3, n4, Value.cells]
  refine g_off (yi (t := 7) rfl rfl) ?_
  try simp only [opv, n1, n2, n3, n4, Value.cells]
  refine s_go (s_pick_t) ?_
  try simp only [opv, n1, n2, n3, n4, Value.cells]
  refine s_go (s_move) ?_
  try simp only [opv, n1, n2, n3, n4, Value.cells]
  refine g_off (yi (t := 12) rfl rfl) ?_
  try simp only [opv, n1, n2, n3, n4, Value.cells]
  refine g_off (yi (t := 12) rfl rfl) ?_
  try simp only [opv, n1, n2, n3, n4, Value.cells]
  refine g_off (yi (t := 12) rfl rfl) ?_
  try simp only [opv, n1, n2, n3, n4, Value.cells]
  refine g_off (yi (t := 12) rfl rfl) ?_
  try simp only [opv, n1, n2, n3, n4, Value.cells]
  refine s_go (s_pick_t) ?_
  try simp only [opv, n1, n2, n3, n4, Value.cells]
  refine x_nil ?_
  refine hK3 _ _ ?_
  refine x_cond_t (h := ?_)
  have hI : isN ns = false := by simp only [isN, Bool.and_eq_false_iff, decide_eq_false_iff_not]; exact .inl (.inl (by omega))
  refine x_seq fun K4 hK4 => ?_
  refine x_region ?_
  refine s_go (s_assign) ?_
  try simp only [opv, n1, n2, n3, n4, Value.cells]
  refine x_nil ?_
  refine hK4 _ _ ?_
  refine x_ret ?_
  refine r_tmp rfl ?_
  exact ⟨by rw [hI]; rfl, hS.ext_of⟩
 ·
  try simp only [n3, n4]
  try simp only [decide_eq_true_eq, decide_eq_false_iff_not, Bool.not_eq_true', Bool.not_eq_false', Int.not_lt, Int.not_le, ne_eq, Decidable.not_not] at hp1
  refine g_on (yi (t := 7) rfl rfl) ?_
  refine s_go (s_move) ?_
  try simp only [opv, n1, n2, n3, n4, Value.cells]
  refine g_on (yi (t := 7) rfl rfl) ?_
  refine s_go (s_len_str Tryz.underlying9) ?_
  try simp only [opv, n1, n2, n3, n4, Value.cells]
  rw [strOf_size]
  refine g_on (yi (t := 7) rfl rfl) ?_
  refine s_go (s_gtr) ?_
  try simp only [opv, n1, n2, n3, n4, Value.cells]
  refine s_go (s_pick_f) ?_
  try simp only [opv, n1, n2, n3, n4, Value.cells]
  refine s_go (s_move) ?_
  try simp only [opv, n1, n2, n3, n4, Value.cells]
  refine s_part 12 rfl (fun hp2 => ?_) (fun hp2 => ?_)
  ·
   try simp only [n3, n4]
   try simp only [decide_eq_true_eq, decide_eq_false_iff_not, Bool.not_eq_true', Bool.not_eq_false', Int.not_lt, Int.not_le, ne_eq, Decidable.not_not] at hp2
   refine g_off (yi (t := 12) rfl rfl) ?_
   try simp only [opv, n1, n2, n3, n4, Value.cells]
   refine g_off (yi (t := 12) rfl rfl) ?_
   try simp only [opv, n1, n2, n3, n4, Value.cells]
   refine g_off (yi (t := 12) rfl rfl) ?_
   try simp only [opv, n1, n2, n3, n4, Value.cells]
   refine g_off (yi (t := 12) rfl rfl) ?_
   try simp only [opv, n1, n2, n3, n4, Value.cells]
   refine s_go (s_pick_t) ?_
   try simp only [opv, n1, n2, n3, n4, Value.cells]
   refine x_nil ?_
   refine hK3 _ _ ?_
   refine x_cond_t (h := ?_)
   have hI : isN ns = false := by simp only [isN, Bool.and_eq_false_iff, decide_eq_false_iff_not]; exact .inl (.inl (by omega))
   refine x_seq fun K5 hK5 => ?_
   refine x_region ?_
   refine s_go (s_assign) ?_
   try simp only [opv, n1, n2, n3, n4, Value.cells]
   refine x_nil ?_
   refine hK5 _ _ ?_
   refine x_ret ?_
   refine r_tmp rfl ?_
   exact ⟨by rw [hI]; rfl, hS.ext_of⟩
  ·
   try simp only [n3, n4]
   try simp only [decide_eq_true_eq, decide_eq_false_iff_not, Bool.not_eq_true', Bool.not_eq_false', Int.not_lt, Int.not_le, ne_eq, Decidable.not_not] at hp2
   refine g_on (yi (t := 12) rfl rfl) ?_
   refine s_go (s_move) ?_
   try simp only [opv, n1, n2, n3, n4, Value.cells]
   have hb0 := hw.get 0
   refine g_on (yi (t := 12) rfl rfl) ?_
   refine s_go (s_index_str Tryz.underlying9 (hb := strOf_get (a := ns) (i := 0) (by omega))) ?_
   try simp only [opv, n1, n2, n3, n4, Value.cells, Nat.mul_one, Nat.zero_add, Int.toNat_natCast, Int.reduceToNat]
   rw [u8_back hb0]
   refine g_on (yi (t := 12) rfl rfl) ?_
   refine s_call en187 ?_
   try simp only [opv, n1, n2, n3, n4, Value.cells, List.map_toArray, List.map_cons, List.map_nil, List.append_toArray, List.cons_append, List.nil_append, Array.append_empty]
   refine CallR.mono (c_ref06Letter _ (by assumption) _) ?_
   rintro _ w1 ⟨rfl, hE1⟩
   replace hS := hS.ext hE1
   try simp only [opv, n1, n2, n3, n4, Value.cells]
   refine g_on (yi (t := 12) rfl rfl) ?_
   refine s_go (s_not) ?_
   try simp only [opv, n1, n2, n3, n4, Value.cells]
   refine s_go (s_pick_f) ?_
   try simp only [opv, n1, n2, n3, n4, Value.cells]
   refine x_nil ?_
   refine hK3 _ _ ?_
   refine x_cond (ht := fun hc3 => ?_) (hf := fun hc3 => ?_)
   ·
    try simp only [decide_eq_true_eq, decide_eq_false_iff_not, Bool.not_eq_true', Bool.not_eq_false', Int.not_lt, Int.not_le, ne_eq, Decidable.not_not, bne_iff_ne, beq_iff_eq, not_true_eq_false, not_false_eq_true] at hc3
    have hI : isN ns = false := by simp only [isN, Bool.and_eq_false_iff, decide_eq_false_iff_not]; exact .inl (.inr hc3)
    refine x_seq fun K6 hK6 => ?_
    refine x_region ?_
    refine s_go (s_assign) ?_
    try simp only [opv, n1, n2, n3, n4, Value.cells]
    refine x_nil ?_
    refine hK6 _ _ ?_
    refine x_ret ?_
    refine r_tmp rfl ?_
    exact ⟨by rw [hI]; rfl, hS.ext_of⟩
   ·
    try simp only [decide_eq_true_eq, decide_eq_false_iff_not, Bool.not_eq_true', Bool.not_eq_false', Int.not_lt, Int.not_le, ne_eq, Decidable.not_not, bne_iff_ne, beq_iff_eq, not_true_eq_false, not_false_eq_true] at hc3
    have h0 : isLet (ns.getD 0 0) = true := by simpa only [Bool.not_eq_false] using hc3
    refine x_skip ?_
    refine hK2 _ _ ?_
    refine x_seq fun K7 hK7 => ?_
    refine x_seq fun K8 hK8 => ?_
    refine x_region ?_
    refine s_go (s_assign) ?_
    try simp only [opv, n1, n2, n3, n4, Value.cells]
    refine x_nil ?_
    refine hK8 _ _ ?_
    refine x_block ?_
    refine x_loop [2, 3, 18, 19, 20, 21, 22, 23, 24, 25, 26, 27, 28] (fun m f w => ∃ k : Nat, k ≤ ns.length ∧ m = ns.length - k ∧ f 3 = .int .i64 (k : Int) ∧ (ns.take k).all isOth = true ∧ St NoB w0 w []) (ns.length) ?init1 (fun m1 f1 wl1 hI => ?_)
    case init1 =>
     try simp only [opv, n1, n2, n3, n4, Value.cells]
     exact ⟨0, by omega, rfl, rfl, rfl, hS⟩
    obtain ⟨k, hk, hm, h3, hz, hS⟩ := hI
    simp only [clob, List.foldl, n3, n4, h3]
    have hbk := hw.get k
    refine x_seq fun K9 hK9 => ?_
    refine x_seq fun K10 hK10 => ?_
    refine x_region ?_
    refine s_go (s_move) ?_
    try simp only [opv, n1, n2, n3, n4, Value.cells]
    refine s_go (s_move) ?_
    try simp only [opv, n1, n2, n3, n4, Value.cells]
    refine s_go (s_len_str Tryz.underlying9) ?_
    try simp only [opv, n1, n2, n3, n4, Value.cells]
    rw [strOf_size]
    refine s_go (s_lss) ?_
    try simp only [opv, n1, n2, n3, n4, Value.cells]
    refine x_nil ?_
    refine hK10 _ _ ?_
    refine x_cond (ht := fun hc4 => ?_) (hf := fun hc4 => ?_)
    ·
     try simp only [decide_eq_true_eq, decide_eq_false_iff_not, Bool.not_eq_true', Bool.not_eq_false', Int.not_lt, Int.not_le, ne_eq, Decidable.not_not, bne_iff_ne, beq_iff_eq, not_true_eq_false, not_false_eq_true] at hc4
     refine x_skip ?_
     refine hK9 _ _ ?_
     refine x_seq fun K11 hK11 => ?_
     refine x_block ?_
     refine x_seq fun K12 hK12 => ?_
     refine x_region ?_
     refine s_go (s_move) ?_
     try simp only [opv, n1, n2, n3, n4, Value.cells]
     refine s_go (s_move) ?_
     try simp only [opv, n1, n2, n3, n4, Value.cells]
     refine s_go (s_index_str Tryz.underlying9 (hb := strOf_get (a := ns) (i := k) (by omega))) ?_
     try simp only [opv, n1, n2, n3, n4, Value.cells, Nat.mul_one, Nat.zero_add, Int.toNat_natCast, Int.reduceToNat]
     rw [u8_back hbk]
     refine s_call en188 ?_
     try simp only [opv, n1, n2, n3, n4, Value.cells, List.map_toArray, List.map_cons, List.map_nil, List.append_toArray, List.cons_append, List.nil_append, Array.append_empty]
     refine CallR.mono (c_ref06Other _ (by assumption) _) ?_
     rintro _ w2 ⟨rfl, hE2⟩
     replace hS := hS.ext hE2
     try simp only [opv, n1, n2, n3, n4, Value.cells]
     refine s_go (s_not) ?_
     try simp only [opv, n1, n2, n3, n4, Value.cells]
     refine x_nil ?_
     refine hK12 _ _ ?_
     refine x_cond (ht := fun hc5 => ?_) (hf := fun hc5 => ?_)
     ·
      try simp only [decide_eq_true_eq, decide_eq_false_iff_not, Bool.not_eq_true', Bool.not_eq_false', Int.not_lt, Int.not_le, ne_eq, Decidable.not_not, bne_iff_ne, beq_iff_eq, not_true_eq_false, not_false_eq_true] at hc5
      have hI : isN ns = false := by simp only [isN, Bool.and_eq_false_iff]; exact .inr (all_not (by simpa using hc5) (by omega))
      refine x_seq fun K13 hK13 => ?_
      refine x_region ?_
      refine s_go (s_assign) ?_
      try simp only [opv, n1, n2, n3, n4, Value.cells]
      refine x_nil ?_
      refine hK13 _ _ ?_
      refine x_ret ?_
      refine r_tmp rfl ?_
      exact ⟨by rw [hI]; rfl, hS.ext_of⟩
     ·
      try simp only [decide_eq_true_eq, decide_eq_false_iff_not, Bool.not_eq_true', Bool.not_eq_false', Int.not_lt, Int.not_le, ne_eq, Decidable.not_not, bne_iff_ne, beq_iff_eq, not_true_eq_false, not_false_eq_true] at hc5
      have hO : isOth (ns.getD k 0) = true := by simpa using hc5
      refine x_skip ?_
      refine hK11 _ _ ?_
      refine x_region ?_
      refine s_go (s_move) ?_
      try simp only [opv, n1, n2, n3, n4, Value.cells]
      refine s_go (s_add (hc := by exact wr_i64 (by omega) (by omega))) ?_
      try simp only [opv, n1, n2, n3, n4, Value.cells]
      refine s_go (s_assign) ?_
      try simp only [opv, n1, n2, n3, n4, Value.cells]
      refine x_nil ?_
      refine loop_back (m' := ns.length - (k + 1)) (by simp only [clob, List.foldl, n1, n2, n3, n4]) ?_ ?_
      · try simp only [opv, n1, n2, n3, n4, Value.cells]
        exact ⟨k + 1, by omega, by omega, by rfl, by rw [take_succ_getD (by omega), List.all_append, hz]; simpa using hO, hS⟩
      · omega
    ·
     try simp only [decide_eq_true_eq, decide_eq_false_iff_not, Bool.not_eq_true', Bool.not_eq_false', Int.not_lt, Int.not_le, ne_eq, Decidable.not_not, bne_iff_ne, beq_iff_eq, not_true_eq_false, not_false_eq_true] at hc4
     obtain rfl : k = ns.length := by omega
     rw [List.take_length] at hz
     have hI : isN ns = true := by simp only [isN, Bool.and_eq_true, decide_eq_true_eq]; exact ⟨⟨by omega, h0⟩, hz⟩
     refine x_exit (look_here ?_)
     refine hK7 _ _ ?_
     refine x_seq fun K14 hK14 => ?_
     refine x_region ?_
     refine s_go (s_assign) ?_
     try simp only [opv, n1, n2, n3, n4, Value.cells]
     refine x_nil ?_
     refine hK14 _ _ ?_
     refine x_ret ?_
     refine r_tmp rfl ?_
     exact ⟨by rw [hI]; rfl, hS.ext_of⟩
theorem c_ref06Text (l : List Int) (hl : l.length = 8) (hw : Byt l)  (w0 : World) :
    CallR Tryz.prog 143 #[.agg (ic .u8 l)] w0 fun v w' => v = .string (strOf (nmTxt l)) ∧ Ext w0 w' := by
 have hS : St NoB w0 w0 [] := St.start w0
 refine c_enter (l := [.agg (ic .u8 l), undef, undef, undef, undef, undef, undef, undef, undef, undef, undef, undef, undef, undef, undef, undef, undef, undef, undef, undef, undef, undef, undef]) Tryz.func143 rfl (by simp only [Tryz.ntmps143, List.size_toArray, List.length_cons, List.length_nil, Nat.reduceAdd, Nat.reduceSub, Array.replicate_succ, Array.replicate_zero, List.push_toArray, List.append_toArray, List.nil_append, List.cons_append]) ?_
 refine x_seq fun K1 hK1 => ?_
 refine x_region ?_
 refine m_box hS (fun w1 g1 hS => ?_)
 try simp only [opv, n1, n2, n3, n4, Value.cells, Array.toArray_toList] at hS ⊢
 refine s_go (s_assign) ?_
 try simp only [opv, n1, n2, n3, n4, Value.cells]
 refine x_nil ?_
 refine hK1 _ _ ?_
 refine x_seq fun K2 hK2 => ?_
 refine x_region ?_
 refine s_go (s_assign) ?_
 try simp only [opv, n1, n2, n3, n4, Value.cells]
 refine x_nil ?_
 refine hK2 _ _ ?_
 refine x_seq fun K3 hK3 => ?_
 refine x_seq fun K4 hK4 => ?_
 refine x_region ?_
 refine s_go (s_assign) ?_
 try simp only [opv, n1, n2, n3, n4, Value.cells]
 refine x_nil ?_
 refine hK4 _ _ ?_
 refine x_block ?_
 refine x_loop [3, 4, 5, 6, 7, 8, 9, 10, 11, 12, 13, 14, 15, 16, 17, 18, 19, 20, 21] (fun m f w => ∃ k : Nat, k ≤ 8 ∧ m = 8 - k ∧ f 4 = .int .i64 (k : Int) ∧ f 3 = .string (strOf (l.take k)) ∧ (∀ j, j < k → l.getD j 0 ≠ 0) ∧ St NoB w0 w [.obj g1 (.cells (ic .u8 l) 41 (0, 0))]) (8) ?init1 (fun m1 f1 wl1 hI => ?_)
 case init1 =>
  try simp only [opv, n1, n2, n3, n4, Value.cells]
  exact ⟨0, by omega, rfl, rfl, rfl, fun j hj => absurd hj (by omega), hS⟩
 obtain ⟨k, hk, hm, h4, h3, hz, hS⟩ := hI
 simp only [clob, List.foldl, n3, n4, h4, h3]
 refine x_seq fun K5 hK5 => ?_
 refine x_seq fun K6 hK6 => ?_
 refine x_region ?_
 refine s_go (s_move) ?_
 try simp only [opv, n1, n2, n3, n4, Value.cells]
 refine s_go (s_lss) ?_
 try simp only [opv, n1, n2, n3, n4, Value.cells]
 refine s_go (s_move) ?_
 try simp only [opv, n1, n2, n3, n4, Value.cells]
 refine s_part 7 rfl (fun hp1 => ?_) (fun hp1 => ?_)
 ·
  try simp only [n3, n4]
  try simp only [decide_eq_true_eq, decide_eq_false_iff_not, Bool.not_eq_true', Bool.not_eq_false', Int.not_lt, Int.not_le, ne_eq, Decidable.not_not] at hp1
  refine g_on (yi (t := 7) rfl rfl) ?_
  refine s_go (s_move) ?_
  try simp only [opv, n1, n2, n3, n4, Value.cells]
  refine g_on (yi (t := 7) rfl rfl) ?_
  refine s_go (m_indexAddr_arr Tryz.underlying41 ti5) ?_
  try simp only [opv, n1, n2, n3, n4, Value.cells, Nat.mul_one, Nat.zero_add, Int.toNat_natCast, Int.reduceToNat]
  refine g_on (yi (t := 7) rfl rfl) ?_
  refine s_go (m_load_obj Tryz.underlying5 (hS := hS)) ?_
  try simp only [opv, n1, n2, n3, n4, Value.cells, List.getElem_toArray, List.getElem_cons_zero, List.getElem_cons_succ]
  refine g_on (yi (t := 7) rfl rfl) ?_
  refine s_go (s_neq) ?_
  try simp only [opv, n1, n2, n3, n4, Value.cells]
  refine s_go (s_pick_t) ?_
  try simp only [opv, n1, n2, n3, n4, Value.cells]
  refine x_nil ?_
  refine hK6 _ _ ?_
  refine x_cond (ht := fun hc1 => ?_) (hf := fun hc1 => ?_)
  ·
   try simp only [decide_eq_true_eq, decide_eq_false_iff_not, Bool.not_eq_true', Bool.not_eq_false', Int.not_lt, Int.not_le, ne_eq, Decidable.not_not, bne_iff_ne, beq_iff_eq, not_true_eq_false, not_false_eq_true] at hc1
   refine x_skip ?_
   refine hK5 _ _ ?_
   refine x_seq fun K7 hK7 => ?_
   refine x_block ?_
   refine x_region ?_
   refine s_go (s_move) ?_
   try simp only [opv, n1, n2, n3, n4, Value.cells]
   refine s_go (s_move) ?_
   try simp only [opv, n1, n2, n3, n4, Value.cells]
   refine s_go (m_indexAddr_arr Tryz.underlying41 ti5) ?_
   try simp only [opv, n1, n2, n3, n4, Value.cells, Nat.mul_one, Nat.zero_add, Int.toNat_natCast, Int.reduceToNat]
   refine s_go (m_load_obj Tryz.underlying5 (hS := hS)) ?_
   try simp only [opv, n1, n2, n3, n4, Value.cells, List.getElem_toArray, List.getElem_cons_zero, List.getElem_cons_succ]
   refine m_buildRow (cells := #[_]) Tryz.underlying73 ti5 (hc := by simp only [List.map_toArray, List.map_cons, List.map_nil, opv, n1, n2, n3, n4, Value.cells, List.toList_toArray]; (repeat (refine fill_cons rfl rfl (Nat.le_of_ble_eq_true rfl) ?_)); rfl) (hS := hS) (h := fun w2 g2 hS => ?_)
   try simp only [opv, n1, n2, n3, n4, Value.cells, Array.toArray_toList] at hS ⊢
   replace hS := hS.obj_rd (sz := 1) (n := 1) rfl .head
   have hS : St NoB w0 w2 [.rd (some ⟨g2, 0, none⟩) 1 1 ([l.getD k 0].map (Value.int .u8)), .obj g1 (.cells (ic .u8 l) 41 (0, 0))] := hS
   refine s_go (m_bytes_str Tryz.underlying73 Tryz.underlying9 Tryz.underlying5 (hS := hS)) ?_
   try simp only [opv, n1, n2, n3, n4, Value.cells]
   refine s_go (s_add_str Tryz.underlying9 (hn := by rw [strOf_size, strOf_size]; simp; omega)) ?_
   try simp only [opv, n1, n2, n3, n4, Value.cells]
   rw [strOf_app]
   refine s_go (s_assign) ?_
   try simp only [opv, n1, n2, n3, n4, Value.cells]
   refine x_nil ?_
   refine hK7 _ _ ?_
   refine x_region ?_
   refine s_go (s_move) ?_
   try simp only [opv, n1, n2, n3, n4, Value.cells]
   refine s_go (s_add (hc := by exact wr_i64 (by omega) (by omega))) ?_
   try simp only [opv, n1, n2, n3, n4, Value.cells]
   refine s_go (s_assign) ?_
   try simp only [opv, n1, n2, n3, n4, Value.cells]
   refine x_nil ?_
   refine loop_back (m' := 8 - (k + 1)) (by simp only [clob, List.foldl, n1, n2, n3, n4]) ?_ ?_
   · try simp only [opv, n1, n2, n3, n4, Value.cells]
     exact ⟨k + 1, by omega, by omega, by rfl, by rw [take_succ_getD (by omega)], fun j hj => by rcases Nat.lt_or_eq_of_le (Nat.le_of_lt_succ hj) with h | h; exact hz j h; subst h; assumption, hS.sel (by repeat (first | exact Sel.nil | (refine Sel.cons (by repeat (first | exact Del.head | apply Del.tail)) ?_)))⟩
   · omega
  ·
   try simp only [decide_eq_true_eq, decide_eq_false_iff_not, Bool.not_eq_true', Bool.not_eq_false', Int.not_lt, Int.not_le, ne_eq, Decidable.not_not, bne_iff_ne, beq_iff_eq, not_true_eq_false, not_false_eq_true] at hc1
   have hT := nmTxt_of (l := l) (k := k) (by omega) hz (by exact .inr hc1)
   refine x_exit (look_here ?_)
   refine hK3 _ _ ?_
   refine x_seq fun K8 hK8 => ?_
   refine x_region ?_
   refine s_go (s_move) ?_
   try simp only [opv, n1, n2, n3, n4, Value.cells]
   refine s_go (s_assign) ?_
   try simp only [opv, n1, n2, n3, n4, Value.cells]
   refine x_nil ?_
   refine hK8 _ _ ?_
   refine x_ret ?_
   refine r_tmp rfl ?_
   exact ⟨by rw [← hT]; rfl, hS.ext_of⟩
 ·
  try simp only [n3, n4]
  try simp only [decide_eq_true_eq, decide_eq_false_iff_not, Bool.not_eq_true', Bool.not_eq_false', Int.not_lt, Int.not_le, ne_eq, Decidable.not_not] at hp1
  refine g_off (yi (t := 7) rfl rfl) ?_
  try simp only [opv, n1, n2, n3, n4, Value.cells]
  refine g_off (yi (t := 7) rfl rfl) ?_
  try simp only [opv, n1, n2, n3, n4, Value.cells]
  refine g_off (yi (t := 7) rfl rfl) ?_
  try simp only [opv, n1, n2, n3, n4, Value.cells]
  refine g_off (yi (t := 7) rfl rfl) ?_
  try simp only [opv, n1, n2, n3, n4, Value.cells]
  refine s_go (s_pick_f) ?_
  try simp only [opv, n1, n2, n3, n4, Value.cells]
  refine x_nil ?_
  refine hK6 _ _ ?_
  refine x_cond_f (h := ?_)
  have hT := nmTxt_of (l := l) (k := k) (by omega) hz (by exact .inl (by omega))
  refine x_exit (look_here ?_)
  refine hK3 _ _ ?_
  refine x_seq fun K9 hK9 => ?_
  refine x_region ?_
  refine s_go (s_move) ?_
  try simp only [opv, n1, n2, n3, n4, Value.cells]
  refine s_go (s_assign) ?_
  try simp only [opv, n1, n2, n3, n4, Value.cells]
  refine x_nil ?_
  refine hK9 _ _ ?_
  refine x_ret ?_
  refine r_tmp rfl ?_
  exact ⟨by rw [← hT]; rfl, hS.ext_of⟩
theorem c_ref06Pad (ns : List Int) (hw : Byt ns) (hn : ns.length ≤ 1000)  (w0 : World) :
    CallR Tryz.prog 144 #[.string (strOf ns)] w0 fun v w' => v = .agg (ic .u8 (padN ns)) ∧ Ext w0 w' := by
 have hS : St NoB w0 w0 [] := St.start w0
 refine c_enter (l := [.string (strOf ns), undef, undef, undef, undef, undef, undef, undef, undef, undef, undef, undef, undef, undef, undef, undef, undef, undef, undef, undef, undef]) Tryz.func144 rfl (by simp only [Tryz.ntmps144, List.size_toArray, List.length_cons, List.length_nil, Nat.reduceAdd, Nat.reduceSub, Array.replicate_succ, Array.replicate_zero, List.push_toArray, List.append_toArray, List.nil_append, List.cons_append]) ?_
 refine x_seq fun K1 hK1 => ?_
 refine x_region ?_
 refine m_alloc ti41 hS (fun w1 g1 hS => ?_)
 try simp only [opv, n1, n2, n3, n4, Value.cells, Array.toArray_toList] at hS ⊢
 refine x_nil ?_
 refine hK1 _ _ ?_
 refine x_seq fun K2 hK2 => ?_
 refine x_region ?_
 refine m_alloc ti41 hS (fun w2 g2 hS => ?_)
 try simp only [opv, n1, n2, n3, n4, Value.cells, Array.toArray_toList] at hS ⊢
 have hS : St NoB w0 w2 [.obj g2 (.cells (ic .u8 nm0) 41 (0, 0)), .obj g1 (.cells (ic .u8 nm0) 41 (0, 0))] := hS
 refine x_nil ?_
 refine hK2 _ _ ?_
 refine x_seq fun K3 hK3 => ?_
 refine x_seq fun K4 hK4 => ?_
 refine x_region ?_
 refine s_go (s_assign) ?_
 try simp only [opv, n1, n2, n3, n4, Value.cells]
 refine x_nil ?_
 refine hK4 _ _ ?_
 refine x_block ?_
 refine x_loop [4, 5, 6, 7, 8, 9, 10, 11, 12, 13, 14, 15, 16, 17, 18, 19] (fun m f w => ∃ k : Nat, k ≤ ns.length ∧ k ≤ 8 ∧ m = 8 - k ∧ f 4 = .int .i64 (k : Int) ∧ St NoB w0 w [.obj g2 (.cells (ic .u8 (padT ns k)) 41 (0, 0)), .obj g1 (.cells (ic .u8 nm0) 41 (0, 0))]) (8) ?init1 (fun m1 f1 wl1 hI => ?_)
 case init1 =>
  try simp only [opv, n1, n2, n3, n4, Value.cells]
  exact ⟨0, by omega, by omega, rfl, rfl, by rw [padT_zero]; exact hS⟩
 obtain ⟨k, hk, hk8, hm, h4, hS⟩ := hI
 simp only [clob, List.foldl, n3, n4, h4]
 have hpl := padT_len hk hk8
 have hbk := hw.get k
 have h0l : nm0.length = 8 := rfl
 refine x_seq fun K5 hK5 => ?_
 refine x_seq fun K6 hK6 => ?_
 refine x_region ?_
 refine s_go (s_move) ?_
 try simp only [opv, n1, n2, n3, n4, Value.cells]
 refine s_go (s_move) ?_
 try simp only [opv, n1, n2, n3, n4, Value.cells]
 refine s_go (s_len_str Tryz.underlying9) ?_
 try simp only [opv, n1, n2, n3, n4, Value.cells]
 rw [strOf_size]
 refine s_go (s_lss) ?_
 try simp only [opv, n1, n2, n3, n4, Value.cells]
 refine s_go (s_move) ?_
 try simp only [opv, n1, n2, n3, n4, Value.cells]
 refine s_part 9 rfl (fun hp1 => ?_) (fun hp1 => ?_)
 ·
  try simp only [n3, n4]
  try simp only [decide_eq_true_eq, decide_eq_false_iff_not, Bool.not_eq_true', Bool.not_eq_false', Int.not_lt, Int.not_le, ne_eq, Decidable.not_not] at hp1
  refine g_on (yi (t := 9) rfl rfl) ?_
  refine s_go (s_move) ?_
  try simp only [opv, n1, n2, n3, n4, Value.cells]
  refine g_on (yi (t := 9) rfl rfl) ?_
  refine s_go (s_lss) ?_
  try simp only [opv, n1, n2, n3, n4, Value.cells]
  refine s_go (s_pick_t) ?_
  try simp only [opv, n1, n2, n3, n4, Value.cells]
  refine x_nil ?_
  refine hK6 _ _ ?_
  refine x_cond (ht := fun hc1 => ?_) (hf := fun hc1 => ?_)
  ·
   try simp only [decide_eq_true_eq, decide_eq_false_iff_not, Bool.not_eq_true', Bool.not_eq_false', Int.not_lt, Int.not_le, ne_eq, Decidable.not_not, bne_iff_ne, beq_iff_eq, not_true_eq_false, not_false_eq_true] at hc1
   refine x_skip ?_
   refine hK5 _ _ ?_
   refine x_seq fun K7 hK7 => ?_
   refine x_block ?_
   refine x_region ?_
   refine s_go (s_move) ?_
   try simp only [opv, n1, n2, n3, n4, Value.cells]
   refine s_go (s_move) ?_
   try simp only [opv, n1, n2, n3, n4, Value.cells]
   refine s_go (s_move) ?_
   try simp only [opv, n1, n2, n3, n4, Value.cells]
   refine s_go (s_index_str Tryz.underlying9 (hb := strOf_get (a := ns) (i := k) (by omega))) ?_
   try simp only [opv, n1, n2, n3, n4, Value.cells, Nat.mul_one, Nat.zero_add, Int.toNat_natCast, Int.reduceToNat]
   rw [u8_back hbk]
   refine s_go (m_indexAddr_arr Tryz.underlying41 ti5) ?_
   try simp only [opv, n1, n2, n3, n4, Value.cells, Nat.mul_one, Nat.zero_add, Int.toNat_natCast, Int.reduceToNat]
   refine m_store_obj ti5 (hS := hS) (h := fun w3 hS => ?_)
   try simp only [opv, n1, n2, n3, n4, Value.cells, Array.toArray_toList] at hS ⊢
   refine x_nil ?_
   refine hK7 _ _ ?_
   refine x_region ?_
   refine s_go (s_move) ?_
   try simp only [opv, n1, n2, n3, n4, Value.cells]
   refine s_go (s_add (hc := by exact wr_i64 (by omega) (by omega))) ?_
   try simp only [opv, n1, n2, n3, n4, Value.cells]
   refine s_go (s_assign) ?_
   try simp only [opv, n1, n2, n3, n4, Value.cells]
   refine x_nil ?_
   refine loop_back (m' := 8 - (k + 1)) (by simp only [clob, List.foldl, n1, n2, n3, n4]) ?_ ?_
   · try simp only [opv, n1, n2, n3, n4, Value.cells]
     exact ⟨k + 1, by omega, by omega, by omega, by rfl, by rw [← padT_set (by omega) (by omega)]; exact hS⟩
   · omega
  ·
   try simp only [decide_eq_true_eq, decide_eq_false_iff_not, Bool.not_eq_true', Bool.not_eq_false', Int.not_lt, Int.not_le, ne_eq, Decidable.not_not, bne_iff_ne, beq_iff_eq, not_true_eq_false, not_false_eq_true] at hc1
   have hP := padT_all hk hk8 (by omega)
   rw [hP] at hS hpl
   refine x_exit (look_here ?_)
   refine hK3 _ _ ?_
   refine x_seq fun K8 hK8 => ?_
   refine x_region ?_
   refine s_go (m_load_row Tryz.underlying41 (hi := ti41) (hS := hS)) ?_
   try simp only [opv, n1, n2, n3, n4, Value.cells, List.getElem_toArray, List.getElem_cons_zero, List.getElem_cons_succ]
   refine m_store_obj ti41 (hS := hS) (h := fun w4 hS => ?_)
   try simp only [opv, n1, n2, n3, n4, Value.cells, Array.toArray_toList] at hS ⊢
   refine x_nil ?_
   refine hK8 _ _ ?_
   refine x_ret ?_
   refine r_cell_agg rfl Tryz.underlying41 ti41 (hS := hS) (hR := ?_)
   exact ⟨rfl, hS.ext_of⟩
 ·
  try simp only [n3, n4]
  try simp only [decide_eq_true_eq, decide_eq_false_iff_not, Bool.not_eq_true', Bool.not_eq_false', Int.not_lt, Int.not_le, ne_eq, Decidable.not_not] at hp1
  refine g_off (yi (t := 9) rfl rfl) ?_
  try simp only [opv, n1, n2, n3, n4, Value.cells]
  refine g_off (yi (t := 9) rfl rfl) ?_
  try simp only [opv, n1, n2, n3, n4, Value.cells]
  refine s_go (s_pick_f) ?_
  try simp only [opv, n1, n2, n3, n4, Value.cells]
  refine x_nil ?_
  refine hK6 _ _ ?_
  refine x_cond_f (h := ?_)
  have hP := padT_all hk hk8 (by omega)
  rw [hP] at hS hpl
  refine x_exit (look_here ?_)
  refine hK3 _ _ ?_
  refine x_seq fun K9 hK9 => ?_
  refine x_region ?_
  refine s_go (m_load_row Tryz.underlying41 (hi := ti41) (hS := hS)) ?_
  try simp only [opv, n1, n2, n3, n4, Value.cells, List.getElem_toArray, List.getElem_cons_zero, List.getElem_cons_succ]
  refine m_store_obj ti41 (hS := hS) (h := fun w5 hS => ?_)
  try simp only [opv, n1, n2, n3, n4, Value.cells, Array.toArray_toList] at hS ⊢
  refine x_nil ?_
  refine hK9 _ _ ?_
  refine x_ret ?_
  refine r_cell_agg rfl Tryz.underlying41 ti41 (hS := hS) (hR := ?_)
  exact ⟨rfl, hS.ext_of⟩
theorem c_ref06Right (l : List Int) (hl : l.length = 8) (hw : Byt l)  (w0 : World) :
    CallR Tryz.prog 74 #[.agg (ic .u8 l)] w0 fun v w' => v = .bool (nright l) ∧ Ext w0 w' := by
 have hS : St NoB w0 w0 [] := St.start w0
 refine c_enter (l := [.agg (ic .u8 l), undef, undef, undef, undef, undef, undef, undef, undef, undef, undef, undef, undef]) Tryz.func74 rfl (by simp only [Tryz.ntmps74, List.size_toArray, List.length_cons, List.length_nil, Nat.reduceAdd, Nat.reduceSub, Array.replicate_succ, Array.replicate_zero, List.push_toArray, List.append_toArray, List.nil_append, List.cons_append]) ?_
 refine x_seq fun K1 hK1 => ?_
 refine x_region ?_
 refine m_box hS (fun w1 g1 hS => ?_)
 try simp only [opv, n1, n2, n3, n4, Value.cells, Array.toArray_toList] at hS ⊢
 refine s_go (s_assign) ?_
 try simp only [opv, n1, n2, n3, n4, Value.cells]
 refine x_nil ?_
 refine hK1 _ _ ?_
 refine x_seq fun K2 hK2 => ?_
 refine x_quiet (by kernel_rfl) (by kernel_rfl) hS ?_
 have hs := nsz_le l
 have htl := nmTxt_len l
 have htb := nmTxt_byt hw
 have hpl := padN_len (nmTxt l)
 refine q_go (fun w hS => m_load_row Tryz.underlying41 (hi := ti41) (hS := hS)) ?_
 try simp only [opv, n1, n2, n3, n4, Value.cells, List.getElem_toArray, List.getElem_cons_zero, List.getElem_cons_succ]
 apply q_call en143
 case H =>
   intro w hS
   try simp only [opv, n1, n2, n3, n4, List.map_toArray, List.map_cons, List.map_nil, List.append_toArray, List.cons_append, List.nil_append, Array.append_empty]
   refine CallR.mono (c_ref06Text _ (by assumption) (by assumption) _) ?_
   rintro _ w1 ⟨rfl, hE⟩; exact ⟨rfl, hS.ext hE⟩
 try simp only [opv, n1, n2, n3, n4, Value.cells]
 apply q_call en142
 case H =>
   intro w hS
   try simp only [opv, n1, n2, n3, n4, List.map_toArray, List.map_cons, List.map_nil, List.append_toArray, List.cons_append, List.nil_append, Array.append_empty]
   refine CallR.mono (c_ref06Is _ htb (by omega) _) ?_
   rintro _ w1 ⟨rfl, hE⟩; exact ⟨rfl, hS.ext hE⟩
 try simp only [opv, n1, n2, n3, n4, Value.cells]
 refine q_go (fun w hS => s_move) ?_
 try simp only [opv, n1, n2, n3, n4, Value.cells]
 refine q_part 6 rfl (fun hp1 => ?_) (fun hp1 => ?_)
 ·
  try simp only [n3, n4]
  try simp only [decide_eq_true_eq, decide_eq_false_iff_not, Bool.not_eq_true', Bool.not_eq_false', Int.not_lt, Int.not_le, ne_eq, Decidable.not_not] at hp1
  refine q_on (yi (t := 6) rfl rfl) ?_
  refine q_go (fun w hS => m_load_row Tryz.underlying41 (hi := ti41) (hS := hS)) ?_
  try simp only [opv, n1, n2, n3, n4, Value.cells, List.getElem_toArray, List.getElem_cons_zero, List.getElem_cons_succ]
  refine q_on (yi (t := 6) rfl rfl) ?_
  apply q_call en143
  case H =>
    intro w hS
    try simp only [opv, n1, n2, n3, n4, List.map_toArray, List.map_cons, List.map_nil, List.append_toArray, List.cons_append, List.nil_append, Array.append_empty]
    refine CallR.mono (c_ref06Text _ (by assumption) (by assumption) _) ?_
    rintro _ w1 ⟨rfl, hE⟩; exact ⟨rfl, hS.ext hE⟩
  try simp only [opv, n1, n2, n3, n4, Value.cells]
  refine q_on (yi (t := 6) rfl rfl) ?_
  apply q_call en144
  case H =>
    intro w hS
    try simp only [opv, n1, n2, n3, n4, List.map_toArray, List.map_cons, List.map_nil, List.append_toArray, List.cons_append, List.nil_append, Array.append_empty]
    refine CallR.mono (c_ref06Pad _ htb (by omega) _) ?_
    rintro _ w1 ⟨rfl, hE⟩; exact ⟨rfl, hS.ext hE⟩
  try simp only [opv, n1, n2, n3, n4, Value.cells]
  refine q_on (yi (t := 6) rfl rfl) ?_
  refine q_go (fun w hS => m_load_row Tryz.underlying41 (hi := ti41) (hS := hS)) ?_
  try simp only [opv, n1, n2, n3, n4, Value.cells, List.getElem_toArray, List.getElem_cons_zero, List.getElem_cons_succ]
  refine q_on (yi (t := 6) rfl rfl) ?_
  refine q_go (fun w hS => s_eql_agg eqv41 (hg := eg41) (hX := zi_ic (by assumption)) (hY := zi_ic (by assumption)) (h1 := by assumption) (h2 := by assumption)) ?_
  try simp only [opv, n1, n2, n3, n4, Value.cells]
  refine q_go (fun w hS => s_pick_t) ?_
  try simp only [opv, n1, n2, n3, n4, Value.cells]
  refine q_go (fun w hS => s_assign) ?_
  try simp only [opv, n1, n2, n3, n4, Value.cells]
  clear hS
  refine q_nil fun w2 hS => ?_
  refine hK2 _ _ ?_
  refine x_ret ?_
  refine r_tmp rfl ?_
  exact ⟨congrArg Value.bool (by simp only [nright_eq hl, *, Bool.true_and, Bool.false_and]), hS.ext_of⟩
 ·
  try simp only [n3, n4]
  try simp only [decide_eq_true_eq, decide_eq_false_iff_not, Bool.not_eq_true', Bool.not_eq_false', Int.not_lt, Int.not_le, ne_eq, Decidable.not_not] at hp1
  refine q_off (yi (t := 6) rfl rfl) ?_
  try simp only [opv, n1, n2, n3, n4, Value.cells]
  refine q_off (yi (t := 6) rfl rfl) ?_
  try simp only [opv, n1, n2, n3, n4, Value.cells]
  refine q_off (yi (t := 6) rfl rfl) ?_
  try simp only [opv, n1, n2, n3, n4, Value.cells]
  refine q_off (yi (t := 6) rfl rfl) ?_
  try simp only [opv, n1, n2, n3, n4, Value.cells]
  refine q_off (yi (t := 6) rfl rfl) ?_
  try simp only [opv, n1, n2, n3, n4, Value.cells]
  refine q_go (fun w hS => s_pick_f) ?_
  try simp only [opv, n1, n2, n3, n4, Value.cells]
  refine q_go (fun w hS => s_assign) ?_
  try simp only [opv, n1, n2, n3, n4, Value.cells]
  clear hS
  refine q_nil fun w3 hS => ?_
  refine hK2 _ _ ?_
  refine x_ret ?_
  refine r_tmp rfl ?_
  exact ⟨congrArg Value.bool (by simp only [nright_eq hl, *, Bool.true_and, Bool.false_and]), hS.ext_of⟩
theorem c_nameLess (a b : List Int) (ha : a.length = 8) (hb : b.length = 8) (hwa : Byt a) (hwb : Byt b)  (w0 : World) :
    CallR Tryz.prog 235 #[.agg (ic .u8 a), .agg (ic .u8 b)] w0 fun v w' => v = .bool (decide (numN a < numN b)) ∧ Ext w0 w' := by
 have hS : St NoB w0 w0 [] := St.start w0
 refine c_enter (l := [.agg (ic .u8 a), .agg (ic .u8 b), undef, undef, undef, undef, undef, undef, undef, undef]) Tryz.func235 rfl (by simp only [Tryz.ntmps235, List.size_toArray, List.length_cons, List.length_nil, Nat.reduceAdd, Nat.reduceSub, Array.replicate_succ, Array.replicate_zero, List.push_toArray, List.append_toArray, List.nil_append, List.cons_append]) ?_
 refine x_seq fun K1 hK1 => ?_
 refine x_region ?_
 refine m_box hS (fun w1 g1 hS => ?_)
 try simp only [opv, n1, n2, n3, n4, Value.cells, Array.toArray_toList] at hS ⊢
 refine m_box hS (fun w2 g2 hS => ?_)
 try simp only [opv, n1, n2, n3, n4, Value.cells, Array.toArray_toList] at hS ⊢
 refine s_go (s_assign) ?_
 try simp only [opv, n1, n2, n3, n4, Value.cells]
 refine x_nil ?_
 refine hK1 _ _ ?_
 refine x_seq fun K2 hK2 => ?_
 refine x_quiet (by kernel_rfl) (by kernel_rfl) hS ?_
 refine q_go (fun w hS => m_load_row Tryz.underlying41 (hi := ti41) (hS := hS)) ?_
 try simp only [opv, n1, n2, n3, n4, Value.cells, List.getElem_toArray, List.getElem_cons_zero, List.getElem_cons_succ]
 apply q_call en189
 case H =>
   intro w hS
   try simp only [opv, n1, n2, n3, n4, List.map_toArray, List.map_cons, List.map_nil, List.append_toArray, List.cons_append, List.nil_append, Array.append_empty]
   refine CallR.mono (c_nameNumber a ha hwa _) ?_
   rintro _ w1 ⟨rfl, hE⟩; exact ⟨rfl, hS.ext hE⟩
 try simp only [opv, n1, n2, n3, n4, Value.cells]
 refine q_go (fun w hS => m_load_row Tryz.underlying41 (hi := ti41) (hS := hS)) ?_
 try simp only [opv, n1, n2, n3, n4, Value.cells, List.getElem_toArray, List.getElem_cons_zero, List.getElem_cons_succ]
 apply q_call en189
 case H =>
   intro w hS
   try simp only [opv, n1, n2, n3, n4, List.map_toArray, List.map_cons, List.map_nil, List.append_toArray, List.cons_append, List.nil_append, Array.append_empty]
   refine CallR.mono (c_nameNumber b hb hwb _) ?_
   rintro _ w1 ⟨rfl, hE⟩; exact ⟨rfl, hS.ext hE⟩
 try simp only [opv, n1, n2, n3, n4, Value.cells]
 refine q_go (fun w hS => s_lss) ?_
 try simp only [opv, n1, n2, n3, n4, Value.cells]
 refine q_go (fun w hS => s_assign) ?_
 try simp only [opv, n1, n2, n3, n4, Value.cells]
 clear hS
 refine q_nil fun w3 hS => ?_
 refine hK2 _ _ ?_
 refine x_ret ?_
 refine r_tmp rfl ?_
 exact ⟨congrArg Value.bool (by rw [Bool.eq_iff_iff]; simp only [decide_eq_true_eq]; omega), hS.ext_of⟩
end Go.Proofs.YtffmanidnlbjjaaGreat
namespace Go.Proofs.YtffmanidnlbjjaaGreat
abbrev keyKs : List IntKind := [.u8, .u16, .u8, .u8, .u8, .u8, .u8, .u8, .u8, .u8, .u8, .u32]
abbrev KA (x : List Int) : Array Value := (zi keyKs x).toArray
def kn (x : List Int) (i : Nat) : Nat := (x.getD i 0).toNat
def kitem (x : List Int) : List Int := (x.drop 2).take 8
structure KeyOk (x : List Int) : Prop where
  len : x.length = 12
  e0 : x.getD 0 0 = (kn x 0 : Int)
  b0 : kn x 0 < 256
  e1 : x.getD 1 0 = (kn x 1 : Int)
  b1 : kn x 1 < 65536
  item : Byt (kitem x)
  e10 : x.getD 10 0 = (kn x 10 : Int)
  b10 : kn x 10 < 256
  e11 : x.getD 11 0 = (kn x 11 : Int)
  b11 : kn x 11 < 4294967296
theorem kitem_len {x : List Int} (h : x.length = 12) : (kitem x).length = 8 := by simp [kitem, h]
theorem key_cut {x : List Int} (h : x.length = 12) : x = [x.getD 0 0, x.getD 1 0] ++ kitem x ++ [x.getD 10 0, x.getD 11 0] := by
  obtain ⟨a, b, c, d, e, f, g, i, j, k, l, m, rfl⟩ : ∃ a b c d e f g i j k l m, x = [a, b, c, d, e, f, g, i, j, k, l, m] := by
    match x, h with
    | [a, b, c, d, e, f, g, i, j, k, l, m], _ => exact ⟨a, b, c, d, e, f, g, i, j, k, l, m, rfl⟩
  rfl
theorem key_item {x : List Int} (h : x.length = 12) : (((KA x).toList.drop 2).take 8).toArray = ic .u8 (kitem x) := by
  obtain ⟨a, b, c, d, e, f, g, i, j, k, l, m, rfl⟩ : ∃ a b c d e f g i j k l m, x = [a, b, c, d, e, f, g, i, j, k, l, m] := by
    match x, h with
    | [a, b, c, d, e, f, g, i, j, k, l, m], _ => exact ⟨a, b, c, d, e, f, g, i, j, k, l, m, rfl⟩
  rfl
theorem key_put {x l : List Int} (h : x.length = 12) (hl : l.length = 8) : splice (KA x).toList 2 (ic .u8 l).toList = zi keyKs ([x.getD 0 0, x.getD 1 0] ++ l ++ [x.getD 10 0, x.getD 11 0]) := by
  obtain ⟨a, b, c, d, e, f, g, i, j, k, m, n, rfl⟩ : ∃ a b c d e f g i j k l m, x = [a, b, c, d, e, f, g, i, j, k, l, m] := by
    match x, h with
    | [a, b, c, d, e, f, g, i, j, k, l, m], _ => exact ⟨a, b, c, d, e, f, g, i, j, k, l, m, rfl⟩
  match l, hl with
  | [_, _, _, _, _, _, _, _], _ => rfl
def mkKey (s c : Nat) (l : List Int) (r q : Nat) : List Int := [(s : Int), (c : Int)] ++ l ++ [(r : Int), (q : Int)]
theorem mkKey_len {s c r q : Nat} {l : List Int} (h : l.length = 8) : (mkKey s c l r q).length = 12 := by simp [mkKey, h]
theorem mkKey_ok {s c r q : Nat} {l : List Int} (h : l.length = 8) (hl : Byt l) (hs : s < 256) (hc : c < 65536) (hr : r < 256) (hq : q < 4294967296) : KeyOk (mkKey s c l r q) := by
  match l, h with
  | [_, _, _, _, _, _, _, _], _ => exact ⟨rfl, rfl, hs, rfl, hc, hl, rfl, hr, rfl, hq⟩
section
variable {s c r q : Nat} {l : List Int}
end
theorem key_mk {x : List Int} (h : KeyOk x) : x = mkKey (kn x 0) (kn x 1) (kitem x) (kn x 10) (kn x 11) := by
  have := key_cut h.len
  rw [h.e0, h.e1, h.e10, h.e11] at this
  exact this
def dotN (x : List Int) : Nat := 4294967296 * kn x 10 + kn x 11
def headN (x : List Int) : Nat := 65536 * kn x 0 + kn x 1
theorem dotN_lt {x : List Int} (h : KeyOk x) : dotN x < 1099511627776 := by have := h.b10; have := h.b11; unfold dotN; omega
def wordsL (x : List Int) : List Int := [(headN x : Int), (numN (kitem x) : Int), (dotN x : Int)]
def bareK (x : List Int) : List Int := mkKey (kn x 0) (kn x 1) nm0 0 0
def keyR (x : List Int) : Bool :=
  if kn x 0 = 4 then decide (x = bareK x) else
  if kn x 0 = 1 then decide (kn x 11 ≠ 0) && nright (kitem x) && decide (kn x 10 < 16) else
  if kn x 0 = 2 ∨ kn x 0 = 3 then decide (kn x 11 = 0) && nright (kitem x) && decide (kn x 10 < 16) else false
def lexLt : List Int → List Int → Bool
  | a :: x, b :: y => if a = b then lexLt x y else decide (a < b)
  | _, _ => false
theorem lexLt_at : ∀ {a b : List Int} {k : Nat}, k < a.length → k < b.length → (∀ j, j < k → a.getD j 0 = b.getD j 0) → a.getD k 0 ≠ b.getD k 0 → lexLt a b = decide (a.getD k 0 < b.getD k 0)
  | [], _, k, h, _, _, _ => by simp at h
  | _ :: _, [], k, _, h, _, _ => by simp at h
  | a :: x, b :: y, 0, _, _, _, hne => by simp at hne; simp [lexLt, hne]
  | a :: x, b :: y, k + 1, h1, h2, he, hne => by
    have e0 : a = b := by simpa using he 0 (by omega)
    rw [lexLt, if_pos e0]
    have := lexLt_at (a := x) (b := y) (k := k) (by simpa using h1) (by simpa using h2) (fun j hj => by simpa using he (j + 1) (by omega)) (by simpa using hne)
    simpa using this
theorem lexLt_same : ∀ (a : List Int), lexLt a a = false
  | [] => rfl
  | _ :: a => by rw [lexLt, if_pos rfl, lexLt_same a]
theorem w3_ext {a b : List Int} (ha : a.length = 3) (hb : b.length = 3) (h : ∀ j, j < 3 → a.getD j 0 = b.getD j 0) : a = b := by
  match a, b, ha, hb with
  | [_, _, _], [_, _, _], _, _ =>
    have h0 := h 0 (by omega); have h1 := h 1 (by omega); have h2 := h 2 (by omega)
    simp at h0 h1 h2; rw [h0, h1, h2]
theorem lexLt_eq {a b : List Int} (h : a.length = b.length) (he : ∀ j, j < a.length → a.getD j 0 = b.getD j 0) : lexLt a b = false := by
  have : a = b := by
    refine List.ext_getElem h fun i h1 h2 => ?_
    have := he i h1
    simpa [List.getD_eq_getElem?_getD, List.getElem?_eq_getElem h1, List.getElem?_eq_getElem h2] using this
  rw [this, lexLt_same]
def key0 : List Int := mkKey 0 0 nm0 0 0
def keyLt (x y : List Int) : Bool := lexLt (wordsL x) (wordsL y)
end Go.Proofs.YtffmanidnlbjjaaGreat
namespace Go.Proofs.YtffmanidnlbjjaaGreat
abbrev valKs : List IntKind := [.u64, .u8, .u8, .u8, .u8, .u8, .u8, .u8, .u8]
abbrev VA (v : List Int) : Array Value := (zi valKs v).toArray
abbrev atomKs : List IntKind := [.u8, .u16, .u8, .u8, .u8, .u8, .u8, .u8, .u8, .u8, .u8, .u32, .u64, .u8, .u8, .u8, .u8, .u8, .u8, .u8, .u8]
abbrev AA (a : List Int) : Array Value := (zi atomKs a).toArray
def akey (a : List Int) : List Int := a.take 12
def aval (a : List Int) : List Int := a.drop 12
def vtext (v : List Int) : List Int := v.drop 1
structure ValOk (v : List Int) : Prop where
  len : v.length = 9
  e0 : v.getD 0 0 = (kn v 0 : Int)
  b0 : kn v 0 < 18446744073709551616
  text : Byt (vtext v)
structure AtomOk (a : List Int) : Prop where
  len : a.length = 21
  key : KeyOk (akey a)
  val : ValOk (aval a)
theorem vtext_len {v : List Int} (h : v.length = 9) : (vtext v).length = 8 := by simp [vtext, h]
theorem atom_key {a : List Int} (h : a.length = 21) : (((AA a).toList.drop 0).take 12).toArray = KA (akey a) := by
  have := zi_part (k1 := []) (k2 := keyKs) (k3 := valKs) (a := []) (b := a.take 12) (c := a.drop 12) rfl (by simp [h])
  simpa [akey] using this
theorem atom_val {a : List Int} (h : a.length = 21) : (((AA a).toList.drop 12).take 9).toArray = VA (aval a) := by
  have := zi_part (k1 := keyKs) (k2 := valKs) (k3 := []) (a := a.take 12) (b := a.drop 12) (c := []) (by simp [h]) (by simp [h])
  simpa [aval] using this
theorem val_text {v : List Int} (h : v.length = 9) : (((VA v).toList.drop 1).take 8).toArray = ic .u8 (vtext v) := by
  match v, h with
  | [_, _, _, _, _, _, _, _, _], _ => rfl
theorem aval_0 {a : List Int} (h : a.length = 21) : a.getD 12 0 = (aval a).getD 0 0 := by
  simp [aval, List.getD_eq_getElem?_getD]
theorem atom_text {a : List Int} (h : a.length = 21) : (((AA a).toList.drop 13).take 8).toArray = ic .u8 (vtext (aval a)) := by
  have h1 := val_text (v := aval a) (by simp [aval, h])
  have h2 := atom_val h
  rw [← h1]
  have e : ∀ (L : List Value), L.length = 21 → (L.drop 13).take 8 = ((((L.drop 12).take 9)).drop 1).take 8 := fun L hL => by
    rw [List.drop_take, List.drop_drop, List.take_take]; simp
  have hL : (AA a).toList.length = 21 := by simp [zi, h]
  rw [e _ hL]
  have h3 : ((AA a).toList.drop 12).take 9 = (VA (aval a)).toList := by
    have := congrArg Array.toList h2; simpa using this
  rw [h3]
/-- what a key is written as -/
def nmOut (l : List Int) : List Int := (nsz l : Int) :: nmTxt l
theorem nmOut_len (l : List Int) : (nmOut l).length = nsz l + 1 := by simp [nmOut, nmTxt_len]
def keyOut (x : List Int) : List Int :=
  [(kn x 0 : Int)] ++ vari (kn x 1) ++ (if kn x 0 = 4 then [] else nmOut (kitem x) ++ [(kn x 10 : Int)] ++ (if kn x 0 = 1 then vari (kn x 11) else []))
theorem keyOut_len {x : List Int} (h : KeyOk x) : (keyOut x).length ≤ 40 := by
  have h1 := vari_len10 (x := kn x 1) (by have := h.b1; omega)
  have h2 := vari_len10 (x := kn x 11) (by have := h.b11; omega)
  have h3 := nmOut_len (kitem x)
  have h4 := nsz_le (kitem x)
  have h5 := kitem_len h.len
  unfold keyOut
  split
  · simp; omega
  · split <;> simp <;> omega
def stampE (n : Nat) : Int := if 16 ≤ n % 256 ∨ 1099511627775 < n then 2 else if n / 256 % 4294967296 = 0 then 3 else 0
theorem stampE_0 {n : Nat} : stampE n = 0 ↔ n % 256 < 16 ∧ 1 ≤ n / 256 ∧ n / 256 ≤ 4294967295 := by
  unfold stampE
  split
  · simp; omega
  · split
    · simp; omega
    · simp; omega
def bareV (v : List Int) : Bool := decide (vtext v = nm0)
def valR (s : Nat) (v : List Int) : Bool :=
  if s = 1 then bareV v && decide (kn v 0 = 1 ∨ kn v 0 = 2) else
  if s = 2 ∨ s = 3 then bareV v && decide (1 ≤ kn v 0 ∧ kn v 0 ≤ 4294967295) else
  if s = 4 then decide (stampE (kn v 0) = 0) && (bareV v || nright (vtext v)) else false
def atomR (a : List Int) : Bool := keyR (akey a) && valR (kn a 0) (aval a)
def overV (x y : List Int) : Bool := decide (kn y 0 < kn x 0) || (decide (kn x 0 = kn y 0) && !decide (numN (vtext x) < numN (vtext y)))
def moreV (x y : List Int) : List Int := if overV x y then x else y
def valOut (s : Nat) (v : List Int) : List Int :=
  if s = 1 then [((kn v 0 % 256 : Nat) : Int)] else if s = 4 then vari (kn v 0) ++ nmOut (vtext v) else vari (kn v 0)
def atomOut (a : List Int) : List Int := if atomR a then keyOut (akey a) ++ valOut (kn a 0) (aval a) else []
end Go.Proofs.YtffmanidnlbjjaaGreat
set_option linter.unusedSimpArgs false
set_option linter.unusedVariables false
set_option maxHeartbeats 800000
set_option maxRecDepth 100000
namespace Go.Proofs.YtffmanidnlbjjaaGreat
open Go.RowKit

def WrSt (w0 w' : World) (M : List Res) (g : Nat) (xs : List Int) (R : List Res) : Prop := ∃ (A : Option Addr) (c : Nat), St (OwnB M) w0 w' (.obj g (.cells #[.slice A xs.length c] 201 (0, 0)) :: .vec A c 5 1 xs.length (xs.map (Value.int .u8)) :: R)

theorem c_wput (w0 : World) (g : Nat) (A : Option Addr) (c : Nat) (xs : List Int) (hx : xs.length ≤ 1000000000) (B : Option Addr) (d : Nat) (ys : List Int) (hy : ys.length ≤ 1000000000) (hM : St (OwnB [.obj g (.cells #[.slice A xs.length c] 201 (0, 0)), .vec A c 5 1 xs.length (xs.map (Value.int .u8)), .rd B 1 ys.length (ys.map (Value.int .u8))]) w0 w0 [.obj g (.cells #[.slice A xs.length c] 201 (0, 0)), .vec A c 5 1 xs.length (xs.map (Value.int .u8)), .rd B 1 ys.length (ys.map (Value.int .u8))]) :
    CallR Tryz.prog 160 #[.pointer (some ⟨g, 0, none⟩), .slice B ys.length d] w0 fun v w' => v = .tuple #[] ∧ WrSt w0 w' [.obj g (.cells #[.slice A xs.length c] 201 (0, 0)), .vec A c 5 1 xs.length (xs.map (Value.int .u8)), .rd B 1 ys.length (ys.map (Value.int .u8))] g (xs ++ ys) [.rd B 1 ys.length (ys.map (Value.int .u8))] := by
 have hS := hM
 refine c_enter (l := [.pointer (some ⟨g, 0, none⟩), .slice B ys.length d, undef, undef, undef, undef, undef, undef, undef, undef, undef, undef, undef, undef, undef]) Tryz.func160 rfl (by simp only [Tryz.ntmps160, List.size_toArray, List.length_cons, List.length_nil, Nat.reduceAdd, Nat.reduceSub, Array.replicate_succ, Array.replicate_zero, List.push_toArray, List.append_toArray, List.nil_append, List.cons_append]) ?_
 refine x_seq fun K1 hK1 => ?_
 refine x_region ?_
 refine s_go (s_move) ?_
 try simp only [opv, n1, n2, n3, n4, Value.cells]
 refine s_go (s_neq_pointer Tryz.underlying145) ?_
 try simp only [opv, n1, n2, n3, n4, Value.cells]
 refine x_nil ?_
 refine hK1 _ _ ?_
 refine x_cond_t (h := ?_)
 refine x_region ?_
 refine s_go (s_move) ?_
 try simp only [opv, n1, n2, n3, n4, Value.cells]
 refine s_go (s_move) ?_
 try simp only [opv, n1, n2, n3, n4, Value.cells]
 refine s_go (s_nilCheck) ?_
 try simp only [opv, n1, n2, n3, n4, Value.cells]
 refine s_go (m_fieldAddr Tryz.underlying201 (hi := ti73)) ?_
 try simp only [opv, n1, n2, n3, n4, Value.cells, Nat.zero_add, Nat.add_zero, List.getElem_toArray, List.getElem_cons_zero, List.getElem_cons_succ]
 refine s_go (m_load_obj Tryz.underlying73 (hS := hS)) ?_
 try simp only [opv, n1, n2, n3, n4, Value.cells, List.getElem_toArray, List.getElem_cons_zero, List.getElem_cons_succ]
 refine s_go (s_move) ?_
 try simp only [opv, n1, n2, n3, n4, Value.cells]
 refine m_append Tryz.underlying73 ti5 (hS := hS) (h := fun w1 A1 C1 hS => ?_)
 try simp only [← List.map_append, ← List.map_drop, ← List.map_take, Nat.mul_one, Nat.zero_mul, Nat.sub_zero, List.drop_zero, List.nil_append, Nat.zero_add] at hS ⊢
 try simp only [opv, n1, n2, n3, n4, Value.cells, Array.toArray_toList] at hS ⊢
 refine s_go (s_nilCheck) ?_
 try simp only [opv, n1, n2, n3, n4, Value.cells]
 refine s_go (m_fieldAddr Tryz.underlying201 (hi := ti73)) ?_
 try simp only [opv, n1, n2, n3, n4, Value.cells, Nat.zero_add, Nat.add_zero, List.getElem_toArray, List.getElem_cons_zero, List.getElem_cons_succ]
 refine m_store_obj ti73 (hS := hS) (h := fun w2 hS => ?_)
 try simp only [opv, n1, n2, n3, n4, Value.cells, Array.toArray_toList] at hS ⊢
 refine x_nil ?_
 refine r_none rfl ?_
 rw [← List.length_append] at hS
 exact ⟨rfl, _, _, hS.sel (by repeat (first | exact Sel.nil | (refine Sel.cons (by repeat (first | exact Del.head | apply Del.tail)) ?_)))⟩
theorem c_wnum (w0 : World) (g : Nat) (A : Option Addr) (c : Nat) (xs : List Int) (hx : xs.length ≤ 100000000) (x : Nat) (hx64 : x < 18446744073709551616) (hM : St (OwnB [.obj g (.cells #[.slice A xs.length c] 201 (0, 0)), .vec A c 5 1 xs.length (xs.map (Value.int .u8))]) w0 w0 [.obj g (.cells #[.slice A xs.length c] 201 (0, 0)), .vec A c 5 1 xs.length (xs.map (Value.int .u8))]) :
    CallR Tryz.prog 95 #[.pointer (some ⟨g, 0, none⟩), .int .u64 (x : Int)] w0 fun v w' => v = .tuple #[] ∧ WrSt w0 w' [.obj g (.cells #[.slice A xs.length c] 201 (0, 0)), .vec A c 5 1 xs.length (xs.map (Value.int .u8))] g (xs ++ vari x) [] := by
 have hS := hM
 refine c_enter (l := [.pointer (some ⟨g, 0, none⟩), .int .u64 (x : Int), undef, undef, undef, undef, undef, undef]) Tryz.func95 rfl (by simp only [Tryz.ntmps95, List.size_toArray, List.length_cons, List.length_nil, Nat.reduceAdd, Nat.reduceSub, Array.replicate_succ, Array.replicate_zero, List.push_toArray, List.append_toArray, List.nil_append, List.cons_append]) ?_
 refine x_region ?_
 refine s_go (s_move) ?_
 try simp only [opv, n1, n2, n3, n4, Value.cells]
 refine s_go (s_move) ?_
 try simp only [opv, n1, n2, n3, n4, Value.cells]
 refine s_call en161 ?_
 try simp only [opv, n1, n2, n3, n4, Value.cells, List.map_toArray, List.map_cons, List.map_nil, List.append_toArray, List.cons_append, List.nil_append, Array.append_empty]
 refine CallR.mono (c_packVar x hx64 _) ?_
 rintro _ w1 ⟨A1, c1, rfl, hC1⟩
 replace hS := hS.call hC1
 simp only [List.cons_append, List.nil_append] at hS
 have hvl := vari_len10 hx64
 replace hS := hS.vec_rd (by exact Upd.head)
 try simp only [opv, n1, n2, n3, n4, Value.cells]
 refine s_call en160 ?_
 try simp only [opv, n1, n2, n3, n4, Value.cells, List.map_toArray, List.map_cons, List.map_nil, List.append_toArray, List.cons_append, List.nil_append, Array.append_empty]
 refine CallR.mono (c_wput _ g A c (xs) (by omega) _ _ (vari x) (by omega) (hS.owns (by repeat (first | exact Spl.nil | (apply Spl.cons (by repeat (first | exact Del.head | apply Del.tail))))))) ?_
 rintro _ w2 ⟨rfl, A2, c2, hC2⟩
 replace hS := hS.frame (by repeat (first | exact Spl.nil | (apply Spl.cons (by repeat (first | exact Del.head | apply Del.tail))))) hC2 (by intro r hr g hg; simp only [List.mem_cons, List.not_mem_nil, or_false] at hr; rcases hr with rfl | rfl | rfl <;> first | (simp [Res.reads] at hg; done) | exact .inr ⟨_, by simp, .inr hg⟩)
 simp only [List.cons_append, List.nil_append] at hS
 try simp only [opv, n1, n2, n3, n4, Value.cells]
 refine x_nil ?_
 refine r_none rfl ?_
 exact ⟨rfl, _, _, hS.sel (by repeat (first | exact Sel.nil | (refine Sel.cons (by repeat (exact Del.head)) ?_)))⟩
theorem c_wbyte (w0 : World) (g : Nat) (A : Option Addr) (c : Nat) (xs : List Int) (hx : xs.length ≤ 100000000) (b : Int) (hM : St (OwnB [.obj g (.cells #[.slice A xs.length c] 201 (0, 0)), .vec A c 5 1 xs.length (xs.map (Value.int .u8))]) w0 w0 [.obj g (.cells #[.slice A xs.length c] 201 (0, 0)), .vec A c 5 1 xs.length (xs.map (Value.int .u8))]) :
    CallR Tryz.prog 163 #[.pointer (some ⟨g, 0, none⟩), .int .u8 b] w0 fun v w' => v = .tuple #[] ∧ WrSt w0 w' [.obj g (.cells #[.slice A xs.length c] 201 (0, 0)), .vec A c 5 1 xs.length (xs.map (Value.int .u8))] g (xs ++ [b]) [] := by
 have hS := hM
 refine c_enter (l := [.pointer (some ⟨g, 0, none⟩), .int .u8 b, undef, undef, undef, undef, undef, undef]) Tryz.func163 rfl (by simp only [Tryz.ntmps163, List.size_toArray, List.length_cons, List.length_nil, Nat.reduceAdd, Nat.reduceSub, Array.replicate_succ, Array.replicate_zero, List.push_toArray, List.append_toArray, List.nil_append, List.cons_append]) ?_
 refine x_region ?_
 refine s_go (s_move) ?_
 try simp only [opv, n1, n2, n3, n4, Value.cells]
 refine s_go (s_move) ?_
 try simp only [opv, n1, n2, n3, n4, Value.cells]
 refine m_buildRow (cells := #[_]) Tryz.underlying73 ti5 (hc := by simp only [List.map_toArray, List.map_cons, List.map_nil, opv, n1, n2, n3, n4, Value.cells, List.toList_toArray]; (repeat (refine fill_cons rfl rfl (Nat.le_of_ble_eq_true rfl) ?_)); rfl) (hS := hS) (h := fun w1 g1 hS => ?_)
 try simp only [opv, n1, n2, n3, n4, Value.cells, Array.toArray_toList] at hS ⊢
 replace hS := hS.obj_rd (sz := 1) (n := 1) rfl .head
 refine s_call en160 ?_
 try simp only [opv, n1, n2, n3, n4, Value.cells, List.map_toArray, List.map_cons, List.map_nil, List.append_toArray, List.cons_append, List.nil_append, Array.append_empty]
 refine CallR.mono (c_wput _ g A c (xs) (by omega) _ _ ([b]) (by simp) (hS.owns (by repeat (first | exact Spl.nil | (apply Spl.cons (by repeat (first | exact Del.head | apply Del.tail))))))) ?_
 rintro _ w2 ⟨rfl, A2, c2, hC2⟩
 replace hS := hS.frame (by repeat (first | exact Spl.nil | (apply Spl.cons (by repeat (first | exact Del.head | apply Del.tail))))) hC2 (by intro r hr g hg; simp only [List.mem_cons, List.not_mem_nil, or_false] at hr; rcases hr with rfl | rfl | rfl <;> first | (simp [Res.reads] at hg; done) | exact .inr ⟨_, by simp, .inr hg⟩)
 simp only [List.cons_append, List.nil_append] at hS
 try simp only [opv, n1, n2, n3, n4, Value.cells]
 refine x_nil ?_
 refine r_none rfl ?_
 exact ⟨rfl, _, _, hS.sel (by repeat (first | exact Sel.nil | (refine Sel.cons (by repeat (exact Del.head)) ?_)))⟩
theorem c_wname (w0 : World) (g : Nat) (A : Option Addr) (c : Nat) (xs : List Int) (hx : xs.length ≤ 100000000) (l : List Int) (hl : l.length = 8) (hw : Byt l) (hM : St (OwnB [.obj g (.cells #[.slice A xs.length c] 201 (0, 0)), .vec A c 5 1 xs.length (xs.map (Value.int .u8))]) w0 w0 [.obj g (.cells #[.slice A xs.length c] 201 (0, 0)), .vec A c 5 1 xs.length (xs.map (Value.int .u8))]) :
    CallR Tryz.prog 164 #[.pointer (some ⟨g, 0, none⟩), .agg (ic .u8 l)] w0 fun v w' => v = .tuple #[] ∧ WrSt w0 w' [.obj g (.cells #[.slice A xs.length c] 201 (0, 0)), .vec A c 5 1 xs.length (xs.map (Value.int .u8))] g (xs ++ nmOut l) [] := by
 have hS := hM
 refine c_enter (l := [.pointer (some ⟨g, 0, none⟩), .agg (ic .u8 l), undef, undef, undef, undef, undef, undef, undef, undef, undef, undef, undef, undef, undef, undef, undef]) Tryz.func164 rfl (by simp only [Tryz.ntmps164, List.size_toArray, List.length_cons, List.length_nil, Nat.reduceAdd, Nat.reduceSub, Array.replicate_succ, Array.replicate_zero, List.push_toArray, List.append_toArray, List.nil_append, List.cons_append]) ?_
 refine x_seq fun K1 hK1 => ?_
 refine x_region ?_
 have hs := nsz_le l
 have htl := nmTxt_len l
 have htb := nmTxt_byt hw
 refine m_box hS (fun w1 g1 hS => ?_)
 try simp only [opv, n1, n2, n3, n4, Value.cells, Array.toArray_toList] at hS ⊢
 refine x_nil ?_
 refine hK1 _ _ ?_
 refine x_seq fun K2 hK2 => ?_
 refine x_region ?_
 refine s_go (m_load_row Tryz.underlying41 (hi := ti41) (hS := hS)) ?_
 try simp only [opv, n1, n2, n3, n4, Value.cells, List.getElem_toArray, List.getElem_cons_zero, List.getElem_cons_succ]
 refine s_call en199 ?_
 try simp only [opv, n1, n2, n3, n4, Value.cells, List.map_toArray, List.map_cons, List.map_nil, List.append_toArray, List.cons_append, List.nil_append, Array.append_empty]
 refine CallR.mono (c_nameText _ (by assumption) (by assumption) _) ?_
 rintro _ w2 ⟨rfl, hE2⟩
 replace hS := hS.ext hE2
 try simp only [opv, n1, n2, n3, n4, Value.cells]
 refine s_go (s_assign) ?_
 try simp only [opv, n1, n2, n3, n4, Value.cells]
 refine x_nil ?_
 refine hK2 _ _ ?_
 refine x_seq fun K3 hK3 => ?_
 refine x_region ?_
 refine s_go (s_move) ?_
 try simp only [opv, n1, n2, n3, n4, Value.cells]
 refine s_go (s_move) ?_
 try simp only [opv, n1, n2, n3, n4, Value.cells]
 refine s_go (s_len_str Tryz.underlying9) ?_
 try simp only [opv, n1, n2, n3, n4, Value.cells]
 rw [strOf_size, htl]
 refine s_go (s_conv Tryz.underlying3 Tryz.underlying5 (hc := by exact wr_u8 (by omega) (by omega))) ?_
 try simp only [opv, n1, n2, n3, n4, Value.cells]
 refine m_buildRow (cells := #[_]) Tryz.underlying73 ti5 (hc := by simp only [List.map_toArray, List.map_cons, List.map_nil, opv, n1, n2, n3, n4, Value.cells, List.toList_toArray]; (repeat (refine fill_cons rfl rfl (Nat.le_of_ble_eq_true rfl) ?_)); rfl) (hS := hS) (h := fun w3 g3 hS => ?_)
 try simp only [opv, n1, n2, n3, n4, Value.cells, Array.toArray_toList] at hS ⊢
 replace hS := hS.obj_rd (sz := 1) (n := 1) rfl .head
 refine s_call en160 ?_
 try simp only [opv, n1, n2, n3, n4, Value.cells, List.map_toArray, List.map_cons, List.map_nil, List.append_toArray, List.cons_append, List.nil_append, Array.append_empty]
 refine CallR.mono (c_wput _ g A c (xs) (by omega) _ _ ([(nsz l : Int)]) (by simp) (hS.owns (by repeat (first | exact Spl.nil | (apply Spl.cons (by repeat (first | exact Del.head | apply Del.tail))))))) ?_
 rintro _ w4 ⟨rfl, A4, c4, hC4⟩
 replace hS := hS.frame (by repeat (first | exact Spl.nil | (apply Spl.cons (by repeat (first | exact Del.head | apply Del.tail))))) hC4 (by intro r hr g hg; simp only [List.mem_cons, List.not_mem_nil, or_false] at hr; rcases hr with rfl | rfl | rfl <;> first | (simp [Res.reads] at hg; done) | exact .inr ⟨_, by simp, .inr hg⟩)
 simp only [List.cons_append, List.nil_append] at hS
 try simp only [opv, n1, n2, n3, n4, Value.cells]
 refine x_nil ?_
 refine hK3 _ _ ?_
 refine x_region ?_
 refine s_go (s_move) ?_
 try simp only [opv, n1, n2, n3, n4, Value.cells]
 refine s_go (s_move) ?_
 try simp only [opv, n1, n2, n3, n4, Value.cells]
 refine m_str_bytes Tryz.underlying9 Tryz.underlying73 Tryz.underlying5 (hS := hS) (h := fun w5 A5 C5 hS => ?_)
 try simp only [opv, n1, n2, n3, n4, Value.cells, Array.toArray_toList] at hS ⊢
 rw [strOf_size] at hS ⊢
 rw [byL_strOf htb] at hS
 refine s_call en160 ?_
 try simp only [opv, n1, n2, n3, n4, Value.cells, List.map_toArray, List.map_cons, List.map_nil, List.append_toArray, List.cons_append, List.nil_append, Array.append_empty]
 refine CallR.mono (c_wput _ g _ _ (xs ++ [(nsz l : Int)]) (by simp; omega) _ _ (nmTxt l) (by omega) (hS.owns (by repeat (first | exact Spl.nil | (apply Spl.cons (by repeat (first | exact Del.head | apply Del.tail))))))) ?_
 rintro _ w6 ⟨rfl, A6, c6, hC6⟩
 replace hS := hS.frame (by repeat (first | exact Spl.nil | (apply Spl.cons (by repeat (first | exact Del.head | apply Del.tail))))) hC6 (by intro r hr g hg; simp only [List.mem_cons, List.not_mem_nil, or_false] at hr; rcases hr with rfl | rfl | rfl <;> first | (simp [Res.reads] at hg; done) | exact .inr ⟨_, by simp, .inr hg⟩)
 simp only [List.cons_append, List.nil_append] at hS
 try simp only [opv, n1, n2, n3, n4, Value.cells]
 refine x_nil ?_
 refine r_none rfl ?_
 rw [show xs ++ [(nsz l : Int)] ++ nmTxt l = xs ++ nmOut l by simp [nmOut]] at hS
 exact ⟨rfl, _, _, hS.sel (by repeat (first | exact Sel.nil | (refine Sel.cons (by repeat (exact Del.head)) ?_)))⟩
theorem c_wout (w0 : World) (g : Nat) (A : Option Addr) (c : Nat) (xs : List Int) (hx : xs.length ≤ 100000000) (hM : St (OwnB [.obj g (.cells #[.slice A xs.length c] 201 (0, 0)), .vec A c 5 1 xs.length (xs.map (Value.int .u8))]) w0 w0 [.obj g (.cells #[.slice A xs.length c] 201 (0, 0)), .vec A c 5 1 xs.length (xs.map (Value.int .u8))]) :
    CallR Tryz.prog 98 #[.pointer (some ⟨g, 0, none⟩)] w0 fun v w' => ∃ A' c', v = .slice A' xs.length c' ∧ St (OwnB [.obj g (.cells #[.slice A xs.length c] 201 (0, 0)), .vec A c 5 1 xs.length (xs.map (Value.int .u8))]) w0 w' [.vec A' c' 5 1 xs.length (xs.map (Value.int .u8)), .obj g (.cells #[.slice A xs.length c] 201 (0, 0)), .vec A c 5 1 xs.length (xs.map (Value.int .u8))] := by
 have hS := hM
 refine c_enter (l := [.pointer (some ⟨g, 0, none⟩), undef, undef, undef, undef, undef, undef, undef, undef, undef, undef]) Tryz.func98 rfl (by simp only [Tryz.ntmps98, List.size_toArray, List.length_cons, List.length_nil, Nat.reduceAdd, Nat.reduceSub, Array.replicate_succ, Array.replicate_zero, List.push_toArray, List.append_toArray, List.nil_append, List.cons_append]) ?_
 refine x_seq fun K1 hK1 => ?_
 refine x_region ?_
 refine s_go (s_assign) ?_
 try simp only [opv, n1, n2, n3, n4, Value.cells]
 refine x_nil ?_
 refine hK1 _ _ ?_
 refine x_seq fun K2 hK2 => ?_
 refine x_seq fun K3 hK3 => ?_
 refine x_region ?_
 refine s_go (s_move) ?_
 try simp only [opv, n1, n2, n3, n4, Value.cells]
 refine s_go (s_eql_pointer Tryz.underlying145) ?_
 try simp only [opv, n1, n2, n3, n4, Value.cells]
 refine x_nil ?_
 refine hK3 _ _ ?_
 refine x_cond_f (h := ?_)
 refine x_skip ?_
 refine hK2 _ _ ?_
 refine x_seq fun K4 hK4 => ?_
 refine x_region ?_
 refine m_buildRow (cells := #[]) Tryz.underlying73 ti5 (hc := by simp only [List.map_toArray, List.map_cons, List.map_nil, opv, n1, n2, n3, n4, Value.cells, List.toList_toArray]; (repeat (refine fill_cons rfl rfl (Nat.le_of_ble_eq_true rfl) ?_)); rfl) (hS := hS) (h := fun w1 g1 hS => ?_)
 try simp only [opv, n1, n2, n3, n4, Value.cells, Array.toArray_toList] at hS ⊢
 replace hS := hS.obj_vec (sz := 1) (n := 0) rfl (by decide) .head
 refine s_go (s_move) ?_
 try simp only [opv, n1, n2, n3, n4, Value.cells]
 refine s_go (s_nilCheck) ?_
 try simp only [opv, n1, n2, n3, n4, Value.cells]
 refine s_go (m_fieldAddr Tryz.underlying201 (hi := ti73)) ?_
 try simp only [opv, n1, n2, n3, n4, Value.cells, Nat.zero_add, Nat.add_zero, List.getElem_toArray, List.getElem_cons_zero, List.getElem_cons_succ]
 refine s_go (m_load_obj Tryz.underlying73 (hS := hS)) ?_
 try simp only [opv, n1, n2, n3, n4, Value.cells, List.getElem_toArray, List.getElem_cons_zero, List.getElem_cons_succ]
 refine m_append_vec Tryz.underlying73 ti5 (hS := hS) (h := fun w2 A2 C2 hS => ?_)
 try simp only [← List.map_append, ← List.map_drop, ← List.map_take, Nat.mul_one, Nat.zero_mul, Nat.sub_zero, List.drop_zero, List.nil_append, Nat.zero_add] at hS ⊢
 try simp only [opv, n1, n2, n3, n4, Value.cells, Array.toArray_toList] at hS ⊢
 refine s_go (s_assign) ?_
 try simp only [opv, n1, n2, n3, n4, Value.cells]
 refine x_nil ?_
 refine hK4 _ _ ?_
 refine x_ret ?_
 refine r_tmp rfl ?_
 exact ⟨_, _, rfl, hS.sel (by repeat (first | exact Sel.nil | (refine Sel.cons (by repeat (exact Del.head)) ?_)))⟩
theorem c_wnew  (w0 : World) :
    CallR Tryz.prog 93 #[] w0 fun v w' => ∃ g, v = .pointer (some ⟨g, 0, none⟩) ∧ St NoB w0 w' [.obj g (.cells #[.slice none 0 0] 201 (0, 0)), .vec none 0 5 1 0 (([] : List Int).map (Value.int .u8))] := by
 have hS : St NoB w0 w0 [] := St.start w0
 refine c_enter (l := [undef, undef, undef]) Tryz.func93 rfl (by simp only [Tryz.ntmps93, List.size_toArray, List.length_cons, List.length_nil, Nat.reduceAdd, Nat.reduceSub, Array.replicate_succ, Array.replicate_zero, List.push_toArray, List.append_toArray, List.nil_append, List.cons_append]) ?_
 refine x_seq fun K1 hK1 => ?_
 refine x_region ?_
 refine s_go (s_assign) ?_
 try simp only [opv, n1, n2, n3, n4, Value.cells]
 refine x_nil ?_
 refine hK1 _ _ ?_
 refine x_seq fun K2 hK2 => ?_
 refine x_region ?_
 refine s_go (s_build_struct (cells := #[.slice none 0 0]) Tryz.underlying201 ti201 bp201 (hc := by simp only [List.map_toArray, List.map_cons, List.map_nil, opv, n1, n2, n3, n4, Value.cells, List.toList_toArray]; (repeat (refine fill_cons rfl rfl (Nat.le_of_ble_eq_true rfl) ?_)); rfl)) ?_
 try simp only [opv, n1, n2, n3, n4, Value.cells]
 refine m_box hS (fun w1 g1 hS => ?_)
 try simp only [opv, n1, n2, n3, n4, Value.cells, Array.toArray_toList] at hS ⊢
 refine s_go (s_assign) ?_
 try simp only [opv, n1, n2, n3, n4, Value.cells]
 refine x_nil ?_
 refine hK2 _ _ ?_
 refine x_ret ?_
 refine r_tmp rfl ?_
 have hS := hS.nil_vec 5 1
 exact ⟨_, rfl, hS.sel (by repeat (first | exact Sel.nil | (refine Sel.cons (by repeat (first | exact Del.head | apply Del.tail)) ?_)))⟩
end Go.Proofs.YtffmanidnlbjjaaGreat
set_option linter.unusedSimpArgs false
set_option linter.unusedVariables false
set_option maxHeartbeats 800000
set_option maxRecDepth 100000
namespace Go.Proofs.YtffmanidnlbjjaaGreat
open Go.RowKit

/-- a cursor g with the error e and the bytes xs behind a call that was handed it as M says -/
def RdIn (w0 : World) (M : List Res) (A : Option Addr) (n : Nat) : Prop := ∀ b, (if n = 0 then none else A.map (·.block)) = some b → w0.heap.size ≤ b ∨ ∃ s ∈ M, s.own = some b ∨ s.reads = some b
def CuSt (w0 w' : World) (M : List Res) (g : Nat) (e : Int) (xs : List Int) (R : List Res) : Prop := ∃ (A : Option Addr) (c : Nat), xs.length ≤ c ∧ RdIn w0 M A xs.length ∧ St (OwnB M) w0 w' (.obj g (.cells #[.int .i64 e, .slice A xs.length c] 189 (0, 0)) :: .rd A 1 xs.length (xs.map (Value.int .u8)) :: R)
theorem RdIn.sub {w0 : World} {M : List Res} {A A' : Option Addr} {n n' k : Nat} {xs : List Value} (hm : Res.rd A 1 n xs ∈ M) (h : 0 < n' → 0 < n ∧ A' = A.map (·.add k)) : RdIn w0 M A' n' := fun b hb => by
  by_cases h0 : n' = 0
  · rw [if_pos h0] at hb; cases hb
  · obtain ⟨h1, rfl⟩ := h (by omega)
    rw [if_neg h0] at hb
    refine .inr ⟨_, hm, .inr ?_⟩
    simp only [Res.reads, if_neg (show ¬ n = 0 by omega)]
    rw [← hb]; rcases A with _ | ⟨g, o, p⟩ <;> simp only [Option.map, Addr.add] <;> (try (split <;> rfl))
theorem RdIn.none (w0 : World) (M : List Res) (A : Option Addr) : RdIn w0 M A 0 := fun b hb => by simp at hb
def errE (e e' : Int) : Int := if e = 0 then e' else e
def errX (e e' : Int) (xs : List Int) : List Int := if errE e e' = 0 then xs else []

theorem c_ffail (w0 : World) (g : Nat) (e : Int) (A : Option Addr) (c : Nat) (xs : List Int) (hc : xs.length ≤ c) (e' : Int) (hM : St (OwnB [.obj g (.cells #[.int .i64 e, .slice A xs.length c] 189 (0, 0)), .rd A 1 xs.length (xs.map (Value.int .u8))]) w0 w0 [.obj g (.cells #[.int .i64 e, .slice A xs.length c] 189 (0, 0)), .rd A 1 xs.length (xs.map (Value.int .u8))]) :
    CallR Tryz.prog 193 #[.pointer (some ⟨g, 0, none⟩), .int .i64 e'] w0 fun v w' => v = .bool (!decide (errE e e' = 0)) ∧ St (OwnB [.obj g (.cells #[.int .i64 e, .slice A xs.length c] 189 (0, 0)), .rd A 1 xs.length (xs.map (Value.int .u8))]) w0 w' [.obj g (.cells #[.int .i64 (errE e e'), .slice A xs.length c] 189 (0, 0)), .rd A 1 xs.length (xs.map (Value.int .u8))] := by
 have hS := hM
 refine c_enter (l := [.pointer (some ⟨g, 0, none⟩), .int .i64 e', undef, undef, undef, undef, undef, undef, undef, undef, undef, undef, undef, undef, undef, undef, undef, undef, undef]) Tryz.func193 rfl (by simp only [Tryz.ntmps193, List.size_toArray, List.length_cons, List.length_nil, Nat.reduceAdd, Nat.reduceSub, Array.replicate_succ, Array.replicate_zero, List.push_toArray, List.append_toArray, List.nil_append, List.cons_append]) ?_
 refine x_seq fun K1 hK1 => ?_
 refine x_region ?_
 refine s_go (s_assign) ?_
 try simp only [opv, n1, n2, n3, n4, Value.cells]
 refine x_nil ?_
 refine hK1 _ _ ?_
 refine x_seq fun K2 hK2 => ?_
 refine x_seq fun K3 hK3 => ?_
 refine x_region ?_
 refine s_go (s_move) ?_
 try simp only [opv, n1, n2, n3, n4, Value.cells]
 refine s_go (s_nilCheck) ?_
 try simp only [opv, n1, n2, n3, n4, Value.cells]
 refine s_go (m_fieldAddr Tryz.underlying187 (hi := ti53)) ?_
 try simp only [opv, n1, n2, n3, n4, Value.cells, Nat.zero_add, Nat.add_zero, List.getElem_toArray, List.getElem_cons_zero, List.getElem_cons_succ]
 refine s_go (m_load_obj Tryz.underlying53 (hS := hS)) ?_
 try simp only [opv, n1, n2, n3, n4, Value.cells, List.getElem_toArray, List.getElem_cons_zero, List.getElem_cons_succ]
 refine s_go (s_eql) ?_
 try simp only [opv, n1, n2, n3, n4, Value.cells]
 refine x_nil ?_
 refine hK3 _ _ ?_
 refine x_cond (ht := fun hc1 => ?_) (hf := fun hc1 => ?_)
 ·
  try simp only [decide_eq_true_eq, decide_eq_false_iff_not, Bool.not_eq_true', Bool.not_eq_false', Int.not_lt, Int.not_le, ne_eq, Decidable.not_not, bne_iff_ne, beq_iff_eq, not_true_eq_false, not_false_eq_true] at hc1
  have hE : errE e e' = e' := by rw [errE, if_pos hc1]
  refine x_region ?_
  refine s_go (s_move) ?_
  try simp only [opv, n1, n2, n3, n4, Value.cells]
  refine s_go (s_move) ?_
  try simp only [opv, n1, n2, n3, n4, Value.cells]
  refine s_go (s_nilCheck) ?_
  try simp only [opv, n1, n2, n3, n4, Value.cells]
  refine s_go (m_fieldAddr Tryz.underlying187 (hi := ti53)) ?_
  try simp only [opv, n1, n2, n3, n4, Value.cells, Nat.zero_add, Nat.add_zero, List.getElem_toArray, List.getElem_cons_zero, List.getElem_cons_succ]
  refine m_store_obj ti53 (hS := hS) (h := fun w1 hS => ?_)
  try simp only [opv, n1, n2, n3, n4, Value.cells, Array.toArray_toList] at hS ⊢
  refine x_nil ?_
  refine hK2 _ _ ?_
  refine x_seq fun K4 hK4 => ?_
  refine x_region ?_
  refine s_go (s_move) ?_
  try simp only [opv, n1, n2, n3, n4, Value.cells]
  refine s_go (s_nilCheck) ?_
  try simp only [opv, n1, n2, n3, n4, Value.cells]
  refine s_go (m_fieldAddr Tryz.underlying187 (hi := ti53)) ?_
  try simp only [opv, n1, n2, n3, n4, Value.cells, Nat.zero_add, Nat.add_zero, List.getElem_toArray, List.getElem_cons_zero, List.getElem_cons_succ]
  refine s_go (m_load_obj Tryz.underlying53 (hS := hS)) ?_
  try simp only [opv, n1, n2, n3, n4, Value.cells, List.getElem_toArray, List.getElem_cons_zero, List.getElem_cons_succ]
  refine s_go (s_neq) ?_
  try simp only [opv, n1, n2, n3, n4, Value.cells]
  refine s_go (s_assign) ?_
  try simp only [opv, n1, n2, n3, n4, Value.cells]
  refine x_nil ?_
  refine hK4 _ _ ?_
  refine x_ret ?_
  refine r_tmp rfl ?_
  exact ⟨congrArg Value.bool (by rw [hE]; simp), by rw [hE]; exact hS.sel (by repeat (first | exact Sel.nil | (refine Sel.cons (by repeat (exact Del.head)) ?_)))⟩
 ·
  try simp only [decide_eq_true_eq, decide_eq_false_iff_not, Bool.not_eq_true', Bool.not_eq_false', Int.not_lt, Int.not_le, ne_eq, Decidable.not_not, bne_iff_ne, beq_iff_eq, not_true_eq_false, not_false_eq_true] at hc1
  have hE : errE e e' = e := by rw [errE, if_neg hc1]
  refine x_skip ?_
  refine hK2 _ _ ?_
  refine x_seq fun K5 hK5 => ?_
  refine x_region ?_
  refine s_go (s_move) ?_
  try simp only [opv, n1, n2, n3, n4, Value.cells]
  refine s_go (s_nilCheck) ?_
  try simp only [opv, n1, n2, n3, n4, Value.cells]
  refine s_go (m_fieldAddr Tryz.underlying187 (hi := ti53)) ?_
  try simp only [opv, n1, n2, n3, n4, Value.cells, Nat.zero_add, Nat.add_zero, List.getElem_toArray, List.getElem_cons_zero, List.getElem_cons_succ]
  refine s_go (m_load_obj Tryz.underlying53 (hS := hS)) ?_
  try simp only [opv, n1, n2, n3, n4, Value.cells, List.getElem_toArray, List.getElem_cons_zero, List.getElem_cons_succ]
  refine s_go (s_neq) ?_
  try simp only [opv, n1, n2, n3, n4, Value.cells]
  refine s_go (s_assign) ?_
  try simp only [opv, n1, n2, n3, n4, Value.cells]
  refine x_nil ?_
  refine hK5 _ _ ?_
  refine x_ret ?_
  refine r_tmp rfl ?_
  exact ⟨congrArg Value.bool (by rw [hE]; simp), by rw [hE]; exact hS.sel (by repeat (first | exact Sel.nil | (refine Sel.cons (by repeat (exact Del.head)) ?_)))⟩
theorem c_cerr (w0 : World) (g : Nat) (e : Int) (A : Option Addr) (c : Nat) (xs : List Int) (hc : xs.length ≤ c) (e' : Int) (hM : St (OwnB [.obj g (.cells #[.int .i64 e, .slice A xs.length c] 189 (0, 0)), .rd A 1 xs.length (xs.map (Value.int .u8))]) w0 w0 [.obj g (.cells #[.int .i64 e, .slice A xs.length c] 189 (0, 0)), .rd A 1 xs.length (xs.map (Value.int .u8))]) :
    CallR Tryz.prog 154 #[.pointer (some ⟨g, 0, none⟩), .int .i64 e'] w0 fun v w' => v = .tuple #[] ∧ CuSt w0 w' [.obj g (.cells #[.int .i64 e, .slice A xs.length c] 189 (0, 0)), .rd A 1 xs.length (xs.map (Value.int .u8))] g (errE e e') (errX e e' xs) [] := by
 have hS := hM
 refine c_enter (l := [.pointer (some ⟨g, 0, none⟩), .int .i64 e', undef, undef, undef, undef, undef, undef, undef, undef, undef, undef]) Tryz.func154 rfl (by simp only [Tryz.ntmps154, List.size_toArray, List.length_cons, List.length_nil, Nat.reduceAdd, Nat.reduceSub, Array.replicate_succ, Array.replicate_zero, List.push_toArray, List.append_toArray, List.nil_append, List.cons_append]) ?_
 refine x_seq fun K1 hK1 => ?_
 refine x_region ?_
 refine s_go (s_move) ?_
 try simp only [opv, n1, n2, n3, n4, Value.cells]
 refine s_go (s_nilCheck) ?_
 try simp only [opv, n1, n2, n3, n4, Value.cells]
 refine s_go (m_fieldAddr Tryz.underlying189 (hi := ti187)) ?_
 try simp only [opv, n1, n2, n3, n4, Value.cells, Nat.zero_add, Nat.add_zero, List.getElem_toArray, List.getElem_cons_zero, List.getElem_cons_succ]
 refine s_go (s_move) ?_
 try simp only [opv, n1, n2, n3, n4, Value.cells]
 refine s_call en193 ?_
 try simp only [opv, n1, n2, n3, n4, Value.cells, List.map_toArray, List.map_cons, List.map_nil, List.append_toArray, List.cons_append, List.nil_append, Array.append_empty]
 refine CallR.mono (c_ffail _ g e A c xs hc e' (hS.owns (by repeat (first | exact Spl.nil | (apply Spl.cons (by repeat (exact Del.head))))))) ?_
 rintro _ w1 ⟨rfl, hC1⟩
 replace hS := hS.frame (by repeat (first | exact Spl.nil | (apply Spl.cons (by repeat (exact Del.head))))) hC1 (by intro r hr g hg; simp only [List.mem_cons, List.not_mem_nil, or_false] at hr; rcases hr with rfl | rfl | rfl <;> first | (simp [Res.reads] at hg; done) | exact .inr ⟨_, by simp, .inr hg⟩)
 simp only [List.cons_append, List.nil_append] at hS
 try simp only [opv, n1, n2, n3, n4, Value.cells]
 refine x_nil ?_
 refine hK1 _ _ ?_
 refine x_cond (ht := fun hc1 => ?_) (hf := fun hc1 => ?_)
 ·
  try simp only [decide_eq_true_eq, decide_eq_false_iff_not, Bool.not_eq_true', Bool.not_eq_false', Int.not_lt, Int.not_le, ne_eq, Decidable.not_not, bne_iff_ne, beq_iff_eq, not_true_eq_false, not_false_eq_true] at hc1
  have hX : errX e e' xs = [] := if_neg hc1
  replace hS := hS.rd_none none 1
  refine x_region ?_
  refine s_go (s_move) ?_
  try simp only [opv, n1, n2, n3, n4, Value.cells]
  refine s_go (s_nilCheck) ?_
  try simp only [opv, n1, n2, n3, n4, Value.cells]
  refine s_go (m_fieldAddr Tryz.underlying189 (hi := ti73)) ?_
  try simp only [opv, n1, n2, n3, n4, Value.cells, Nat.zero_add, Nat.add_zero, List.getElem_toArray, List.getElem_cons_zero, List.getElem_cons_succ]
  refine m_store_obj ti73 (hS := hS) (h := fun w2 hS => ?_)
  try simp only [opv, n1, n2, n3, n4, Value.cells, Array.toArray_toList] at hS ⊢
  refine x_nil ?_
  refine r_none rfl ?_
  exact ⟨rfl, none, 0, by rw [hX]; simp, fun b hb => by rw [hX] at hb; simp at hb, by rw [hX]; exact hS.sel (by repeat (first | exact Sel.nil | (refine Sel.cons (by repeat (first | exact Del.head | apply Del.tail)) ?_)))⟩
 ·
  try simp only [decide_eq_true_eq, decide_eq_false_iff_not, Bool.not_eq_true', Bool.not_eq_false', Int.not_lt, Int.not_le, ne_eq, Decidable.not_not, bne_iff_ne, beq_iff_eq, not_true_eq_false, not_false_eq_true] at hc1
  have hX : errX e e' xs = xs := if_pos hc1
  refine x_skip ?_
  refine r_none rfl ?_
  exact ⟨rfl, A, c, by rw [hX]; exact hc, fun b hb => .inr ⟨_, List.mem_cons_of_mem _ (List.mem_cons_self ..), .inr (by rw [hX] at hb; exact hb)⟩, by rw [hX]; exact hS.sel (by repeat (first | exact Sel.nil | (refine Sel.cons (by repeat (exact Del.head)) ?_)))⟩

def takeE (e : Int) (xs : List Int) (k : Nat) : Int := if k ≤ xs.length then e else errE e 4
def takeX (e : Int) (xs : List Int) (k : Nat) : List Int := if k ≤ xs.length then xs.drop k else errX e 4 xs
def takeV (xs : List Int) (k : Nat) : List Int := if k ≤ xs.length then xs.take k else []
/-- what was taken: bytes that may be read, beside the cursor -/
def TkSt (w0 w' : World) (v : Value) (M : List Res) (g : Nat) (e : Int) (xs ys : List Int) : Prop := ∃ (A : Option Addr) (c : Nat) (B : Option Addr), v = .slice B ys.length ys.length ∧ xs.length ≤ c ∧ RdIn w0 M A xs.length ∧ RdIn w0 M B ys.length ∧ St (OwnB M) w0 w' (.obj g (.cells #[.int .i64 e, .slice A xs.length c] 189 (0, 0)) :: .rd A 1 xs.length (xs.map (Value.int .u8)) :: .rd B 1 ys.length (ys.map (Value.int .u8)) :: [])

theorem c_ctake (w0 : World) (g : Nat) (e : Int) (A : Option Addr) (c : Nat) (xs : List Int) (hc : xs.length ≤ c) (k : Nat) (hk : k ≤ 9223372036854775807) (hM : St (OwnB [.obj g (.cells #[.int .i64 e, .slice A xs.length c] 189 (0, 0)), .rd A 1 xs.length (xs.map (Value.int .u8))]) w0 w0 [.obj g (.cells #[.int .i64 e, .slice A xs.length c] 189 (0, 0)), .rd A 1 xs.length (xs.map (Value.int .u8))]) :
    CallR Tryz.prog 155 #[.pointer (some ⟨g, 0, none⟩), .int .i64 (k : Int)] w0 fun v w' => TkSt w0 w' v [.obj g (.cells #[.int .i64 e, .slice A xs.length c] 189 (0, 0)), .rd A 1 xs.length (xs.map (Value.int .u8))] g (takeE e xs k) (takeX e xs k) (takeV xs k) := by
 have hS := hM
 refine c_enter (l := [.pointer (some ⟨g, 0, none⟩), .int .i64 (k : Int), undef, undef, undef, undef, undef, undef, undef, undef, undef, undef, undef, undef, undef, undef, undef, undef, undef, undef, undef, undef, undef, undef, undef, undef, undef, undef, undef, undef, undef, undef]) Tryz.func155 rfl (by simp only [Tryz.ntmps155, List.size_toArray, List.length_cons, List.length_nil, Nat.reduceAdd, Nat.reduceSub, Array.replicate_succ, Array.replicate_zero, List.push_toArray, List.append_toArray, List.nil_append, List.cons_append]) ?_
 refine x_seq fun K1 hK1 => ?_
 refine x_region ?_
 refine s_go (s_assign) ?_
 try simp only [opv, n1, n2, n3, n4, Value.cells]
 refine x_nil ?_
 refine hK1 _ _ ?_
 refine x_seq fun K2 hK2 => ?_
 refine x_seq fun K3 hK3 => ?_
 refine x_region ?_
 refine s_go (s_move) ?_
 try simp only [opv, n1, n2, n3, n4, Value.cells]
 refine s_go (s_move) ?_
 try simp only [opv, n1, n2, n3, n4, Value.cells]
 refine s_go (s_nilCheck) ?_
 try simp only [opv, n1, n2, n3, n4, Value.cells]
 refine s_go (m_fieldAddr Tryz.underlying189 (hi := ti73)) ?_
 try simp only [opv, n1, n2, n3, n4, Value.cells, Nat.zero_add, Nat.add_zero, List.getElem_toArray, List.getElem_cons_zero, List.getElem_cons_succ]
 refine s_go (m_load_obj Tryz.underlying73 (hS := hS)) ?_
 try simp only [opv, n1, n2, n3, n4, Value.cells, List.getElem_toArray, List.getElem_cons_zero, List.getElem_cons_succ]
 refine s_go (s_len_sl Tryz.underlying73) ?_
 try simp only [opv, n1, n2, n3, n4, Value.cells]
 refine s_go (s_gtr) ?_
 try simp only [opv, n1, n2, n3, n4, Value.cells]
 refine x_nil ?_
 refine hK3 _ _ ?_
 refine x_cond (ht := fun hc1 => ?_) (hf := fun hc1 => ?_)
 ·
  try simp only [decide_eq_true_eq, decide_eq_false_iff_not, Bool.not_eq_true', Bool.not_eq_false', Int.not_lt, Int.not_le, ne_eq, Decidable.not_not, bne_iff_ne, beq_iff_eq, not_true_eq_false, not_false_eq_true] at hc1
  have hlt : ¬ k ≤ xs.length := by omega
  refine x_seq fun K4 hK4 => ?_
  refine x_region ?_
  refine s_go (s_move) ?_
  try simp only [opv, n1, n2, n3, n4, Value.cells]
  refine s_call en154 ?_
  try simp only [opv, n1, n2, n3, n4, Value.cells, List.map_toArray, List.map_cons, List.map_nil, List.append_toArray, List.cons_append, List.nil_append, Array.append_empty]
  refine CallR.mono (c_cerr _ g e A c xs hc 4 (hS.owns (by repeat (first | exact Spl.nil | (apply Spl.cons (by repeat (exact Del.head))))))) ?_
  rintro _ w1 ⟨rfl, A1, c1, hcp1, hR1, hC1⟩
  replace hS := hS.frame (by repeat (first | exact Spl.nil | (apply Spl.cons (by repeat (exact Del.head))))) hC1 (by intro r hr b hb; simp only [List.mem_cons, List.not_mem_nil, or_false] at hr; rcases hr with rfl | rfl <;> first | (simp [Res.reads] at hb; done) | exact hR1 b hb)
  simp only [List.cons_append, List.nil_append] at hS
  try simp only [opv, n1, n2, n3, n4, Value.cells]
  refine x_nil ?_
  refine hK4 _ _ ?_
  refine x_seq fun K5 hK5 => ?_
  refine x_region ?_
  refine s_go (s_assign) ?_
  try simp only [opv, n1, n2, n3, n4, Value.cells]
  refine x_nil ?_
  refine hK5 _ _ ?_
  refine x_ret ?_
  refine r_tmp rfl ?_
  replace hS := hS.rd_none none 1
  exact ⟨_, _, none, by simp only [takeV, if_neg hlt]; rfl, by simp only [takeX, if_neg hlt]; assumption, by simp only [takeX, if_neg hlt]; assumption, by simp only [takeV, if_neg hlt]; exact RdIn.none _ _ _, by simp only [takeE, takeX, takeV, if_neg hlt]; exact hS.sel (by repeat (first | exact Sel.nil | (refine Sel.cons (by repeat (first | exact Del.head | apply Del.tail)) ?_)))⟩
 ·
  try simp only [decide_eq_true_eq, decide_eq_false_iff_not, Bool.not_eq_true', Bool.not_eq_false', Int.not_lt, Int.not_le, ne_eq, Decidable.not_not, bne_iff_ne, beq_iff_eq, not_true_eq_false, not_false_eq_true] at hc1
  have hle : k ≤ xs.length := by omega
  refine x_skip ?_
  refine hK2 _ _ ?_
  refine x_seq fun K6 hK6 => ?_
  refine x_region ?_
  refine s_go (s_move) ?_
  try simp only [opv, n1, n2, n3, n4, Value.cells]
  refine s_go (s_nilCheck) ?_
  try simp only [opv, n1, n2, n3, n4, Value.cells]
  refine s_go (m_fieldAddr Tryz.underlying189 (hi := ti73)) ?_
  try simp only [opv, n1, n2, n3, n4, Value.cells, Nat.zero_add, Nat.add_zero, List.getElem_toArray, List.getElem_cons_zero, List.getElem_cons_succ]
  refine s_go (m_load_obj Tryz.underlying73 (hS := hS)) ?_
  try simp only [opv, n1, n2, n3, n4, Value.cells, List.getElem_toArray, List.getElem_cons_zero, List.getElem_cons_succ]
  refine s_go (s_move) ?_
  try simp only [opv, n1, n2, n3, n4, Value.cells]
  refine s_go (s_move) ?_
  try simp only [opv, n1, n2, n3, n4, Value.cells]
  refine m_slice_rd (lo := 0) (hi := k) (m := k) Tryz.underlying73 ti5 (hlo := rfl) (hhi := ⟨_, rfl⟩) (hmx := ⟨_, rfl⟩) (hS := hS) (h := fun A1 hA1 hS => ?_)
  try simp only [Nat.mul_one, Nat.zero_mul] at hA1
  try simp only [← List.map_append, ← List.map_drop, ← List.map_take, Nat.mul_one, Nat.zero_mul, Nat.sub_zero, List.drop_zero, List.nil_append, Nat.zero_add] at hS ⊢
  try simp only [opv, n1, n2, n3, n4, Value.cells, Array.toArray_toList] at hS ⊢
  refine s_go (s_assign) ?_
  try simp only [opv, n1, n2, n3, n4, Value.cells]
  refine x_nil ?_
  refine hK6 _ _ ?_
  refine x_seq fun K7 hK7 => ?_
  refine x_region ?_
  refine s_go (s_move) ?_
  try simp only [opv, n1, n2, n3, n4, Value.cells]
  refine s_go (s_move) ?_
  try simp only [opv, n1, n2, n3, n4, Value.cells]
  refine s_go (s_nilCheck) ?_
  try simp only [opv, n1, n2, n3, n4, Value.cells]
  refine s_go (m_fieldAddr Tryz.underlying189 (hi := ti73)) ?_
  try simp only [opv, n1, n2, n3, n4, Value.cells, Nat.zero_add, Nat.add_zero, List.getElem_toArray, List.getElem_cons_zero, List.getElem_cons_succ]
  refine s_go (m_load_obj Tryz.underlying73 (hS := hS)) ?_
  try simp only [opv, n1, n2, n3, n4, Value.cells, List.getElem_toArray, List.getElem_cons_zero, List.getElem_cons_succ]
  refine s_go (s_move) ?_
  try simp only [opv, n1, n2, n3, n4, Value.cells]
  refine m_slice_rd (lo := k) (hi := xs.length) (m := c) Tryz.underlying73 ti5 (hlo := ⟨_, rfl⟩) (hhi := ⟨rfl, rfl⟩) (hmx := rfl) (hS := hS) (h := fun A2 hA2 hS => ?_)
  try simp only [Nat.mul_one, Nat.zero_mul] at hA2
  try simp only [← List.map_append, ← List.map_drop, ← List.map_take, Nat.mul_one, Nat.zero_mul, Nat.sub_zero, List.drop_zero, List.nil_append, Nat.zero_add] at hS ⊢
  try simp only [opv, n1, n2, n3, n4, Value.cells, Array.toArray_toList] at hS ⊢
  rw [show List.take (xs.length - k) (List.drop k xs) = List.drop k xs from List.take_of_length_le (by simp)] at hS
  refine s_go (s_nilCheck) ?_
  try simp only [opv, n1, n2, n3, n4, Value.cells]
  refine s_go (m_fieldAddr Tryz.underlying189 (hi := ti73)) ?_
  try simp only [opv, n1, n2, n3, n4, Value.cells, Nat.zero_add, Nat.add_zero, List.getElem_toArray, List.getElem_cons_zero, List.getElem_cons_succ]
  refine m_store_obj ti73 (hS := hS) (h := fun w2 hS => ?_)
  try simp only [opv, n1, n2, n3, n4, Value.cells, Array.toArray_toList] at hS ⊢
  refine x_nil ?_
  refine hK7 _ _ ?_
  refine x_seq fun K8 hK8 => ?_
  refine x_region ?_
  refine s_go (s_move) ?_
  try simp only [opv, n1, n2, n3, n4, Value.cells]
  refine s_go (s_assign) ?_
  try simp only [opv, n1, n2, n3, n4, Value.cells]
  refine x_nil ?_
  refine hK8 _ _ ?_
  refine x_ret ?_
  refine r_tmp rfl ?_
  rw [← List.length_drop] at hS
  refine ⟨_, _, _, by simp only [takeV, if_pos hle, List.length_take, Nat.min_eq_left hle]; rfl, ?_, by simp only [takeX, if_pos hle]; exact RdIn.sub (List.mem_cons_of_mem _ (List.mem_cons_self ..)) (fun h => ⟨by simp at h; omega, hA2 (by simp at h; omega)⟩), by simp only [takeV, if_pos hle]; exact RdIn.sub (List.mem_cons_of_mem _ (List.mem_cons_self ..)) (fun h => ⟨by simp at h; omega, hA1 (by simp at h; omega)⟩), by simp only [takeE, takeX, takeV, if_pos hle, List.length_take, Nat.min_eq_left hle]; exact hS.sel (by repeat (first | exact Sel.nil | (refine Sel.cons (by repeat (first | exact Del.head | apply Del.tail)) ?_)))⟩
  simp only [takeX, if_pos hle, List.length_drop]; omega
theorem c_cwell (w0 : World) (g : Nat) (e : Int) (A : Option Addr) (c : Nat) (xs : List Int) (hc : xs.length ≤ c) (hM : St (OwnB [.obj g (.cells #[.int .i64 e, .slice A xs.length c] 189 (0, 0)), .rd A 1 xs.length (xs.map (Value.int .u8))]) w0 w0 [.obj g (.cells #[.int .i64 e, .slice A xs.length c] 189 (0, 0)), .rd A 1 xs.length (xs.map (Value.int .u8))]) :
    CallR Tryz.prog 192 #[.pointer (some ⟨g, 0, none⟩)] w0 fun v w' => v = .bool (decide (e = 0)) ∧ St (OwnB [.obj g (.cells #[.int .i64 e, .slice A xs.length c] 189 (0, 0)), .rd A 1 xs.length (xs.map (Value.int .u8))]) w0 w' [.obj g (.cells #[.int .i64 e, .slice A xs.length c] 189 (0, 0)), .rd A 1 xs.length (xs.map (Value.int .u8))] := by
 have hS := hM
 refine c_enter (l := [.pointer (some ⟨g, 0, none⟩), undef, undef, undef, undef, undef, undef, undef, undef, undef, undef, undef, undef]) Tryz.func192 rfl (by simp only [Tryz.ntmps192, List.size_toArray, List.length_cons, List.length_nil, Nat.reduceAdd, Nat.reduceSub, Array.replicate_succ, Array.replicate_zero, List.push_toArray, List.append_toArray, List.nil_append, List.cons_append]) ?_
 refine x_seq fun K1 hK1 => ?_
 refine x_region ?_
 refine s_go (s_assign) ?_
 try simp only [opv, n1, n2, n3, n4, Value.cells]
 refine x_nil ?_
 refine hK1 _ _ ?_
 refine x_seq fun K2 hK2 => ?_
 refine x_region ?_
 refine s_go (s_move) ?_
 try simp only [opv, n1, n2, n3, n4, Value.cells]
 refine s_go (s_neq_pointer Tryz.underlying130) ?_
 try simp only [opv, n1, n2, n3, n4, Value.cells]
 rw [show (!(some (⟨g, 0, none⟩ : Addr)).isNone) = true from rfl]
 refine s_go (s_move) ?_
 try simp only [opv, n1, n2, n3, n4, Value.cells]
 refine g_on (yi (t := 5) rfl rfl) ?_
 refine s_go (s_move) ?_
 try simp only [opv, n1, n2, n3, n4, Value.cells]
 refine g_on (yi (t := 5) rfl rfl) ?_
 refine s_go (s_nilCheck) ?_
 try simp only [opv, n1, n2, n3, n4, Value.cells]
 refine g_on (yi (t := 5) rfl rfl) ?_
 refine s_go (m_fieldAddr Tryz.underlying189 (hi := ti187)) ?_
 try simp only [opv, n1, n2, n3, n4, Value.cells, Nat.zero_add, Nat.add_zero, List.getElem_toArray, List.getElem_cons_zero, List.getElem_cons_succ]
 refine g_on (yi (t := 5) rfl rfl) ?_
 refine s_go (m_fieldAddr Tryz.underlying187 (hi := ti53)) ?_
 try simp only [opv, n1, n2, n3, n4, Value.cells, Nat.zero_add, Nat.add_zero, List.getElem_toArray, List.getElem_cons_zero, List.getElem_cons_succ]
 refine g_on (yi (t := 5) rfl rfl) ?_
 refine s_go (m_load_obj Tryz.underlying53 (hS := hS)) ?_
 try simp only [opv, n1, n2, n3, n4, Value.cells, List.getElem_toArray, List.getElem_cons_zero, List.getElem_cons_succ]
 refine g_on (yi (t := 5) rfl rfl) ?_
 refine s_go (s_eql) ?_
 try simp only [opv, n1, n2, n3, n4, Value.cells]
 refine s_go (s_pick_t) ?_
 try simp only [opv, n1, n2, n3, n4, Value.cells]
 refine s_go (s_assign) ?_
 try simp only [opv, n1, n2, n3, n4, Value.cells]
 refine x_nil ?_
 refine hK2 _ _ ?_
 refine x_ret ?_
 refine r_tmp rfl ?_
 exact ⟨rfl, hS⟩
theorem c_cErr (w0 : World) (g : Nat) (e : Int) (A : Option Addr) (c : Nat) (xs : List Int) (hc : xs.length ≤ c) (hM : St (OwnB [.obj g (.cells #[.int .i64 e, .slice A xs.length c] 189 (0, 0)), .rd A 1 xs.length (xs.map (Value.int .u8))]) w0 w0 [.obj g (.cells #[.int .i64 e, .slice A xs.length c] 189 (0, 0)), .rd A 1 xs.length (xs.map (Value.int .u8))]) :
    CallR Tryz.prog 150 #[.pointer (some ⟨g, 0, none⟩)] w0 fun v w' => v = .int .i64 e ∧ St (OwnB [.obj g (.cells #[.int .i64 e, .slice A xs.length c] 189 (0, 0)), .rd A 1 xs.length (xs.map (Value.int .u8))]) w0 w' [.obj g (.cells #[.int .i64 e, .slice A xs.length c] 189 (0, 0)), .rd A 1 xs.length (xs.map (Value.int .u8))] := by
 have hS := hM
 refine c_enter (l := [.pointer (some ⟨g, 0, none⟩), undef, undef, undef, undef, undef, undef, undef, undef, undef]) Tryz.func150 rfl (by simp only [Tryz.ntmps150, List.size_toArray, List.length_cons, List.length_nil, Nat.reduceAdd, Nat.reduceSub, Array.replicate_succ, Array.replicate_zero, List.push_toArray, List.append_toArray, List.nil_append, List.cons_append]) ?_
 refine x_seq fun K1 hK1 => ?_
 refine x_region ?_
 refine s_go (s_assign) ?_
 try simp only [opv, n1, n2, n3, n4, Value.cells]
 refine x_nil ?_
 refine hK1 _ _ ?_
 refine x_seq fun K2 hK2 => ?_
 refine x_seq fun K3 hK3 => ?_
 refine x_region ?_
 refine s_go (s_move) ?_
 try simp only [opv, n1, n2, n3, n4, Value.cells]
 refine s_go (s_eql_pointer Tryz.underlying130) ?_
 try simp only [opv, n1, n2, n3, n4, Value.cells]
 refine x_nil ?_
 refine hK3 _ _ ?_
 refine x_cond_f (h := ?_)
 refine x_skip ?_
 refine hK2 _ _ ?_
 refine x_seq fun K4 hK4 => ?_
 refine x_region ?_
 refine s_go (s_move) ?_
 try simp only [opv, n1, n2, n3, n4, Value.cells]
 refine s_go (s_nilCheck) ?_
 try simp only [opv, n1, n2, n3, n4, Value.cells]
 refine s_go (m_fieldAddr Tryz.underlying189 (hi := ti187)) ?_
 try simp only [opv, n1, n2, n3, n4, Value.cells, Nat.zero_add, Nat.add_zero, List.getElem_toArray, List.getElem_cons_zero, List.getElem_cons_succ]
 refine s_go (m_fieldAddr Tryz.underlying187 (hi := ti53)) ?_
 try simp only [opv, n1, n2, n3, n4, Value.cells, Nat.zero_add, Nat.add_zero, List.getElem_toArray, List.getElem_cons_zero, List.getElem_cons_succ]
 refine s_go (m_load_obj Tryz.underlying53 (hS := hS)) ?_
 try simp only [opv, n1, n2, n3, n4, Value.cells, List.getElem_toArray, List.getElem_cons_zero, List.getElem_cons_succ]
 refine s_go (s_assign) ?_
 try simp only [opv, n1, n2, n3, n4, Value.cells]
 refine x_nil ?_
 refine hK4 _ _ ?_
 refine x_ret ?_
 refine r_tmp rfl ?_
 exact ⟨rfl, hS⟩
theorem c_cLeft (w0 : World) (g : Nat) (e : Int) (A : Option Addr) (c : Nat) (xs : List Int) (hc : xs.length ≤ c) (hM : St (OwnB [.obj g (.cells #[.int .i64 e, .slice A xs.length c] 189 (0, 0)), .rd A 1 xs.length (xs.map (Value.int .u8))]) w0 w0 [.obj g (.cells #[.int .i64 e, .slice A xs.length c] 189 (0, 0)), .rd A 1 xs.length (xs.map (Value.int .u8))]) :
    CallR Tryz.prog 156 #[.pointer (some ⟨g, 0, none⟩)] w0 fun v w' => v = .int .i64 (xs.length : Int) ∧ St (OwnB [.obj g (.cells #[.int .i64 e, .slice A xs.length c] 189 (0, 0)), .rd A 1 xs.length (xs.map (Value.int .u8))]) w0 w' [.obj g (.cells #[.int .i64 e, .slice A xs.length c] 189 (0, 0)), .rd A 1 xs.length (xs.map (Value.int .u8))] := by
 have hS := hM
 refine c_enter (l := [.pointer (some ⟨g, 0, none⟩), undef, undef, undef, undef, undef, undef, undef, undef, undef]) Tryz.func156 rfl (by simp only [Tryz.ntmps156, List.size_toArray, List.length_cons, List.length_nil, Nat.reduceAdd, Nat.reduceSub, Array.replicate_succ, Array.replicate_zero, List.push_toArray, List.append_toArray, List.nil_append, List.cons_append]) ?_
 refine x_seq fun K1 hK1 => ?_
 refine x_region ?_
 refine s_go (s_assign) ?_
 try simp only [opv, n1, n2, n3, n4, Value.cells]
 refine x_nil ?_
 refine hK1 _ _ ?_
 refine x_seq fun K2 hK2 => ?_
 refine x_seq fun K3 hK3 => ?_
 refine x_region ?_
 refine s_go (s_move) ?_
 try simp only [opv, n1, n2, n3, n4, Value.cells]
 refine s_go (s_eql_pointer Tryz.underlying130) ?_
 try simp only [opv, n1, n2, n3, n4, Value.cells]
 refine x_nil ?_
 refine hK3 _ _ ?_
 refine x_cond_f (h := ?_)
 refine x_skip ?_
 refine hK2 _ _ ?_
 refine x_seq fun K4 hK4 => ?_
 refine x_region ?_
 refine s_go (s_move) ?_
 try simp only [opv, n1, n2, n3, n4, Value.cells]
 refine s_go (s_nilCheck) ?_
 try simp only [opv, n1, n2, n3, n4, Value.cells]
 refine s_go (m_fieldAddr Tryz.underlying189 (hi := ti73)) ?_
 try simp only [opv, n1, n2, n3, n4, Value.cells, Nat.zero_add, Nat.add_zero, List.getElem_toArray, List.getElem_cons_zero, List.getElem_cons_succ]
 refine s_go (m_load_obj Tryz.underlying73 (hS := hS)) ?_
 try simp only [opv, n1, n2, n3, n4, Value.cells, List.getElem_toArray, List.getElem_cons_zero, List.getElem_cons_succ]
 refine s_go (s_len_sl Tryz.underlying73) ?_
 try simp only [opv, n1, n2, n3, n4, Value.cells]
 refine s_go (s_assign) ?_
 try simp only [opv, n1, n2, n3, n4, Value.cells]
 refine x_nil ?_
 refine hK4 _ _ ?_
 refine x_ret ?_
 refine r_tmp rfl ?_
 exact ⟨rfl, hS⟩
theorem c_cDone (w0 : World) (g : Nat) (e : Int) (A : Option Addr) (c : Nat) (xs : List Int) (hc : xs.length ≤ c) (hM : St (OwnB [.obj g (.cells #[.int .i64 e, .slice A xs.length c] 189 (0, 0)), .rd A 1 xs.length (xs.map (Value.int .u8))]) w0 w0 [.obj g (.cells #[.int .i64 e, .slice A xs.length c] 189 (0, 0)), .rd A 1 xs.length (xs.map (Value.int .u8))]) :
    CallR Tryz.prog 89 #[.pointer (some ⟨g, 0, none⟩)] w0 fun v w' => v = .int .i64 (if 0 < xs.length then 3 else e) ∧ St (OwnB [.obj g (.cells #[.int .i64 e, .slice A xs.length c] 189 (0, 0)), .rd A 1 xs.length (xs.map (Value.int .u8))]) w0 w' [.obj g (.cells #[.int .i64 e, .slice A xs.length c] 189 (0, 0)), .rd A 1 xs.length (xs.map (Value.int .u8))] := by
 have hS := hM
 refine c_enter (l := [.pointer (some ⟨g, 0, none⟩), undef, undef, undef, undef, undef, undef, undef]) Tryz.func89 rfl (by simp only [Tryz.ntmps89, List.size_toArray, List.length_cons, List.length_nil, Nat.reduceAdd, Nat.reduceSub, Array.replicate_succ, Array.replicate_zero, List.push_toArray, List.append_toArray, List.nil_append, List.cons_append]) ?_
 refine x_seq fun K1 hK1 => ?_
 refine x_region ?_
 refine s_go (s_assign) ?_
 try simp only [opv, n1, n2, n3, n4, Value.cells]
 refine x_nil ?_
 refine hK1 _ _ ?_
 refine x_seq fun K2 hK2 => ?_
 refine x_seq fun K3 hK3 => ?_
 refine x_region ?_
 refine s_go (s_move) ?_
 try simp only [opv, n1, n2, n3, n4, Value.cells]
 refine s_call en156 ?_
 try simp only [opv, n1, n2, n3, n4, Value.cells, List.map_toArray, List.map_cons, List.map_nil, List.append_toArray, List.cons_append, List.nil_append, Array.append_empty]
 refine CallR.mono (c_cLeft _ g _ _ _ _ (by assumption) (hS.owns (by repeat (first | exact Spl.nil | (apply Spl.cons (by repeat (exact Del.head))))))) ?_
 rintro _ w1 ⟨rfl, hC1⟩
 replace hS := hS.frame (by repeat (first | exact Spl.nil | (apply Spl.cons (by repeat (exact Del.head))))) hC1 (by intro r hr g hg; simp only [List.mem_cons, List.not_mem_nil, or_false] at hr; rcases hr with rfl | rfl | rfl <;> first | (simp [Res.reads] at hg; done) | exact .inr ⟨_, by simp, .inr hg⟩)
 simp only [List.cons_append, List.nil_append] at hS
 try simp only [opv, n1, n2, n3, n4, Value.cells]
 refine s_go (s_gtr) ?_
 try simp only [opv, n1, n2, n3, n4, Value.cells]
 refine x_nil ?_
 refine hK3 _ _ ?_
 refine x_cond (ht := fun hc1 => ?_) (hf := fun hc1 => ?_)
 ·
  try simp only [decide_eq_true_eq, decide_eq_false_iff_not, Bool.not_eq_true', Bool.not_eq_false', Int.not_lt, Int.not_le, ne_eq, Decidable.not_not, bne_iff_ne, beq_iff_eq, not_true_eq_false, not_false_eq_true] at hc1
  have hL : (if 0 < xs.length then (3 : Int) else e) = 3 := if_pos (by omega)
  refine x_seq fun K4 hK4 => ?_
  refine x_region ?_
  refine s_go (s_assign) ?_
  try simp only [opv, n1, n2, n3, n4, Value.cells]
  refine x_nil ?_
  refine hK4 _ _ ?_
  refine x_ret ?_
  refine r_tmp rfl ?_
  exact ⟨by rw [hL]; rfl, hS⟩
 ·
  try simp only [decide_eq_true_eq, decide_eq_false_iff_not, Bool.not_eq_true', Bool.not_eq_false', Int.not_lt, Int.not_le, ne_eq, Decidable.not_not, bne_iff_ne, beq_iff_eq, not_true_eq_false, not_false_eq_true] at hc1
  have hL : (if 0 < xs.length then (3 : Int) else e) = e := if_neg (by omega)
  refine x_skip ?_
  refine hK2 _ _ ?_
  refine x_seq fun K5 hK5 => ?_
  refine x_region ?_
  refine s_go (s_move) ?_
  try simp only [opv, n1, n2, n3, n4, Value.cells]
  refine s_call en150 ?_
  try simp only [opv, n1, n2, n3, n4, Value.cells, List.map_toArray, List.map_cons, List.map_nil, List.append_toArray, List.cons_append, List.nil_append, Array.append_empty]
  refine CallR.mono (c_cErr _ g _ _ _ _ (by assumption) (hS.owns (by repeat (first | exact Spl.nil | (apply Spl.cons (by repeat (exact Del.head))))))) ?_
  rintro _ w2 ⟨rfl, hC2⟩
  replace hS := hS.frame (by repeat (first | exact Spl.nil | (apply Spl.cons (by repeat (exact Del.head))))) hC2 (by intro r hr g hg; simp only [List.mem_cons, List.not_mem_nil, or_false] at hr; rcases hr with rfl | rfl | rfl <;> first | (simp [Res.reads] at hg; done) | exact .inr ⟨_, by simp, .inr hg⟩)
  simp only [List.cons_append, List.nil_append] at hS
  try simp only [opv, n1, n2, n3, n4, Value.cells]
  refine s_go (s_assign) ?_
  try simp only [opv, n1, n2, n3, n4, Value.cells]
  refine x_nil ?_
  refine hK5 _ _ ?_
  refine x_ret ?_
  refine r_tmp rfl ?_
  exact ⟨by rw [hL]; rfl, hS⟩

theorem take1_len {xs : List Int} : (takeV xs 1).length = if 1 ≤ xs.length then 1 else 0 := by
  unfold takeV; split
  · simp; omega
  · rfl
def oneV (xs : List Int) : Int := if 1 ≤ xs.length then xs.getD 0 0 else 0
theorem take1_get {xs : List Int} (h : (takeV xs 1).length = 1) : (takeV xs 1).getD 0 0 = oneV xs := by
  rw [take1_len] at h
  have h1 : 1 ≤ xs.length := by split at h <;> omega
  rw [takeV, oneV, if_pos h1, if_pos h1]
  match xs, h1 with
  | x :: _, _ => rfl
theorem take1_no {xs : List Int} (h : ¬ (takeV xs 1).length = 1) : oneV xs = 0 := by
  rw [take1_len] at h
  rw [oneV, if_neg (by split at h <;> omega)]

theorem c_cone (w0 : World) (g : Nat) (e : Int) (A : Option Addr) (c : Nat) (xs : List Int) (hc : xs.length ≤ c) (hM : St (OwnB [.obj g (.cells #[.int .i64 e, .slice A xs.length c] 189 (0, 0)), .rd A 1 xs.length (xs.map (Value.int .u8))]) w0 w0 [.obj g (.cells #[.int .i64 e, .slice A xs.length c] 189 (0, 0)), .rd A 1 xs.length (xs.map (Value.int .u8))]) :
    CallR Tryz.prog 240 #[.pointer (some ⟨g, 0, none⟩)] w0 fun v w' => v = .int .u8 (oneV xs) ∧ CuSt w0 w' [.obj g (.cells #[.int .i64 e, .slice A xs.length c] 189 (0, 0)), .rd A 1 xs.length (xs.map (Value.int .u8))] g (takeE e xs 1) (takeX e xs 1) [] := by
 have hS := hM
 refine c_enter (l := [.pointer (some ⟨g, 0, none⟩), undef, undef, undef, undef, undef, undef, undef, undef, undef, undef, undef]) Tryz.func240 rfl (by simp only [Tryz.ntmps240, List.size_toArray, List.length_cons, List.length_nil, Nat.reduceAdd, Nat.reduceSub, Array.replicate_succ, Array.replicate_zero, List.push_toArray, List.append_toArray, List.nil_append, List.cons_append]) ?_
 refine x_seq fun K1 hK1 => ?_
 refine x_region ?_
 refine s_go (s_assign) ?_
 try simp only [opv, n1, n2, n3, n4, Value.cells]
 refine x_nil ?_
 refine hK1 _ _ ?_
 refine x_seq fun K2 hK2 => ?_
 refine x_seq fun K3 hK3 => ?_
 refine x_region ?_
 refine s_go (s_move) ?_
 try simp only [opv, n1, n2, n3, n4, Value.cells]
 refine s_call en155 ?_
 try simp only [opv, n1, n2, n3, n4, Value.cells, List.map_toArray, List.map_cons, List.map_nil, List.append_toArray, List.cons_append, List.nil_append, Array.append_empty]
 refine CallR.mono (c_ctake _ g e A c xs hc 1 (by omega) (hS.owns (by repeat (first | exact Spl.nil | (apply Spl.cons (by repeat (exact Del.head))))))) ?_
 rintro _ w1 ⟨A1, c1, B1, rfl, hcp1, hR1, hQ1, hC1⟩
 replace hS := hS.frame (by repeat (first | exact Spl.nil | (apply Spl.cons (by repeat (exact Del.head))))) hC1 (by intro r hr b hb; simp only [List.mem_cons, List.not_mem_nil, or_false] at hr; rcases hr with rfl | rfl | rfl <;> first | (simp [Res.reads] at hb; done) | exact hR1 b hb | exact hQ1 b hb)
 simp only [List.cons_append, List.nil_append] at hS
 try simp only [opv, n1, n2, n3, n4, Value.cells]
 refine s_go (s_assign) ?_
 try simp only [opv, n1, n2, n3, n4, Value.cells]
 refine x_nil ?_
 refine hK3 _ _ ?_
 refine x_seq fun K4 hK4 => ?_
 refine x_region ?_
 refine s_go (s_move) ?_
 try simp only [opv, n1, n2, n3, n4, Value.cells]
 refine s_go (s_len_sl Tryz.underlying73) ?_
 try simp only [opv, n1, n2, n3, n4, Value.cells]
 refine s_go (s_eql) ?_
 try simp only [opv, n1, n2, n3, n4, Value.cells]
 refine x_nil ?_
 refine hK4 _ _ ?_
 refine x_cond (ht := fun hc1 => ?_) (hf := fun hc1 => ?_)
 ·
  try simp only [decide_eq_true_eq, decide_eq_false_iff_not, Bool.not_eq_true', Bool.not_eq_false', Int.not_lt, Int.not_le, ne_eq, Decidable.not_not, bne_iff_ne, beq_iff_eq, not_true_eq_false, not_false_eq_true] at hc1
  have h1 : (takeV xs 1).length = 1 := by omega
  refine x_seq fun K5 hK5 => ?_
  refine x_region ?_
  refine s_go (s_move) ?_
  try simp only [opv, n1, n2, n3, n4, Value.cells]
  refine s_go (m_indexAddr_rd Tryz.underlying73 ti5 (hS := hS)) ?_
  try simp only [opv, n1, n2, n3, n4, Value.cells, Nat.mul_one, Nat.zero_add, Int.toNat_natCast, Int.reduceToNat]
  refine s_go (m_load_rd Tryz.underlying5 (hS := hS)) ?_
  try simp only [opv, n1, n2, n3, n4, Value.cells, List.getElem_toArray, List.getElem_cons_zero, List.getElem_cons_succ]
  refine s_go (s_assign) ?_
  try simp only [opv, n1, n2, n3, n4, Value.cells]
  refine x_nil ?_
  refine hK5 _ _ ?_
  refine x_ret ?_
  refine r_tmp rfl ?_
  exact ⟨by rw [← take1_get h1]; rfl, _, _, by assumption, by assumption, hS.sel (by repeat (first | exact Sel.nil | (refine Sel.cons (by repeat (exact Del.head)) ?_)))⟩
 ·
  try simp only [decide_eq_true_eq, decide_eq_false_iff_not, Bool.not_eq_true', Bool.not_eq_false', Int.not_lt, Int.not_le, ne_eq, Decidable.not_not, bne_iff_ne, beq_iff_eq, not_true_eq_false, not_false_eq_true] at hc1
  have h1 : ¬ (takeV xs 1).length = 1 := by omega
  refine x_skip ?_
  refine hK2 _ _ ?_
  refine x_seq fun K6 hK6 => ?_
  refine x_region ?_
  refine s_go (s_assign) ?_
  try simp only [opv, n1, n2, n3, n4, Value.cells]
  refine x_nil ?_
  refine hK6 _ _ ?_
  refine x_ret ?_
  refine r_tmp rfl ?_
  exact ⟨by rw [take1_no h1]; rfl, _, _, by assumption, by assumption, hS.sel (by repeat (first | exact Sel.nil | (refine Sel.cons (by repeat (exact Del.head)) ?_)))⟩
theorem c_cFrom (w0 : World) (B : Option Addr) (d : Nat) (ys : List Int) (hr : Rd w0 B 1 ys.length (ys.map (Value.int .u8))) (hy : ys.length ≤ 1000000000) :
    CallR Tryz.prog 83 #[.slice B ys.length d] w0 fun v w' => ∃ g A c, v = .pointer (some ⟨g, 0, none⟩) ∧ ys.length ≤ c ∧ St NoB w0 w' [.obj g (.cells #[.int .i64 0, .slice A ys.length c] 189 (0, 0)), .vec A c 5 1 ys.length (ys.map (Value.int .u8))] := by
 have hS := St.rd1 (S := NoB) hr
 refine c_enter (l := [.slice B ys.length d, undef, undef, undef, undef, undef, undef, undef]) Tryz.func83 rfl (by simp only [Tryz.ntmps83, List.size_toArray, List.length_cons, List.length_nil, Nat.reduceAdd, Nat.reduceSub, Array.replicate_succ, Array.replicate_zero, List.push_toArray, List.append_toArray, List.nil_append, List.cons_append]) ?_
 refine x_seq fun K1 hK1 => ?_
 refine x_region ?_
 refine s_go (s_assign) ?_
 try simp only [opv, n1, n2, n3, n4, Value.cells]
 refine x_nil ?_
 refine hK1 _ _ ?_
 refine x_seq fun K2 hK2 => ?_
 refine x_region ?_
 refine m_buildRow (cells := #[]) Tryz.underlying73 ti5 (hc := by simp only [List.map_toArray, List.map_cons, List.map_nil, opv, n1, n2, n3, n4, Value.cells, List.toList_toArray]; (repeat (refine fill_cons rfl rfl (Nat.le_of_ble_eq_true rfl) ?_)); rfl) (hS := hS) (h := fun w1 g1 hS => ?_)
 try simp only [opv, n1, n2, n3, n4, Value.cells, Array.toArray_toList] at hS ⊢
 replace hS := hS.obj_vec (sz := 1) (n := 0) rfl (by decide) .head
 refine s_go (s_move) ?_
 try simp only [opv, n1, n2, n3, n4, Value.cells]
 refine m_append Tryz.underlying73 ti5 (hS := hS) (h := fun w2 A2 C2 hS => ?_)
 try simp only [← List.map_append, ← List.map_drop, ← List.map_take, Nat.mul_one, Nat.zero_mul, Nat.sub_zero, List.drop_zero, List.nil_append, Nat.zero_add] at hS ⊢
 try simp only [opv, n1, n2, n3, n4, Value.cells, Array.toArray_toList] at hS ⊢
 have hcq := hS.vec_cap (by exact Has.head)
 refine s_go (s_build_struct (cells := #[.int .i64 0, _]) Tryz.underlying189 ti189 bp189 (hc := by simp only [List.map_toArray, List.map_cons, List.map_nil, opv, n1, n2, n3, n4, Value.cells, List.toList_toArray]; (repeat (refine fill_cons rfl rfl (Nat.le_of_ble_eq_true rfl) ?_)); rfl)) ?_
 try simp only [opv, n1, n2, n3, n4, Value.cells]
 refine m_box hS (fun w3 g3 hS => ?_)
 try simp only [opv, n1, n2, n3, n4, Value.cells, Array.toArray_toList] at hS ⊢
 refine s_go (s_assign) ?_
 try simp only [opv, n1, n2, n3, n4, Value.cells]
 refine x_nil ?_
 refine hK2 _ _ ?_
 refine x_ret ?_
 refine r_tmp rfl ?_
 exact ⟨_, _, _, rfl, hcq, hS.sel (by repeat (first | exact Sel.nil | (refine Sel.cons (by repeat (exact Del.head)) ?_)))⟩
end Go.Proofs.YtffmanidnlbjjaaGreat
namespace Go.Proofs.YtffmanidnlbjjaaGreat
def numS (m : Nat) (e : Int) (xs : List Int) : Nat × Int × List Int :=
  if e = 0 then (if (unvar xs).2.2 = 0 then (if (unvar xs).1 ≤ m then ((unvar xs).1, 0, xs.drop (unvar xs).2.1) else (0, 2, [])) else (0, ((unvar xs).2.2 : Int), [])) else (0, e, xs)
def oneS (e : Int) (xs : List Int) : Int × Int × List Int :=
  if e = 0 then (if 1 ≤ xs.length then (xs.getD 0 0, 0, xs.drop 1) else (0, 4, [])) else (0, e, xs)
def namS (e : Int) (xs : List Int) : List Int × Int × List Int :=
  if e = 0 then
    if 1 ≤ xs.length then
      if xs.getD 0 0 ≤ 8 then
        if 1 + (xs.getD 0 0).toNat ≤ xs.length then
          if xs.getD 0 0 = 0 ∨ isN ((xs.drop 1).take (xs.getD 0 0).toNat) = true then (padN ((xs.drop 1).take (xs.getD 0 0).toNat), 0, xs.drop (1 + (xs.getD 0 0).toNat)) else (nm0, 3, [])
        else (nm0, 4, [])
      else (nm0, 3, [])
    else (nm0, 4, [])
  else (nm0, e, xs)
theorem namS_len (e : Int) (xs : List Int) : (namS e xs).1.length = 8 := by
  unfold namS
  repeat' split
  all_goals first | exact padN_len _ | rfl
theorem namS_byt {e : Int} {xs : List Int} (h : Byt xs) : Byt (namS e xs).1 := by
  unfold namS
  repeat' split
  all_goals first | exact padN_byt ((h.drop _).take _) | exact nm0_byt
theorem numS_le (m : Nat) (e : Int) (xs : List Int) : (numS m e xs).1 ≤ m := by
  unfold numS
  repeat' split
  all_goals first | assumption | omega
theorem numS_byt {m : Nat} {e : Int} {xs : List Int} (h : Byt xs) : Byt (numS m e xs).2.2 := by
  unfold numS
  repeat' split
  all_goals first | exact h | exact h.drop _ | (intro y hy; simp at hy)
theorem oneS_byt {e : Int} {xs : List Int} (h : Byt xs) : Byt (oneS e xs).2.2 := by
  unfold oneS
  repeat' split
  all_goals first | exact h | exact h.drop _ | (intro y hy; simp at hy)
theorem namS_byt' {e : Int} {xs : List Int} (h : Byt xs) : Byt (namS e xs).2.2 := by
  unfold namS
  repeat' split
  all_goals first | exact h | exact h.drop _ | (intro y hy; simp at hy)
theorem oneS_val {e : Int} {xs : List Int} (h : Byt xs) : 0 ≤ (oneS e xs).1 ∧ (oneS e xs).1 ≤ 255 := by
  unfold oneS
  repeat' split
  all_goals first | exact h.get 0 | (constructor <;> simp)
theorem numS_len (m : Nat) (e : Int) (xs : List Int) : (numS m e xs).2.2.length ≤ xs.length := by
  unfold numS
  repeat' split
  all_goals simp
theorem oneS_len (e : Int) (xs : List Int) : (oneS e xs).2.2.length ≤ xs.length := by
  unfold oneS
  repeat' split
  all_goals simp
theorem namS_len' (e : Int) (xs : List Int) : (namS e xs).2.2.length ≤ xs.length := by
  unfold namS
  repeat' split
  all_goals simp
theorem numS_back {x m : Nat} (hx : x < 18446744073709551616) (hm : x ≤ m) (l : List Int) : numS m 0 (vari x ++ l) = (x, 0, l) := by
  simp [numS, unvar_app hx, hm]
theorem oneS_back (b : Int) (l : List Int) : oneS 0 (b :: l) = (b, 0, l) := by simp [oneS]
theorem padTxt {l : List Int} (h : l.length = 8) (hr : nright l = true) : isN (nmTxt l) = true ∧ padN (nmTxt l) = l := by
  rw [nright_eq h, Bool.and_eq_true, decide_eq_true_eq] at hr
  exact hr
theorem namS_back {n : List Int} (h : n.length = 8) (hr : n = nm0 ∨ nright n = true) (l : List Int) : namS 0 (nmOut n ++ l) = (n, 0, l) := by
  have h8 := nsz_le n
  have hl := nmTxt_len n
  have h2 : ((nsz n : Int) :: nmTxt n ++ l).getD 0 0 = (nsz n : Int) := rfl
  have h3 : ((nsz n : Int)).toNat = nsz n := Int.toNat_natCast _
  have h4 : (((nsz n : Int) :: nmTxt n ++ l).drop 1).take (nsz n) = nmTxt n := by
    rw [List.cons_append, List.drop_succ_cons, List.drop_zero]; exact List.take_left' hl
  have h5 : ((nsz n : Int) :: nmTxt n ++ l).drop (1 + nsz n) = l := by
    rw [List.cons_append, Nat.add_comm, List.drop_succ_cons]; exact List.drop_left' hl
  have hlen : ((nsz n : Int) :: nmTxt n ++ l).length = nsz n + 1 + l.length := by simp [hl]; omega
  unfold namS nmOut
  rw [if_pos rfl, if_pos (by rw [hlen]; omega), h2, if_pos (by omega), h3, if_pos (by rw [hlen]; omega), h4, h5]
  rcases hr with rfl | hr
  · rw [if_pos (.inl (by decide))]; rfl
  · obtain ⟨h6, h7⟩ := padTxt h hr
    rw [if_pos (.inr h6), h7]
end Go.Proofs.YtffmanidnlbjjaaGreat
namespace Go.Proofs.YtffmanidnlbjjaaGreat
section
variable {e : Int} {xs : List Int} {m : Nat}
theorem numS_err (h : ¬ e = 0) : numS m e xs = (0, e, xs) := by simp [numS, h]
theorem oneS_err (h : ¬ e = 0) : oneS e xs = (0, e, xs) := by simp [oneS, h]
theorem namS_err (h : ¬ e = 0) : namS e xs = (nm0, e, xs) := by simp [namS, h]
end
/-- no bytes come behind an error -/
def ErrOk (e : Int) (xs : List Int) : Prop := ¬ e = 0 → xs = []
theorem numS_ok {m : Nat} {e : Int} {xs : List Int} (h : ErrOk e xs) : ErrOk (numS m e xs).2.1 (numS m e xs).2.2 := by
  unfold numS
  repeat' split
  all_goals first | exact h | (intro h2; first | rfl | exact absurd rfl h2)
theorem oneS_ok {e : Int} {xs : List Int} (h : ErrOk e xs) : ErrOk (oneS e xs).2.1 (oneS e xs).2.2 := by
  unfold oneS
  repeat' split
  all_goals first | exact h | (intro h2; first | rfl | exact absurd rfl h2)
theorem namS_ok {e : Int} {xs : List Int} (h : ErrOk e xs) : ErrOk (namS e xs).2.1 (namS e xs).2.2 := by
  unfold namS
  repeat' split
  all_goals first | exact h | (intro h2; first | rfl | exact absurd rfl h2)
def keyS (e : Int) (xs : List Int) : List Int × Int × List Int :=
  if (oneS e xs).2.1 = 0 then
    if 1 ≤ (oneS e xs).1 ∧ (oneS e xs).1 ≤ 4 then
      if (numS 65535 (oneS e xs).2.1 (oneS e xs).2.2).2.1 = 0 then
        if (oneS e xs).1 = 4 then (mkKey 4 (numS 65535 (oneS e xs).2.1 (oneS e xs).2.2).1 nm0 0 0, (numS 65535 (oneS e xs).2.1 (oneS e xs).2.2).2) else
        keyT (oneS e xs).1 (numS 65535 (oneS e xs).2.1 (oneS e xs).2.2).1 (numS 65535 (oneS e xs).2.1 (oneS e xs).2.2).2.1 (numS 65535 (oneS e xs).2.1 (oneS e xs).2.2).2.2
      else (key0, (numS 65535 (oneS e xs).2.1 (oneS e xs).2.2).2)
    else (key0, 3, [])
  else (key0, (oneS e xs).2)
where
  /-- a name, a replica, a number -/
  keyT (s : Int) (c : Nat) (e : Int) (xs : List Int) : List Int × Int × List Int :=
    if (namS e xs).2.1 = 0 then
      if (namS e xs).1 = nm0 then (key0, 3, []) else
      if (oneS (namS e xs).2.1 (namS e xs).2.2).2.1 = 0 then
        if 16 ≤ (oneS (namS e xs).2.1 (namS e xs).2.2).1 then (key0, 2, []) else
        if s = 1 then keyQ c (namS e xs).1 (oneS (namS e xs).2.1 (namS e xs).2.2).1 (oneS (namS e xs).2.1 (namS e xs).2.2).2.1 (oneS (namS e xs).2.1 (namS e xs).2.2).2.2 else
        (mkKey s.toNat c (namS e xs).1 (oneS (namS e xs).2.1 (namS e xs).2.2).1.toNat 0, (oneS (namS e xs).2.1 (namS e xs).2.2).2)
      else (key0, (oneS (namS e xs).2.1 (namS e xs).2.2).2)
    else (key0, (namS e xs).2)
  keyQ (c : Nat) (nm : List Int) (r : Int) (e : Int) (xs : List Int) : List Int × Int × List Int :=
    if (numS 4294967295 e xs).2.1 = 0 then
      if (numS 4294967295 e xs).1 = 0 then (key0, 3, []) else (mkKey 1 c nm r.toNat (numS 4294967295 e xs).1, (numS 4294967295 e xs).2)
    else (key0, (numS 4294967295 e xs).2)
theorem nright_ne {l : List Int} (h : nright l = true) : ¬ l = nm0 := fun e => by subst e; revert h; decide
theorem keyR_cases {x : List Int} (hk : KeyOk x) (h : keyR x = true) :
    (kn x 0 = 4 ∧ x = bareK x) ∨ ((kn x 0 = 1 ∨ kn x 0 = 2 ∨ kn x 0 = 3) ∧ nright (kitem x) = true ∧ kn x 10 < 16 ∧ (kn x 0 = 1 ↔ ¬ kn x 11 = 0)) := by
  unfold keyR at h
  split at h
  · next h4 => exact .inl ⟨h4, by simpa using h⟩
  · split at h
    · next h1 =>
      simp only [Bool.and_eq_true, decide_eq_true_eq] at h
      exact .inr ⟨.inl h1, h.1.2, h.2, by simp [h1, h.1.1]⟩
    · split at h
      · next h1 h23 =>
        simp only [Bool.and_eq_true, decide_eq_true_eq] at h
        exact .inr ⟨.inr h23, h.1.2, h.2, by simp [h1, h.1.1]⟩
      · cases h
theorem keyS_back {x : List Int} (hk : KeyOk x) (h : keyR x = true) (l : List Int) : keyS 0 (keyOut x ++ l) = (x, 0, l) := by
  have h1 : kn x 1 < 18446744073709551616 := by have := hk.b1; omega
  have h11 : kn x 11 < 18446744073709551616 := by have := hk.b11; omega
  have hm1 : kn x 1 ≤ 65535 := by have := hk.b1; omega
  have hm11 : kn x 11 ≤ 4294967295 := by have := hk.b11; omega
  have hil := kitem_len hk.len
  have e1 : keyOut x ++ l = (kn x 0 : Int) :: (vari (kn x 1) ++ ((if kn x 0 = 4 then [] else nmOut (kitem x) ++ [(kn x 10 : Int)] ++ (if kn x 0 = 1 then vari (kn x 11) else [])) ++ l)) := by
    simp [keyOut]
  have hx := key_mk hk
  rw [e1]
  unfold keyS
  rw [oneS_back]
  simp only [numS_back h1 hm1, if_true]
  rcases keyR_cases hk h with ⟨h4, hb⟩ | ⟨hs, hn, hr, hq⟩
  · rw [if_pos (by omega), if_pos (by omega), if_pos h4]
    have e2 : x = mkKey 4 (kn x 1) nm0 0 0 := by rw [bareK, h4] at hb; exact hb
    rw [← e2]; rfl
  · have hne4 : ¬ kn x 0 = 4 := by omega
    rw [if_pos (by omega), if_neg (by omega), if_neg hne4]
    have e2 : nmOut (kitem x) ++ [(kn x 10 : Int)] ++ (if kn x 0 = 1 then vari (kn x 11) else []) ++ l = nmOut (kitem x) ++ ((kn x 10 : Int) :: ((if kn x 0 = 1 then vari (kn x 11) else []) ++ l)) := by simp
    rw [e2]
    unfold keyS.keyT
    simp only [namS_back hil (.inr hn), if_true, if_neg (nright_ne hn), oneS_back]
    rw [if_neg (by omega)]
    by_cases hs1 : kn x 0 = 1
    · rw [if_pos (by omega), if_pos hs1]
      unfold keyS.keyQ
      simp only [numS_back h11 hm11, if_true, if_neg (hq.1 hs1), Int.toNat_natCast]
      rw [show mkKey 1 (kn x 1) (kitem x) (kn x 10) (kn x 11) = mkKey (kn x 0) (kn x 1) (kitem x) (kn x 10) (kn x 11) by rw [hs1], ← hx]
    · rw [if_neg (by omega), if_neg hs1]
      have h0 : kn x 11 = 0 := by
        by_cases hz : kn x 11 = 0
        · exact hz
        · exact absurd (hq.2 hz) hs1
      simp only [Int.toNat_natCast, List.nil_append]
      rw [show mkKey (kn x 0) (kn x 1) (kitem x) (kn x 10) 0 = mkKey (kn x 0) (kn x 1) (kitem x) (kn x 10) (kn x 11) by rw [h0], ← hx]
theorem key0_ok : KeyOk key0 := mkKey_ok rfl nm0_byt (by decide) (by decide) (by decide) (by decide)
theorem keyS_key {e : Int} {xs : List Int} (hb : Byt xs) : KeyOk (keyS e xs).1 := by
  have hb1 := oneS_byt (e := e) hb
  have hv := oneS_val (e := e) hb
  have hn := numS_le 65535 (oneS e xs).2.1 (oneS e xs).2.2
  have hb2 := numS_byt (m := 65535) (e := (oneS e xs).2.1) hb1
  unfold keyS
  split
  · split
    · split
      · split
        · exact mkKey_ok rfl nm0_byt (by decide) (by omega) (by decide) (by decide)
        · generalize numS 65535 (oneS e xs).2.1 (oneS e xs).2.2 = b at hn hb2
          obtain ⟨c, e2, ys⟩ := b
          have hb3 := namS_byt' (e := e2) hb2
          have hv3 := oneS_val (e := (namS e2 ys).2.1) hb3
          have hb4 := oneS_byt (e := (namS e2 ys).2.1) hb3
          unfold keyS.keyT
          split
          · split
            · exact key0_ok
            · split
              · split
                · exact key0_ok
                · split
                  · unfold keyS.keyQ
                    split
                    · split
                      · exact key0_ok
                      · exact mkKey_ok (namS_len _ _) (namS_byt hb2) (by decide) (by dsimp only at hn ⊢; omega) (by dsimp only at hv3 ⊢; omega) (Nat.lt_of_le_of_lt (numS_le _ _ _) (by decide))
                    · exact key0_ok
                  · exact mkKey_ok (namS_len _ _) (namS_byt hb2) (by omega) (by dsimp only at hn ⊢; omega) (by dsimp only at hv3 ⊢; omega) (by decide)
              · exact key0_ok
          · exact key0_ok
      · exact key0_ok
    · exact key0_ok
  · exact key0_ok
theorem snoc_cut {n : Nat} {a : List Int} (h : a.length = n + 1) : ∃ x y, a = x ++ [y] ∧ x.length = n := by
  refine ⟨a.take n, a.getD n 0, ?_, by simp [h]⟩
  rw [← take_succ_getD (by omega), List.take_of_length_le (by omega)]
theorem numN_inj : ∀ {n : Nat} {a b : List Int}, a.length = n → b.length = n → Byt a → Byt b → numN a = numN b → a = b
  | 0, a, b, ha, hb, _, _, _ => by rw [List.eq_nil_of_length_eq_zero ha, List.eq_nil_of_length_eq_zero hb]
  | n + 1, a, b, ha, hb, ba, bb, h => by
    obtain ⟨a, x, rfl, ha'⟩ := snoc_cut ha
    obtain ⟨b, y, rfl, hb'⟩ := snoc_cut hb
    have la := ba x (by simp)
    have lb := bb y (by simp)
    rw [numN_snoc, numN_snoc] at h
    have h1 : numN a = numN b := by omega
    have h2 : x = y := by omega
    rw [numN_inj ha' hb' (fun z hz => ba z (by simp [hz])) (fun z hz => bb z (by simp [hz])) h1, h2]
theorem words_inj {x y : List Int} (hx : KeyOk x) (hy : KeyOk y) : wordsL x = wordsL y ↔ x = y := by
  refine ⟨fun h => ?_, fun h => by rw [h]⟩
  simp only [wordsL, List.cons.injEq, and_true] at h
  obtain ⟨h1, h2, h3⟩ := h
  have a1 := hx.b1; have a2 := hy.b1; have a3 := hx.b11; have a4 := hy.b11
  simp only [headN, dotN] at h1 h3
  have hi := numN_inj (kitem_len hx.len) (kitem_len hy.len) hx.item hy.item (by omega)
  rw [key_mk hx, key_mk hy, hi]
  congr 1 <;> omega
def val0 : List Int := (0 : Int) :: nm0
/-- a sort's value -/
def valS (s : Nat) (e : Int) (xs : List Int) : List Int × Int × List Int :=
  if s = 1 then (if (oneS e xs).2.1 = 0 then (if (oneS e xs).1 = 1 ∨ (oneS e xs).1 = 2 then ((oneS e xs).1 :: nm0, (oneS e xs).2) else (val0, 3, [])) else (val0, (oneS e xs).2)) else
  if s = 2 ∨ s = 3 then (if (numS 4294967295 e xs).2.1 = 0 then (if (numS 4294967295 e xs).1 = 0 then (val0, 3, []) else (((numS 4294967295 e xs).1 : Int) :: nm0, (numS 4294967295 e xs).2)) else (val0, (numS 4294967295 e xs).2)) else
  if s = 4 then
    (if (numS 1099511627775 e xs).2.1 = 0 then
      (if stampE (numS 1099511627775 e xs).1 = 0 then
        (if (namS (numS 1099511627775 e xs).2.1 (numS 1099511627775 e xs).2.2).2.1 = 0 then (((numS 1099511627775 e xs).1 : Int) :: (namS (numS 1099511627775 e xs).2.1 (numS 1099511627775 e xs).2.2).1, (namS (numS 1099511627775 e xs).2.1 (numS 1099511627775 e xs).2.2).2) else (val0, (namS (numS 1099511627775 e xs).2.1 (numS 1099511627775 e xs).2.2).2))
      else (val0, stampE (numS 1099511627775 e xs).1, []))
    else (val0, (numS 1099511627775 e xs).2)) else (val0, e, xs)
def atomS (e : Int) (xs : List Int) : List Int × Int × List Int :=
  if (keyS e xs).2.1 = 0 then
    (if (valS (kn (keyS e xs).1 0) (keyS e xs).2.1 (keyS e xs).2.2).2.1 = 0 then ((keyS e xs).1 ++ (valS (kn (keyS e xs).1 0) (keyS e xs).2.1 (keyS e xs).2.2).1, (valS (kn (keyS e xs).1 0) (keyS e xs).2.1 (keyS e xs).2.2).2) else (key0 ++ val0, (valS (kn (keyS e xs).1 0) (keyS e xs).2.1 (keyS e xs).2.2).2))
  else (key0 ++ val0, (keyS e xs).2)
theorem val_cut {v : List Int} (h : ValOk v) : v = (kn v 0 : Int) :: vtext v := by
  have := h.len
  match v, this with
  | x :: l, _ =>
    have := h.e0
    simp only [vtext, List.drop_succ_cons, List.drop_zero] at this ⊢
    rw [← this]; rfl
theorem valS_back {s : Nat} {v : List Int} (hv : ValOk v) (h : valR s v = true) (l : List Int) : valS s 0 (valOut s v ++ l) = (v, 0, l) := by
  have h0 := hv.b0
  have hc := val_cut hv
  have htl := vtext_len hv.len
  unfold valR at h
  unfold valS valOut
  split at h
  · next h1 =>
    simp only [Bool.and_eq_true, decide_eq_true_eq, bareV] at h
    rw [if_pos h1, if_pos h1]
    rw [List.cons_append, List.nil_append, oneS_back]
    have hm : kn v 0 % 256 = kn v 0 := by omega
    simp only [hm, if_true]
    rw [if_pos (by omega), ← h.1, ← hc]
  · next h1 =>
    rw [if_neg h1, if_neg h1]
    split at h
    · next h2 =>
      simp only [Bool.and_eq_true, decide_eq_true_eq, bareV] at h
      rw [if_pos h2, if_neg (show ¬ s = 4 by omega), numS_back h0 (show kn v 0 ≤ 4294967295 from h.2.2)]
      simp only [if_true]
      rw [if_neg (by omega), ← h.1, ← hc]
    · next h2 =>
      split at h
      · next h4 =>
        simp only [Bool.and_eq_true, Bool.or_eq_true, decide_eq_true_eq, bareV] at h
        have hs := stampE_0.1 h.1
        rw [if_neg h2, if_pos h4, if_pos h4, List.append_assoc, numS_back h0 (show kn v 0 ≤ 1099511627775 by omega)]
        simp only [if_true, h.1, namS_back htl h.2]
        rw [← hc]
      · cases h
theorem atom_cut {a : List Int} (h : AtomOk a) : a = akey a ++ aval a := (List.take_append_drop 12 a).symm
theorem akeyk_0 {a : List Int} (h : AtomOk a) : kn (akey a) 0 = kn a 0 := by
  simp [kn, akey, List.getD_eq_getElem?_getD]
theorem atomS_back {a : List Int} (ha : AtomOk a) (h : atomR a = true) (l : List Int) : atomS 0 (atomOut a ++ l) = (a, 0, l) := by
  have hb := h
  simp only [atomR, Bool.and_eq_true] at h
  unfold atomS
  rw [atomOut, if_pos hb, List.append_assoc, keyS_back ha.key h.1]
  simp only [if_true, akeyk_0 ha, valS_back ha.val h.2, ← atom_cut ha]
end Go.Proofs.YtffmanidnlbjjaaGreat
set_option linter.unusedSimpArgs false
set_option linter.unusedVariables false
set_option maxHeartbeats 800000
set_option maxRecDepth 100000
namespace Go.Proofs.YtffmanidnlbjjaaGreat
open Go.RowKit

theorem RdIn.trans {w0 w1 : World} {M M1 L R : List Res} {A : Option Addr} {n : Nat} (_hM : St (OwnB M) w0 w0 M) (hS : St (OwnB M) w0 w1 L) (hs : Spl M1 L R) (h : RdIn w1 M1 A n) (hm : ∀ s ∈ M1, ∀ b, s.reads = some b → w0.heap.size ≤ b ∨ ∃ s ∈ M, s.own = some b ∨ s.reads = some b) : RdIn w0 M A n := fun b hb => by
  have hz := hS.keep.size
  rcases h b hb with h1 | ⟨s, h1, h2 | h2⟩
  · exact .inl (by omega)
  · rcases hS.own s (hs.mem h1) b h2 with ⟨r, hr, ho⟩ | h3
    · exact .inr ⟨r, hr, .inl ho⟩
    · exact .inl h3
  · exact hm s h1 b h2
theorem RdIn.self {w0 : World} {M : List Res} {A : Option Addr} {n : Nat} {xs : List Value} (hm : Res.rd A 1 n xs ∈ M) : RdIn w0 M A n := fun b hb => .inr ⟨_, hm, .inr hb⟩
theorem errE0 (x : Int) : errE 0 x = x := rfl
theorem errX0 {x : Int} {xs : List Int} (h : ¬ x = 0) : errX 0 x xs = [] := by simp [errX, errE, h]
theorem numS_bad {m : Nat} {e : Int} {xs : List Int} (h : ¬ (numS m e xs).2.1 = 0) : (numS m e xs).1 = 0 := by
  unfold numS at h ⊢
  repeat' split
  all_goals first | rfl | (exfalso; simp_all)
theorem namS_bad {e : Int} {xs : List Int} (h : ¬ (namS e xs).2.1 = 0) : (namS e xs).1 = nm0 := by
  unfold namS at h ⊢
  repeat' split
  all_goals first | rfl | (exfalso; simp_all)
theorem oneS_bad {e : Int} {xs : List Int} (h : ¬ (oneS e xs).2.1 = 0) : (oneS e xs).1 = 0 := by
  unfold oneS at h ⊢
  repeat' split
  all_goals first | rfl | (exfalso; simp_all)
theorem oneS_take (xs : List Int) : oneS 0 xs = (oneV xs, takeE 0 xs 1, takeX 0 xs 1) := by
  unfold oneS oneV takeE takeX
  simp only [if_true]
  split
  · rfl
  · rw [errE0, errX0 (by decide)]
/-- a text as a name -/
def ofN (ns : List Int) : List Int × Int := if isN ns then (padN ns, 0) else (nm0, 3)
theorem padN_le {ns : List Int} (h : ns.length ≤ 8) : padN ns = ns ++ nm0.drop ns.length := by
  rw [padN, List.take_of_length_le h, nm0, List.drop_replicate]
theorem nsz_pad : ∀ {ns : List Int} {k : Nat}, (∀ x ∈ ns, ¬ x = 0) → nsz (ns ++ List.replicate k 0) = ns.length
  | [], 0, _ => rfl
  | [], k + 1, _ => by simp [List.replicate_succ, nsz]
  | x :: ns, k, h => by
    have h1 := h x (by simp)
    have := nsz_pad (ns := ns) (k := k) (fun y hy => h y (by simp [hy]))
    simp [nsz, h1, this]
theorem nmTxt_pad {ns : List Int} (h : isN ns = true) : nmTxt (padN ns) = ns := by
  simp only [isN, Bool.and_eq_true, decide_eq_true_eq, List.all_eq_true] at h
  obtain ⟨⟨⟨h1, h2⟩, h3⟩, h4⟩ := h
  have hz : ∀ x ∈ ns, ¬ x = 0 := fun x hx e => by have := h4 x hx; subst e; revert this; decide
  rw [nmTxt, padN, List.take_of_length_le h2, nsz_pad hz]
  exact List.take_left
theorem ofN_bad {ns : List Int} (h : 8 < ns.length ∨ ns.length = 0 ∨ ¬ nmTxt (padN ns) = ns ∨ nright (padN ns) = false) : isN ns = false := by
  rw [Bool.eq_false_iff]
  intro hI
  have hI' := hI
  simp only [isN, Bool.and_eq_true, decide_eq_true_eq] at hI'
  have ht := nmTxt_pad hI
  rcases h with h | h | h | h
  · omega
  · omega
  · exact h ht
  · rw [nright_eq (padN_len ns), ht, hI] at h
    simp at h
theorem ofN_good {ns : List Int} (h1 : nmTxt (padN ns) = ns) (h2 : nright (padN ns) = true) : isN ns = true := by
  rw [nright_eq (padN_len ns), h1] at h2
  simpa using h2
theorem c_nameOf (ns : List Int) (hw : Byt ns) (hn : ns.length ≤ 1000)  (w0 : World) :
    CallR Tryz.prog 254 #[.string (strOf ns)] w0 fun v w' => v = .tuple #[.agg (ic .u8 (ofN ns).1), .int .i64 (ofN ns).2] ∧ Ext w0 w' := by
 have hS : St NoB w0 w0 [] := St.start w0
 refine c_enter (l := [.string (strOf ns), undef, undef, undef, undef, undef, undef, undef, undef, undef, undef, undef, undef, undef, undef, undef, undef, undef, undef, undef, undef, undef, undef, undef, undef, undef]) Tryz.func254 rfl (by simp only [Tryz.ntmps254, List.size_toArray, List.length_cons, List.length_nil, Nat.reduceAdd, Nat.reduceSub, Array.replicate_succ, Array.replicate_zero, List.push_toArray, List.append_toArray, List.nil_append, List.cons_append]) ?_
 refine x_seq fun K1 hK1 => ?_
 refine x_region ?_
 refine m_alloc ti41 hS (fun w1 g1 hS => ?_)
 try simp only [opv, n1, n2, n3, n4, Value.cells, Array.toArray_toList] at hS ⊢
 replace hS : St NoB w0 w1 [.obj g1 (.cells (ic .u8 nm0) 41 (0, 0))] := hS
 refine s_go (s_assign) ?_
 try simp only [opv, n1, n2, n3, n4, Value.cells]
 refine x_nil ?_
 refine hK1 _ _ ?_
 refine x_seq fun K2 hK2 => ?_
 refine x_seq fun K3 hK3 => ?_
 refine x_region ?_
 have h0l : nm0.length = 8 := rfl
 have hpl := padN_len ns
 have hpb := padN_byt hw
 refine s_go (s_move) ?_
 try simp only [opv, n1, n2, n3, n4, Value.cells]
 refine s_go (s_len_str Tryz.underlying9) ?_
 try simp only [opv, n1, n2, n3, n4, Value.cells]
 rw [strOf_size]
 refine s_go (s_gtr) ?_
 try simp only [opv, n1, n2, n3, n4, Value.cells]
 refine s_go (s_move) ?_
 try simp only [opv, n1, n2, n3, n4, Value.cells]
 refine s_part 7 rfl (fun hp1 => ?_) (fun hp1 => ?_)
 ·
  try simp only [n3, n4]
  try simp only [decide_eq_true_eq, decide_eq_false_iff_not, Bool.not_eq_true', Bool.not_eq_false', Int.not_lt, Int.not_le, ne_eq, Decidable.not_not] at hp1
  refine g_off (yi (t := 7) rfl rfl) ?_
  try simp only [opv, n1, n2, n3, n4, Value.cells]
  refine g_off (yi (t := 7) rfl rfl) ?_
  try simp only [opv, n1, n2, n3, n4, Value.cells]
  refine g_off (yi (t := 7) rfl rfl) ?_
  try simp only [opv, n1, n2, n3, n4, Value.cells]
  refine g_off (yi (t := 7) rfl rfl) ?_
  try simp only [opv, n1, n2, n3, n4, Value.cells]
  refine s_go (s_pick_t) ?_
  try simp only [opv, n1, n2, n3, n4, Value.cells]
  refine s_go (s_move) ?_
  try simp only [opv, n1, n2, n3, n4, Value.cells]
  refine g_off (yi (t := 13) rfl rfl) ?_
  try simp only [opv, n1, n2, n3, n4, Value.cells]
  refine g_off (yi (t := 13) rfl rfl) ?_
  try simp only [opv, n1, n2, n3, n4, Value.cells]
  refine g_off (yi (t := 13) rfl rfl) ?_
  try simp only [opv, n1, n2, n3, n4, Value.cells]
  refine g_off (yi (t := 13) rfl rfl) ?_
  try simp only [opv, n1, n2, n3, n4, Value.cells]
  refine s_go (s_pick_t) ?_
  try simp only [opv, n1, n2, n3, n4, Value.cells]
  refine s_go (s_move) ?_
  try simp only [opv, n1, n2, n3, n4, Value.cells]
  refine g_off (yi (t := 19) rfl rfl) ?_
  try simp only [opv, n1, n2, n3, n4, Value.cells]
  refine g_off (yi (t := 19) rfl rfl) ?_
  try simp only [opv, n1, n2, n3, n4, Value.cells]
  refine g_off (yi (t := 19) rfl rfl) ?_
  try simp only [opv, n1, n2, n3, n4, Value.cells]
  refine s_go (s_pick_t) ?_
  try simp only [opv, n1, n2, n3, n4, Value.cells]
  refine x_nil ?_
  refine hK3 _ _ ?_
  refine x_cond_t (h := ?_)
  have hI : isN ns = false := ofN_bad (by exact .inl (by omega))
  refine x_seq fun K4 hK4 => ?_
  refine x_region ?_
  refine s_go (s_build_arr (cells := #[.int .u8 0, .int .u8 0, .int .u8 0, .int .u8 0, .int .u8 0, .int .u8 0, .int .u8 0, .int .u8 0]) Tryz.underlying41 ti41 ti5 (hc := by simp only [List.map_toArray, List.map_cons, List.map_nil, opv, n1, n2, n3, n4, Value.cells, List.toList_toArray]; (repeat (refine fill_cons rfl rfl (Nat.le_of_ble_eq_true rfl) ?_)); rfl)) ?_
  try simp only [opv, n1, n2, n3, n4, Value.cells]
  refine m_store_obj ti41 (hS := hS) (h := fun w2 hS => ?_)
  try simp only [opv, n1, n2, n3, n4, Value.cells, Array.toArray_toList] at hS ⊢
  refine s_go (s_assign) ?_
  try simp only [opv, n1, n2, n3, n4, Value.cells]
  refine x_nil ?_
  refine hK4 _ _ ?_
  refine x_ret ?_
  refine r_cell_tmp_agg rfl Tryz.underlying41 ti41 (hS := hS) (hR := ?_)
  exact ⟨by simp only [ofN, hI]; rfl, hS.ext_of⟩
 ·
  try simp only [n3, n4]
  try simp only [decide_eq_true_eq, decide_eq_false_iff_not, Bool.not_eq_true', Bool.not_eq_false', Int.not_lt, Int.not_le, ne_eq, Decidable.not_not] at hp1
  refine g_on (yi (t := 7) rfl rfl) ?_
  refine s_go (s_slice_whole Tryz.underlying41 ti5) ?_
  try simp only [opv, n1, n2, n3, n4, Value.cells]
  refine g_on (yi (t := 7) rfl rfl) ?_
  refine s_go (s_move) ?_
  try simp only [opv, n1, n2, n3, n4, Value.cells]
  refine g_on (yi (t := 7) rfl rfl) ?_
  refine m_copy_str Tryz.underlying73 ti5 (ns := ns) (cs := nm0) (hw := hw) (hl := by omega) (hc := rfl) (hS := hS) (h := fun w3 hS => ?_)
  try simp only [opv, n1, n2, n3, n4, Value.cells, Array.toArray_toList] at hS ⊢
  rw [← padN_le (by omega)] at hS
  refine g_on (yi (t := 7) rfl rfl) ?_
  refine s_go (s_eql) ?_
  try simp only [opv, n1, n2, n3, n4, Value.cells]
  refine s_go (s_pick_f) ?_
  try simp only [opv, n1, n2, n3, n4, Value.cells]
  refine s_go (s_move) ?_
  try simp only [opv, n1, n2, n3, n4, Value.cells]
  refine s_part 13 rfl (fun hp2 => ?_) (fun hp2 => ?_)
  ·
   try simp only [n3, n4]
   try simp only [decide_eq_true_eq, decide_eq_false_iff_not, Bool.not_eq_true', Bool.not_eq_false', Int.not_lt, Int.not_le, ne_eq, Decidable.not_not] at hp2
   refine g_off (yi (t := 13) rfl rfl) ?_
   try simp only [opv, n1, n2, n3, n4, Value.cells]
   refine g_off (yi (t := 13) rfl rfl) ?_
   try simp only [opv, n1, n2, n3, n4, Value.cells]
   refine g_off (yi (t := 13) rfl rfl) ?_
   try simp only [opv, n1, n2, n3, n4, Value.cells]
   refine g_off (yi (t := 13) rfl rfl) ?_
   try simp only [opv, n1, n2, n3, n4, Value.cells]
   refine s_go (s_pick_t) ?_
   try simp only [opv, n1, n2, n3, n4, Value.cells]
   refine s_go (s_move) ?_
   try simp only [opv, n1, n2, n3, n4, Value.cells]
   refine g_off (yi (t := 19) rfl rfl) ?_
   try simp only [opv, n1, n2, n3, n4, Value.cells]
   refine g_off (yi (t := 19) rfl rfl) ?_
   try simp only [opv, n1, n2, n3, n4, Value.cells]
   refine g_off (yi (t := 19) rfl rfl) ?_
   try simp only [opv, n1, n2, n3, n4, Value.cells]
   refine s_go (s_pick_t) ?_
   try simp only [opv, n1, n2, n3, n4, Value.cells]
   refine x_nil ?_
   refine hK3 _ _ ?_
   refine x_cond_t (h := ?_)
   have hI : isN ns = false := ofN_bad (by exact .inr (.inl (by omega)))
   refine x_seq fun K5 hK5 => ?_
   refine x_region ?_
   refine s_go (s_build_arr (cells := #[.int .u8 0, .int .u8 0, .int .u8 0, .int .u8 0, .int .u8 0, .int .u8 0, .int .u8 0, .int .u8 0]) Tryz.underlying41 ti41 ti5 (hc := by simp only [List.map_toArray, List.map_cons, List.map_nil, opv, n1, n2, n3, n4, Value.cells, List.toList_toArray]; (repeat (refine fill_cons rfl rfl (Nat.le_of_ble_eq_true rfl) ?_)); rfl)) ?_
   try simp only [opv, n1, n2, n3, n4, Value.cells]
   refine m_store_obj ti41 (hS := hS) (h := fun w4 hS => ?_)
   try simp only [opv, n1, n2, n3, n4, Value.cells, Array.toArray_toList] at hS ⊢
   refine s_go (s_assign) ?_
   try simp only [opv, n1, n2, n3, n4, Value.cells]
   refine x_nil ?_
   refine hK5 _ _ ?_
   refine x_ret ?_
   refine r_cell_tmp_agg rfl Tryz.underlying41 ti41 (hS := hS) (hR := ?_)
   exact ⟨by simp only [ofN, hI]; rfl, hS.ext_of⟩
  ·
   try simp only [n3, n4]
   try simp only [decide_eq_true_eq, decide_eq_false_iff_not, Bool.not_eq_true', Bool.not_eq_false', Int.not_lt, Int.not_le, ne_eq, Decidable.not_not] at hp2
   refine g_on (yi (t := 13) rfl rfl) ?_
   refine s_go (m_load_row Tryz.underlying41 (hi := ti41) (hS := hS)) ?_
   try simp only [opv, n1, n2, n3, n4, Value.cells, List.getElem_toArray, List.getElem_cons_zero, List.getElem_cons_succ]
   refine g_on (yi (t := 13) rfl rfl) ?_
   refine s_call en199 ?_
   try simp only [opv, n1, n2, n3, n4, Value.cells, List.map_toArray, List.map_cons, List.map_nil, List.append_toArray, List.cons_append, List.nil_append, Array.append_empty]
   refine CallR.mono (c_nameText _ (by assumption) (by assumption) _) ?_
   rintro _ w5 ⟨rfl, hE5⟩
   replace hS := hS.ext hE5
   try simp only [opv, n1, n2, n3, n4, Value.cells]
   refine g_on (yi (t := 13) rfl rfl) ?_
   refine s_go (s_move) ?_
   try simp only [opv, n1, n2, n3, n4, Value.cells]
   refine g_on (yi (t := 13) rfl rfl) ?_
   refine s_go (s_neq_string Tryz.underlying9) ?_
   try simp only [opv, n1, n2, n3, n4, Value.cells]
   rw [strOf_beq (nmTxt_byt hpb) hw]
   refine s_go (s_pick_f) ?_
   try simp only [opv, n1, n2, n3, n4, Value.cells]
   refine s_go (s_move) ?_
   try simp only [opv, n1, n2, n3, n4, Value.cells]
   refine s_part 19 rfl (fun hp3 => ?_) (fun hp3 => ?_)
   ·
    try simp only [n3, n4]
    try simp only [decide_eq_true_eq, decide_eq_false_iff_not, Bool.not_eq_true', Bool.not_eq_false', Int.not_lt, Int.not_le, ne_eq, Decidable.not_not] at hp3
    refine g_off (yi (t := 19) rfl rfl) ?_
    try simp only [opv, n1, n2, n3, n4, Value.cells]
    refine g_off (yi (t := 19) rfl rfl) ?_
    try simp only [opv, n1, n2, n3, n4, Value.cells]
    refine g_off (yi (t := 19) rfl rfl) ?_
    try simp only [opv, n1, n2, n3, n4, Value.cells]
    refine s_go (s_pick_t) ?_
    try simp only [opv, n1, n2, n3, n4, Value.cells]
    refine x_nil ?_
    refine hK3 _ _ ?_
    refine x_cond_t (h := ?_)
    have hI : isN ns = false := ofN_bad (by exact .inr (.inr (.inl (by assumption))))
    refine x_seq fun K6 hK6 => ?_
    refine x_region ?_
    refine s_go (s_build_arr (cells := #[.int .u8 0, .int .u8 0, .int .u8 0, .int .u8 0, .int .u8 0, .int .u8 0, .int .u8 0, .int .u8 0]) Tryz.underlying41 ti41 ti5 (hc := by simp only [List.map_toArray, List.map_cons, List.map_nil, opv, n1, n2, n3, n4, Value.cells, List.toList_toArray]; (repeat (refine fill_cons rfl rfl (Nat.le_of_ble_eq_true rfl) ?_)); rfl)) ?_
    try simp only [opv, n1, n2, n3, n4, Value.cells]
    refine m_store_obj ti41 (hS := hS) (h := fun w6 hS => ?_)
    try simp only [opv, n1, n2, n3, n4, Value.cells, Array.toArray_toList] at hS ⊢
    refine s_go (s_assign) ?_
    try simp only [opv, n1, n2, n3, n4, Value.cells]
    refine x_nil ?_
    refine hK6 _ _ ?_
    refine x_ret ?_
    refine r_cell_tmp_agg rfl Tryz.underlying41 ti41 (hS := hS) (hR := ?_)
    exact ⟨by simp only [ofN, hI]; rfl, hS.ext_of⟩
   ·
    try simp only [n3, n4]
    try simp only [decide_eq_true_eq, decide_eq_false_iff_not, Bool.not_eq_true', Bool.not_eq_false', Int.not_lt, Int.not_le, ne_eq, Decidable.not_not] at hp3
    refine g_on (yi (t := 19) rfl rfl) ?_
    refine s_go (m_load_row Tryz.underlying41 (hi := ti41) (hS := hS)) ?_
    try simp only [opv, n1, n2, n3, n4, Value.cells, List.getElem_toArray, List.getElem_cons_zero, List.getElem_cons_succ]
    refine g_on (yi (t := 19) rfl rfl) ?_
    refine s_call en72 ?_
    try simp only [opv, n1, n2, n3, n4, Value.cells, List.map_toArray, List.map_cons, List.map_nil, List.append_toArray, List.cons_append, List.nil_append, Array.append_empty]
    refine CallR.mono (c_nameRight _ (by assumption) (by assumption) _) ?_
    rintro _ w7 ⟨rfl, hE7⟩
    replace hS := hS.ext hE7
    try simp only [opv, n1, n2, n3, n4, Value.cells]
    refine g_on (yi (t := 19) rfl rfl) ?_
    refine s_go (s_not) ?_
    try simp only [opv, n1, n2, n3, n4, Value.cells]
    refine s_go (s_pick_f) ?_
    try simp only [opv, n1, n2, n3, n4, Value.cells]
    refine x_nil ?_
    refine hK3 _ _ ?_
    refine x_cond (ht := fun hc4 => ?_) (hf := fun hc4 => ?_)
    ·
     try simp only [decide_eq_true_eq, decide_eq_false_iff_not, Bool.not_eq_true', Bool.not_eq_false', Int.not_lt, Int.not_le, ne_eq, Decidable.not_not, bne_iff_ne, beq_iff_eq, not_true_eq_false, not_false_eq_true] at hc4
     have hI : isN ns = false := ofN_bad (by exact .inr (.inr (.inr (by simpa using hc4))))
     refine x_seq fun K7 hK7 => ?_
     refine x_region ?_
     refine s_go (s_build_arr (cells := #[.int .u8 0, .int .u8 0, .int .u8 0, .int .u8 0, .int .u8 0, .int .u8 0, .int .u8 0, .int .u8 0]) Tryz.underlying41 ti41 ti5 (hc := by simp only [List.map_toArray, List.map_cons, List.map_nil, opv, n1, n2, n3, n4, Value.cells, List.toList_toArray]; (repeat (refine fill_cons rfl rfl (Nat.le_of_ble_eq_true rfl) ?_)); rfl)) ?_
     try simp only [opv, n1, n2, n3, n4, Value.cells]
     refine m_store_obj ti41 (hS := hS) (h := fun w8 hS => ?_)
     try simp only [opv, n1, n2, n3, n4, Value.cells, Array.toArray_toList] at hS ⊢
     refine s_go (s_assign) ?_
     try simp only [opv, n1, n2, n3, n4, Value.cells]
     refine x_nil ?_
     refine hK7 _ _ ?_
     refine x_ret ?_
     refine r_cell_tmp_agg rfl Tryz.underlying41 ti41 (hS := hS) (hR := ?_)
     exact ⟨by simp only [ofN, hI]; rfl, hS.ext_of⟩
    ·
     try simp only [decide_eq_true_eq, decide_eq_false_iff_not, Bool.not_eq_true', Bool.not_eq_false', Int.not_lt, Int.not_le, ne_eq, Decidable.not_not, bne_iff_ne, beq_iff_eq, not_true_eq_false, not_false_eq_true] at hc4
     have hI : isN ns = true := ofN_good (by assumption) (by assumption)
     refine x_skip ?_
     refine hK2 _ _ ?_
     refine x_seq fun K8 hK8 => ?_
     refine x_region ?_
     refine s_go (m_load_row Tryz.underlying41 (hi := ti41) (hS := hS)) ?_
     try simp only [opv, n1, n2, n3, n4, Value.cells, List.getElem_toArray, List.getElem_cons_zero, List.getElem_cons_succ]
     refine m_store_obj ti41 (hS := hS) (h := fun w9 hS => ?_)
     try simp only [opv, n1, n2, n3, n4, Value.cells, Array.toArray_toList] at hS ⊢
     refine s_go (s_assign) ?_
     try simp only [opv, n1, n2, n3, n4, Value.cells]
     refine x_nil ?_
     refine hK8 _ _ ?_
     refine x_ret ?_
     refine r_cell_tmp_agg rfl Tryz.underlying41 ti41 (hS := hS) (hR := ?_)
     exact ⟨by simp only [ofN, hI]; rfl, hS.ext_of⟩
theorem c_cnum1 (w0 : World) (g : Nat) (A : Option Addr) (c : Nat) (xs : List Int) (hc : xs.length ≤ c) (hw : Byt xs) (hn : xs.length ≤ 1000000000) (b : Nat) (m : Nat) (hm : m < 18446744073709551616) (hM : St (OwnB [.obj g (.cells #[.int .i64 0, .slice A xs.length c] 189 (0, 0)), .rd A 1 xs.length (xs.map (Value.int .u8)), .obj b (.cells #[.int .u64 (m : Int)] 84 (0, 0))]) w0 w0 [.obj g (.cells #[.int .i64 0, .slice A xs.length c] 189 (0, 0)), .rd A 1 xs.length (xs.map (Value.int .u8)), .obj b (.cells #[.int .u64 (m : Int)] 84 (0, 0))]) :
    CallR Tryz.prog 152 #[.pointer (some ⟨g, 0, none⟩), .pointer (some ⟨b, 0, none⟩)] w0 fun v w' => ∃ x : Nat, v = .int .u64 (x : Int) ∧ ((numS m 0 xs).2.1 = 0 → x = (numS m 0 xs).1) ∧ CuSt w0 w' [.obj g (.cells #[.int .i64 0, .slice A xs.length c] 189 (0, 0)), .rd A 1 xs.length (xs.map (Value.int .u8)), .obj b (.cells #[.int .u64 (m : Int)] 84 (0, 0))] g (numS m 0 xs).2.1 (numS m 0 xs).2.2 [.obj b (.cells #[.int .u64 (m : Int)] 84 (0, 0))] := by
 have hS := hM
 have hul := unvar_lt hw
 refine c_enter (l := [.pointer (some ⟨g, 0, none⟩), .pointer (some ⟨b, 0, none⟩), undef, undef, undef, undef, undef, undef, undef, undef, undef, undef, undef, undef, undef, undef, undef, undef, undef, undef, undef, undef, undef, undef, undef, undef, undef, undef, undef, undef, undef, undef]) Tryz.func152 rfl (by simp only [Tryz.ntmps152, List.size_toArray, List.length_cons, List.length_nil, Nat.reduceAdd, Nat.reduceSub, Array.replicate_succ, Array.replicate_zero, List.push_toArray, List.append_toArray, List.nil_append, List.cons_append]) ?_
 refine x_seq fun K1 hK1 => ?_
 refine x_region ?_
 refine s_go (s_assign) ?_
 try simp only [opv, n1, n2, n3, n4, Value.cells]
 refine x_nil ?_
 refine hK1 _ _ ?_
 refine x_seq fun K2 hK2 => ?_
 refine x_region ?_
 refine s_go (s_move) ?_
 try simp only [opv, n1, n2, n3, n4, Value.cells]
 refine s_go (s_nilCheck) ?_
 try simp only [opv, n1, n2, n3, n4, Value.cells]
 refine s_go (m_fieldAddr Tryz.underlying189 (hi := ti73)) ?_
 try simp only [opv, n1, n2, n3, n4, Value.cells, Nat.zero_add, Nat.add_zero, List.getElem_toArray, List.getElem_cons_zero, List.getElem_cons_succ]
 refine s_go (m_load_obj Tryz.underlying73 (hS := hS)) ?_
 try simp only [opv, n1, n2, n3, n4, Value.cells, List.getElem_toArray, List.getElem_cons_zero, List.getElem_cons_succ]
 refine s_call en153 ?_
 try simp only [opv, n1, n2, n3, n4, Value.cells, List.map_toArray, List.map_cons, List.map_nil, List.append_toArray, List.cons_append, List.nil_append, Array.append_empty]
 refine CallR.mono (c_packUnvar _ A _ c xs (hS.hasRd (by repeat (first | exact Has.head | apply Has.tail))) rfl hw (by omega) hc) ?_
 rintro _ w1 ⟨rfl, hE1⟩
 replace hS := hS.ext hE1
 try simp only [opv, n1, n2, n3, n4, Value.cells]
 unfold UnvP
 refine s_go (s_move) ?_
 try simp only [opv, n1, n2, n3, n4, Value.cells]
 refine s_go (s_extract (hv := rfl)) ?_
 try simp only [List.getElem_toArray, List.getElem_cons_zero, List.getElem_cons_succ]
 try simp only [opv, n1, n2, n3, n4, Value.cells]
 refine s_go (s_extract (hv := rfl)) ?_
 try simp only [List.getElem_toArray, List.getElem_cons_zero, List.getElem_cons_succ]
 try simp only [opv, n1, n2, n3, n4, Value.cells]
 refine s_go (s_extract (hv := rfl)) ?_
 try simp only [List.getElem_toArray, List.getElem_cons_zero, List.getElem_cons_succ]
 try simp only [opv, n1, n2, n3, n4, Value.cells]
 refine s_go (s_assign) ?_
 try simp only [opv, n1, n2, n3, n4, Value.cells]
 refine s_go (s_assign) ?_
 try simp only [opv, n1, n2, n3, n4, Value.cells]
 refine s_go (s_assign) ?_
 try simp only [opv, n1, n2, n3, n4, Value.cells]
 refine x_nil ?_
 refine hK2 _ _ ?_
 refine x_seq fun K3 hK3 => ?_
 refine x_block ?_
 refine x_seq fun K4 hK4 => ?_
 refine x_region ?_
 refine s_go (s_move) ?_
 try simp only [opv, n1, n2, n3, n4, Value.cells]
 refine s_go (s_neq) ?_
 try simp only [opv, n1, n2, n3, n4, Value.cells]
 refine s_go (s_assign) ?_
 try simp only [opv, n1, n2, n3, n4, Value.cells]
 refine x_nil ?_
 refine hK4 _ _ ?_
 refine x_cond (ht := fun hc1 => ?_) (hf := fun hc1 => ?_)
 ·
  try simp only [decide_eq_true_eq, decide_eq_false_iff_not, Bool.not_eq_true', Bool.not_eq_false', Int.not_lt, Int.not_le, ne_eq, Decidable.not_not, bne_iff_ne, beq_iff_eq, not_true_eq_false, not_false_eq_true] at hc1
  have hN : numS m 0 xs = (0, ((unvar xs).2.2 : Int), []) := by simp only [numS, if_true]; rw [if_neg (by omega)]
  refine x_region ?_
  refine s_go (s_move) ?_
  try simp only [opv, n1, n2, n3, n4, Value.cells]
  refine s_go (s_move) ?_
  try simp only [opv, n1, n2, n3, n4, Value.cells]
  refine s_call en154 ?_
  try simp only [opv, n1, n2, n3, n4, Value.cells, List.map_toArray, List.map_cons, List.map_nil, List.append_toArray, List.cons_append, List.nil_append, Array.append_empty]
  refine CallR.mono (c_cerr _ g 0 A c xs hc ((unvar xs).2.2 : Int) (hS.owns (by repeat (first | exact Spl.nil | (apply Spl.cons (by repeat (exact Del.head))))))) ?_
  rintro _ w2 ⟨rfl, A2, c2, hcp2, hR2, hC2⟩
  have hY2 := RdIn.trans hM hS (by repeat (first | exact Spl.nil | (apply Spl.cons (by repeat (exact Del.head))))) hR2 (by intro s hs q hb; simp only [List.mem_cons, List.not_mem_nil, or_false] at hs; rcases hs with rfl | rfl <;> first | (simp [Res.reads] at hb; done) | exact .inr ⟨_, List.mem_cons_of_mem _ (List.mem_cons_self ..), .inr hb⟩)
  replace hS := hS.frame (by repeat (first | exact Spl.nil | (apply Spl.cons (by repeat (exact Del.head))))) hC2 (by intro r hr b hb; simp only [List.mem_cons, List.not_mem_nil, or_false] at hr; rcases hr with rfl | rfl <;> first | (simp [Res.reads] at hb; done) | exact hR2 b hb)
  replace hR2 := hY2
  simp only [List.cons_append, List.nil_append] at hS
  simp only [errE0, errX0 hc1] at hS hcp2 hR2
  try simp only [opv, n1, n2, n3, n4, Value.cells]
  refine x_nil ?_
  refine hK3 _ _ ?_
  refine x_seq fun K5 hK5 => ?_
  refine x_region ?_
  refine s_go (s_move) ?_
  try simp only [opv, n1, n2, n3, n4, Value.cells]
  refine s_go (s_assign) ?_
  try simp only [opv, n1, n2, n3, n4, Value.cells]
  refine x_nil ?_
  refine hK5 _ _ ?_
  refine x_ret ?_
  refine r_tmp rfl ?_
  exact ⟨_, rfl, fun h => by rw [hN] at h; exact absurd h hc1, _, _, by rw [hN]; assumption, by rw [hN]; assumption, by rw [hN]; exact hS.sel (by repeat (first | exact Sel.nil | (refine Sel.cons (by repeat (exact Del.head)) ?_)))⟩
 ·
  try simp only [decide_eq_true_eq, decide_eq_false_iff_not, Bool.not_eq_true', Bool.not_eq_false', Int.not_lt, Int.not_le, ne_eq, Decidable.not_not, bne_iff_ne, beq_iff_eq, not_true_eq_false, not_false_eq_true] at hc1
  have h0 : (unvar xs).2.2 = 0 := by omega
  refine x_seq fun K6 hK6 => ?_
  refine x_region ?_
  refine s_go (s_move) ?_
  try simp only [opv, n1, n2, n3, n4, Value.cells]
  refine s_go (m_load_obj Tryz.underlying84 (hS := hS)) ?_
  try simp only [opv, n1, n2, n3, n4, Value.cells, List.getElem_toArray, List.getElem_cons_zero, List.getElem_cons_succ]
  refine s_go (s_gtr) ?_
  try simp only [opv, n1, n2, n3, n4, Value.cells]
  refine s_go (s_assign) ?_
  try simp only [opv, n1, n2, n3, n4, Value.cells]
  refine x_nil ?_
  refine hK6 _ _ ?_
  refine x_cond (ht := fun hc2 => ?_) (hf := fun hc2 => ?_)
  ·
   try simp only [decide_eq_true_eq, decide_eq_false_iff_not, Bool.not_eq_true', Bool.not_eq_false', Int.not_lt, Int.not_le, ne_eq, Decidable.not_not, bne_iff_ne, beq_iff_eq, not_true_eq_false, not_false_eq_true] at hc2
   have hN : numS m 0 xs = (0, 2, []) := by simp only [numS, if_true]; rw [if_pos h0, if_neg (by omega)]
   refine x_region ?_
   refine s_go (s_move) ?_
   try simp only [opv, n1, n2, n3, n4, Value.cells]
   refine s_call en154 ?_
   try simp only [opv, n1, n2, n3, n4, Value.cells, List.map_toArray, List.map_cons, List.map_nil, List.append_toArray, List.cons_append, List.nil_append, Array.append_empty]
   refine CallR.mono (c_cerr _ g 0 A c xs hc 2 (hS.owns (by repeat (first | exact Spl.nil | (apply Spl.cons (by repeat (exact Del.head))))))) ?_
   rintro _ w3 ⟨rfl, A3, c3, hcp3, hR3, hC3⟩
   have hY3 := RdIn.trans hM hS (by repeat (first | exact Spl.nil | (apply Spl.cons (by repeat (exact Del.head))))) hR3 (by intro s hs q hb; simp only [List.mem_cons, List.not_mem_nil, or_false] at hs; rcases hs with rfl | rfl <;> first | (simp [Res.reads] at hb; done) | exact .inr ⟨_, List.mem_cons_of_mem _ (List.mem_cons_self ..), .inr hb⟩)
   replace hS := hS.frame (by repeat (first | exact Spl.nil | (apply Spl.cons (by repeat (exact Del.head))))) hC3 (by intro r hr b hb; simp only [List.mem_cons, List.not_mem_nil, or_false] at hr; rcases hr with rfl | rfl <;> first | (simp [Res.reads] at hb; done) | exact hR3 b hb)
   replace hR3 := hY3
   simp only [List.cons_append, List.nil_append] at hS
   simp only [errE0, errX0 (show ¬ (2 : Int) = 0 by decide)] at hS hcp3 hR3
   try simp only [opv, n1, n2, n3, n4, Value.cells]
   refine x_nil ?_
   refine hK3 _ _ ?_
   refine x_seq fun K7 hK7 => ?_
   refine x_region ?_
   refine s_go (s_move) ?_
   try simp only [opv, n1, n2, n3, n4, Value.cells]
   refine s_go (s_assign) ?_
   try simp only [opv, n1, n2, n3, n4, Value.cells]
   refine x_nil ?_
   refine hK7 _ _ ?_
   refine x_ret ?_
   refine r_tmp rfl ?_
   exact ⟨_, rfl, fun h => by rw [hN] at h; exact absurd h (by decide), _, _, by rw [hN]; assumption, by rw [hN]; assumption, by rw [hN]; exact hS.sel (by repeat (first | exact Sel.nil | (refine Sel.cons (by repeat (exact Del.head)) ?_)))⟩
  ·
   try simp only [decide_eq_true_eq, decide_eq_false_iff_not, Bool.not_eq_true', Bool.not_eq_false', Int.not_lt, Int.not_le, ne_eq, Decidable.not_not, bne_iff_ne, beq_iff_eq, not_true_eq_false, not_false_eq_true] at hc2
   have hN : numS m 0 xs = ((unvar xs).1, 0, xs.drop (unvar xs).2.1) := by simp only [numS, if_true]; rw [if_pos h0, if_pos (by omega)]
   have hub := (unvar_back hw h0).1
   refine x_region ?_
   refine s_go (s_move) ?_
   try simp only [opv, n1, n2, n3, n4, Value.cells]
   refine s_go (s_move) ?_
   try simp only [opv, n1, n2, n3, n4, Value.cells]
   refine s_call en155 ?_
   try simp only [opv, n1, n2, n3, n4, Value.cells, List.map_toArray, List.map_cons, List.map_nil, List.append_toArray, List.cons_append, List.nil_append, Array.append_empty]
   refine CallR.mono (c_ctake _ g 0 A c xs hc (unvar xs).2.1 (by omega) (hS.owns (by repeat (first | exact Spl.nil | (apply Spl.cons (by repeat (exact Del.head))))))) ?_
   rintro _ w4 ⟨A4, c4, B4, rfl, hcp4, hR4, hQ4, hC4⟩
   have hY4 := RdIn.trans hM hS (by repeat (first | exact Spl.nil | (apply Spl.cons (by repeat (exact Del.head))))) hR4 (by intro s hs q hb; simp only [List.mem_cons, List.not_mem_nil, or_false] at hs; rcases hs with rfl | rfl <;> first | (simp [Res.reads] at hb; done) | exact .inr ⟨_, List.mem_cons_of_mem _ (List.mem_cons_self ..), .inr hb⟩)
   replace hS := hS.frame (by repeat (first | exact Spl.nil | (apply Spl.cons (by repeat (exact Del.head))))) hC4 (by intro r hr b hb; simp only [List.mem_cons, List.not_mem_nil, or_false] at hr; rcases hr with rfl | rfl | rfl <;> first | (simp [Res.reads] at hb; done) | exact hR4 b hb | exact hQ4 b hb)
   simp only [List.cons_append, List.nil_append] at hS
   replace hR4 := hY4
   rw [takeE, if_pos hub] at hS
   rw [takeX, if_pos hub] at hS hcp4 hR4
   try simp only [opv, n1, n2, n3, n4, Value.cells]
   refine x_nil ?_
   refine hK3 _ _ ?_
   refine x_seq fun K8 hK8 => ?_
   refine x_region ?_
   refine s_go (s_move) ?_
   try simp only [opv, n1, n2, n3, n4, Value.cells]
   refine s_go (s_assign) ?_
   try simp only [opv, n1, n2, n3, n4, Value.cells]
   refine x_nil ?_
   refine hK8 _ _ ?_
   refine x_ret ?_
   refine r_tmp rfl ?_
   exact ⟨_, rfl, fun h => by rw [hN] at h; rw [hN], _, _, by rw [hN]; assumption, by rw [hN]; assumption, by rw [hN]; exact hS.sel (by repeat (first | exact Sel.nil | (refine Sel.cons (by repeat (first | exact Del.head | apply Del.tail)) ?_)))⟩
theorem c_onceN (w0 : World) (g : Nat) (e : Int) (A : Option Addr) (c : Nat) (xs : List Int) (hc : xs.length ≤ c) (hw : Byt xs) (hn : xs.length ≤ 1000000000) (b : Nat) (m : Nat) (hm : m < 18446744073709551616) (hM : St (OwnB [.obj g (.cells #[.int .i64 e, .slice A xs.length c] 189 (0, 0)), .rd A 1 xs.length (xs.map (Value.int .u8)), .obj b (.cells #[.int .u64 (m : Int)] 84 (0, 0))]) w0 w0 [.obj g (.cells #[.int .i64 e, .slice A xs.length c] 189 (0, 0)), .rd A 1 xs.length (xs.map (Value.int .u8)), .obj b (.cells #[.int .u64 (m : Int)] 84 (0, 0))]) :
    CallR Tryz.prog 151 #[.pointer (some ⟨g, 0, none⟩), .func (.func 152) #[] #[.pointer (some ⟨b, 0, none⟩)]] w0 fun v w' => v = .int .u64 ((numS m e xs).1 : Int) ∧ CuSt w0 w' [.obj g (.cells #[.int .i64 e, .slice A xs.length c] 189 (0, 0)), .rd A 1 xs.length (xs.map (Value.int .u8)), .obj b (.cells #[.int .u64 (m : Int)] 84 (0, 0))] g (numS m e xs).2.1 (numS m e xs).2.2 [.obj b (.cells #[.int .u64 (m : Int)] 84 (0, 0))] := by
 have hS := hM
 refine c_enter (l := [.pointer (some ⟨g, 0, none⟩), .func (.func 152) #[] #[.pointer (some ⟨b, 0, none⟩)], undef, undef, undef, undef, undef, undef, undef, undef, undef, undef, undef, undef, undef, undef, undef, undef]) Tryz.func151 rfl (by simp only [Tryz.ntmps151, List.size_toArray, List.length_cons, List.length_nil, Nat.reduceAdd, Nat.reduceSub, Array.replicate_succ, Array.replicate_zero, List.push_toArray, List.append_toArray, List.nil_append, List.cons_append]) ?_
 refine x_seq fun K1 hK1 => ?_
 refine x_region ?_
 refine s_go (s_assign) ?_
 try simp only [opv, n1, n2, n3, n4, Value.cells]
 refine x_nil ?_
 refine hK1 _ _ ?_
 refine x_seq fun K2 hK2 => ?_
 refine x_region ?_
 refine s_go (s_assign) ?_
 try simp only [opv, n1, n2, n3, n4, Value.cells]
 refine x_nil ?_
 refine hK2 _ _ ?_
 refine x_seq fun K3 hK3 => ?_
 refine x_seq fun K4 hK4 => ?_
 refine x_region ?_
 refine s_go (s_move) ?_
 try simp only [opv, n1, n2, n3, n4, Value.cells]
 refine s_call en192 ?_
 try simp only [opv, n1, n2, n3, n4, Value.cells, List.map_toArray, List.map_cons, List.map_nil, List.append_toArray, List.cons_append, List.nil_append, Array.append_empty]
 refine CallR.mono (c_cwell _ g (e) A c (xs) hc (hS.owns (by repeat (first | exact Spl.nil | (apply Spl.cons (by repeat (exact Del.head))))))) ?_
 rintro _ w1 ⟨rfl, hC1⟩
 replace hS := hS.frame (by repeat (first | exact Spl.nil | (apply Spl.cons (by repeat (exact Del.head))))) hC1 (by intro r hr g hg; simp only [List.mem_cons, List.not_mem_nil, or_false] at hr; rcases hr with rfl | rfl | rfl <;> first | (simp [Res.reads] at hg; done) | exact .inr ⟨_, by simp, .inr hg⟩)
 simp only [List.cons_append, List.nil_append] at hS
 try simp only [opv, n1, n2, n3, n4, Value.cells]
 refine s_go (s_not) ?_
 try simp only [opv, n1, n2, n3, n4, Value.cells]
 refine x_nil ?_
 refine hK4 _ _ ?_
 refine x_cond (ht := fun hc1 => ?_) (hf := fun hc1 => ?_)
 ·
  try simp only [decide_eq_true_eq, decide_eq_false_iff_not, Bool.not_eq_true', Bool.not_eq_false', Int.not_lt, Int.not_le, ne_eq, Decidable.not_not, bne_iff_ne, beq_iff_eq, not_true_eq_false, not_false_eq_true] at hc1
  have hN := numS_err (m := m) (xs := xs) (by simpa using hc1)
  refine x_seq fun K5 hK5 => ?_
  refine x_region ?_
  refine s_go (s_move) ?_
  try simp only [opv, n1, n2, n3, n4, Value.cells]
  refine s_go (s_assign) ?_
  try simp only [opv, n1, n2, n3, n4, Value.cells]
  refine x_nil ?_
  refine hK5 _ _ ?_
  refine x_ret ?_
  refine r_tmp rfl ?_
  exact ⟨by rw [hN]; rfl, A, c, by rw [hN]; exact hc, by rw [hN]; exact RdIn.self (List.mem_cons_of_mem _ (List.mem_cons_self ..)), by rw [hN]; exact hS.sel (by repeat (first | exact Sel.nil | (refine Sel.cons (by repeat (exact Del.head)) ?_)))⟩
 ·
  try simp only [decide_eq_true_eq, decide_eq_false_iff_not, Bool.not_eq_true', Bool.not_eq_false', Int.not_lt, Int.not_le, ne_eq, Decidable.not_not, bne_iff_ne, beq_iff_eq, not_true_eq_false, not_false_eq_true] at hc1
  have he0 : e = 0 := by simpa using hc1
  subst he0
  refine x_skip ?_
  refine hK3 _ _ ?_
  refine x_seq fun K6 hK6 => ?_
  refine x_seq fun K7 hK7 => ?_
  refine x_region ?_
  refine s_go (s_move) ?_
  try simp only [opv, n1, n2, n3, n4, Value.cells]
  refine s_go (s_move) ?_
  try simp only [opv, n1, n2, n3, n4, Value.cells]
  refine s_callv (hv := rfl) en152 ?_
  try simp only [opv, n1, n2, n3, n4, Value.cells, List.map_toArray, List.map_cons, List.map_nil, List.append_toArray, List.cons_append, List.nil_append, Array.append_empty]
  refine CallR.mono (c_cnum1 _ g A c xs hc hw hn b m hm (hS.owns (by repeat (first | exact Spl.nil | (apply Spl.cons (by repeat (exact Del.head))))))) ?_
  rintro _ w2 ⟨x, rfl, hx, A2, c2, hcp2, hR2, hC2⟩
  have hY2 := RdIn.trans hM hS (by repeat (first | exact Spl.nil | (apply Spl.cons (by repeat (exact Del.head))))) hR2 (by intro s hs q hb; simp only [List.mem_cons, List.not_mem_nil, or_false] at hs; rcases hs with rfl | rfl | rfl <;> first | (simp [Res.reads] at hb; done) | exact .inr ⟨_, List.mem_cons_of_mem _ (List.mem_cons_self ..), .inr hb⟩)
  replace hS := hS.frame (by repeat (first | exact Spl.nil | (apply Spl.cons (by repeat (exact Del.head))))) hC2 (by intro r hr b hb; simp only [List.mem_cons, List.not_mem_nil, or_false] at hr; rcases hr with rfl | rfl | rfl <;> first | (simp [Res.reads] at hb; done) | exact hR2 b hb)
  replace hR2 := hY2
  simp only [List.cons_append, List.nil_append] at hS
  try simp only [opv, n1, n2, n3, n4, Value.cells]
  refine s_go (s_assign) ?_
  try simp only [opv, n1, n2, n3, n4, Value.cells]
  refine x_nil ?_
  refine hK7 _ _ ?_
  refine x_seq fun K8 hK8 => ?_
  refine x_region ?_
  refine s_go (s_move) ?_
  try simp only [opv, n1, n2, n3, n4, Value.cells]
  refine s_call en192 ?_
  try simp only [opv, n1, n2, n3, n4, Value.cells, List.map_toArray, List.map_cons, List.map_nil, List.append_toArray, List.cons_append, List.nil_append, Array.append_empty]
  refine CallR.mono (c_cwell _ g ((numS m 0 xs).2.1) A2 c2 ((numS m 0 xs).2.2) hcp2 (hS.owns (by repeat (first | exact Spl.nil | (apply Spl.cons (by repeat (exact Del.head))))))) ?_
  rintro _ w3 ⟨rfl, hC3⟩
  replace hS := hS.frame (by repeat (first | exact Spl.nil | (apply Spl.cons (by repeat (exact Del.head))))) hC3 (by intro r hr g hg; simp only [List.mem_cons, List.not_mem_nil, or_false] at hr; rcases hr with rfl | rfl | rfl <;> first | (simp [Res.reads] at hg; done) | exact .inr ⟨_, by simp, .inr hg⟩)
  simp only [List.cons_append, List.nil_append] at hS
  try simp only [opv, n1, n2, n3, n4, Value.cells]
  refine x_nil ?_
  refine hK8 _ _ ?_
  refine x_cond (ht := fun hc2 => ?_) (hf := fun hc2 => ?_)
  ·
   try simp only [decide_eq_true_eq, decide_eq_false_iff_not, Bool.not_eq_true', Bool.not_eq_false', Int.not_lt, Int.not_le, ne_eq, Decidable.not_not, bne_iff_ne, beq_iff_eq, not_true_eq_false, not_false_eq_true] at hc2
   have hx1 := hx (by simpa using hc2)
   refine x_seq fun K9 hK9 => ?_
   refine x_region ?_
   refine s_go (s_move) ?_
   try simp only [opv, n1, n2, n3, n4, Value.cells]
   refine s_go (s_assign) ?_
   try simp only [opv, n1, n2, n3, n4, Value.cells]
   refine x_nil ?_
   refine hK9 _ _ ?_
   refine x_ret ?_
   refine r_tmp rfl ?_
   exact ⟨by rw [← hx1]; rfl, _, _, by assumption, by assumption, hS.sel (by repeat (first | exact Sel.nil | (refine Sel.cons (by repeat (exact Del.head)) ?_)))⟩
  ·
   try simp only [decide_eq_true_eq, decide_eq_false_iff_not, Bool.not_eq_true', Bool.not_eq_false', Int.not_lt, Int.not_le, ne_eq, Decidable.not_not, bne_iff_ne, beq_iff_eq, not_true_eq_false, not_false_eq_true] at hc2
   have hx0 := numS_bad (by simpa using hc2)
   refine x_skip ?_
   refine hK6 _ _ ?_
   refine x_seq fun K10 hK10 => ?_
   refine x_region ?_
   refine s_go (s_move) ?_
   try simp only [opv, n1, n2, n3, n4, Value.cells]
   refine s_go (s_assign) ?_
   try simp only [opv, n1, n2, n3, n4, Value.cells]
   refine x_nil ?_
   refine hK10 _ _ ?_
   refine x_ret ?_
   refine r_tmp rfl ?_
   exact ⟨by rw [hx0]; rfl, _, _, by assumption, by assumption, hS.sel (by repeat (first | exact Sel.nil | (refine Sel.cons (by repeat (exact Del.head)) ?_)))⟩
theorem c_cNum (w0 : World) (g : Nat) (e : Int) (A : Option Addr) (c : Nat) (xs : List Int) (hc : xs.length ≤ c) (hw : Byt xs) (hn : xs.length ≤ 1000000000) (m : Nat) (hm : m < 18446744073709551616) (hM : St (OwnB [.obj g (.cells #[.int .i64 e, .slice A xs.length c] 189 (0, 0)), .rd A 1 xs.length (xs.map (Value.int .u8))]) w0 w0 [.obj g (.cells #[.int .i64 e, .slice A xs.length c] 189 (0, 0)), .rd A 1 xs.length (xs.map (Value.int .u8))]) :
    CallR Tryz.prog 87 #[.pointer (some ⟨g, 0, none⟩), .int .u64 (m : Int)] w0 fun v w' => v = .int .u64 ((numS m e xs).1 : Int) ∧ CuSt w0 w' [.obj g (.cells #[.int .i64 e, .slice A xs.length c] 189 (0, 0)), .rd A 1 xs.length (xs.map (Value.int .u8))] g (numS m e xs).2.1 (numS m e xs).2.2 [] := by
 have hS := hM
 refine c_enter (l := [.pointer (some ⟨g, 0, none⟩), .int .u64 (m : Int), undef, undef, undef, undef, undef, undef]) Tryz.func87 rfl (by simp only [Tryz.ntmps87, List.size_toArray, List.length_cons, List.length_nil, Nat.reduceAdd, Nat.reduceSub, Array.replicate_succ, Array.replicate_zero, List.push_toArray, List.append_toArray, List.nil_append, List.cons_append]) ?_
 refine x_seq fun K1 hK1 => ?_
 refine x_region ?_
 refine m_box hS (fun w1 g1 hS => ?_)
 try simp only [opv, n1, n2, n3, n4, Value.cells, Array.toArray_toList] at hS ⊢
 refine s_go (s_assign) ?_
 try simp only [opv, n1, n2, n3, n4, Value.cells]
 refine x_nil ?_
 refine hK1 _ _ ?_
 refine x_seq fun K2 hK2 => ?_
 refine x_region ?_
 refine s_go (s_move) ?_
 try simp only [opv, n1, n2, n3, n4, Value.cells]
 refine s_go (s_makeFunc) ?_
 try simp only [opv, n1, n2, n3, n4, Value.cells, List.map_toArray, List.map_cons, List.map_nil]
 refine s_call en151 ?_
 try simp only [opv, n1, n2, n3, n4, Value.cells, List.map_toArray, List.map_cons, List.map_nil, List.append_toArray, List.cons_append, List.nil_append, Array.append_empty]
 refine CallR.mono (c_onceN _ g e A c xs hc hw hn _ m hm (hS.owns (by repeat (first | exact Spl.nil | (apply Spl.cons (by repeat (first | exact Del.head | apply Del.tail))))))) ?_
 rintro _ w2 ⟨rfl, A2, c2, hcp2, hR2, hC2⟩
 have hY2 := RdIn.trans hM hS (by repeat (first | exact Spl.nil | (apply Spl.cons (by repeat (first | exact Del.head | apply Del.tail))))) hR2 (by intro s hs q hb; simp only [List.mem_cons, List.not_mem_nil, or_false] at hs; rcases hs with rfl | rfl | rfl <;> first | (simp [Res.reads] at hb; done) | exact .inr ⟨_, List.mem_cons_of_mem _ (List.mem_cons_self ..), .inr hb⟩)
 replace hS := hS.frame (by repeat (first | exact Spl.nil | (apply Spl.cons (by repeat (first | exact Del.head | apply Del.tail))))) hC2 (by intro r hr b hb; simp only [List.mem_cons, List.not_mem_nil, or_false] at hr; rcases hr with rfl | rfl | rfl <;> first | (simp [Res.reads] at hb; done) | exact hR2 b hb)
 replace hR2 := hY2
 simp only [List.cons_append, List.nil_append] at hS
 try simp only [opv, n1, n2, n3, n4, Value.cells]
 refine s_go (s_assign) ?_
 try simp only [opv, n1, n2, n3, n4, Value.cells]
 refine x_nil ?_
 refine hK2 _ _ ?_
 refine x_ret ?_
 refine r_tmp rfl ?_
 exact ⟨rfl, _, _, by assumption, by assumption, hS.sel (by repeat (first | exact Sel.nil | (refine Sel.cons (by repeat (exact Del.head)) ?_)))⟩
theorem c_onceB (w0 : World) (g : Nat) (e : Int) (A : Option Addr) (c : Nat) (xs : List Int) (hc : xs.length ≤ c) (hw : Byt xs) (hn : xs.length ≤ 1000000000) (hM : St (OwnB [.obj g (.cells #[.int .i64 e, .slice A xs.length c] 189 (0, 0)), .rd A 1 xs.length (xs.map (Value.int .u8))]) w0 w0 [.obj g (.cells #[.int .i64 e, .slice A xs.length c] 189 (0, 0)), .rd A 1 xs.length (xs.map (Value.int .u8))]) :
    CallR Tryz.prog 239 #[.pointer (some ⟨g, 0, none⟩), .func (.func 240) #[] #[]] w0 fun v w' => v = .int .u8 (oneS e xs).1 ∧ CuSt w0 w' [.obj g (.cells #[.int .i64 e, .slice A xs.length c] 189 (0, 0)), .rd A 1 xs.length (xs.map (Value.int .u8))] g (oneS e xs).2.1 (oneS e xs).2.2 [] := by
 have hS := hM
 refine c_enter (l := [.pointer (some ⟨g, 0, none⟩), .func (.func 240) #[] #[], undef, undef, undef, undef, undef, undef, undef, undef, undef, undef, undef, undef, undef, undef, undef, undef]) Tryz.func239 rfl (by simp only [Tryz.ntmps239, List.size_toArray, List.length_cons, List.length_nil, Nat.reduceAdd, Nat.reduceSub, Array.replicate_succ, Array.replicate_zero, List.push_toArray, List.append_toArray, List.nil_append, List.cons_append]) ?_
 refine x_seq fun K1 hK1 => ?_
 refine x_region ?_
 refine s_go (s_assign) ?_
 try simp only [opv, n1, n2, n3, n4, Value.cells]
 refine x_nil ?_
 refine hK1 _ _ ?_
 refine x_seq fun K2 hK2 => ?_
 refine x_region ?_
 refine s_go (s_assign) ?_
 try simp only [opv, n1, n2, n3, n4, Value.cells]
 refine x_nil ?_
 refine hK2 _ _ ?_
 refine x_seq fun K3 hK3 => ?_
 refine x_seq fun K4 hK4 => ?_
 refine x_region ?_
 refine s_go (s_move) ?_
 try simp only [opv, n1, n2, n3, n4, Value.cells]
 refine s_call en192 ?_
 try simp only [opv, n1, n2, n3, n4, Value.cells, List.map_toArray, List.map_cons, List.map_nil, List.append_toArray, List.cons_append, List.nil_append, Array.append_empty]
 refine CallR.mono (c_cwell _ g (e) A c (xs) hc (hS.owns (by repeat (first | exact Spl.nil | (apply Spl.cons (by repeat (exact Del.head))))))) ?_
 rintro _ w1 ⟨rfl, hC1⟩
 replace hS := hS.frame (by repeat (first | exact Spl.nil | (apply Spl.cons (by repeat (exact Del.head))))) hC1 (by intro r hr g hg; simp only [List.mem_cons, List.not_mem_nil, or_false] at hr; rcases hr with rfl | rfl | rfl <;> first | (simp [Res.reads] at hg; done) | exact .inr ⟨_, by simp, .inr hg⟩)
 simp only [List.cons_append, List.nil_append] at hS
 try simp only [opv, n1, n2, n3, n4, Value.cells]
 refine s_go (s_not) ?_
 try simp only [opv, n1, n2, n3, n4, Value.cells]
 refine x_nil ?_
 refine hK4 _ _ ?_
 refine x_cond (ht := fun hc1 => ?_) (hf := fun hc1 => ?_)
 ·
  try simp only [decide_eq_true_eq, decide_eq_false_iff_not, Bool.not_eq_true', Bool.not_eq_false', Int.not_lt, Int.not_le, ne_eq, Decidable.not_not, bne_iff_ne, beq_iff_eq, not_true_eq_false, not_false_eq_true] at hc1
  have hN := oneS_err (xs := xs) (by simpa using hc1)
  refine x_seq fun K5 hK5 => ?_
  refine x_region ?_
  refine s_go (s_move) ?_
  try simp only [opv, n1, n2, n3, n4, Value.cells]
  refine s_go (s_assign) ?_
  try simp only [opv, n1, n2, n3, n4, Value.cells]
  refine x_nil ?_
  refine hK5 _ _ ?_
  refine x_ret ?_
  refine r_tmp rfl ?_
  exact ⟨by rw [hN]; rfl, A, c, by rw [hN]; exact hc, by rw [hN]; exact RdIn.self (List.mem_cons_of_mem _ (List.mem_cons_self ..)), by rw [hN]; exact hS.sel (by repeat (first | exact Sel.nil | (refine Sel.cons (by repeat (exact Del.head)) ?_)))⟩
 ·
  try simp only [decide_eq_true_eq, decide_eq_false_iff_not, Bool.not_eq_true', Bool.not_eq_false', Int.not_lt, Int.not_le, ne_eq, Decidable.not_not, bne_iff_ne, beq_iff_eq, not_true_eq_false, not_false_eq_true] at hc1
  have he0 : e = 0 := by simpa using hc1
  subst he0
  have hN := oneS_take xs
  refine x_skip ?_
  refine hK3 _ _ ?_
  refine x_seq fun K6 hK6 => ?_
  refine x_seq fun K7 hK7 => ?_
  refine x_region ?_
  refine s_go (s_move) ?_
  try simp only [opv, n1, n2, n3, n4, Value.cells]
  refine s_go (s_move) ?_
  try simp only [opv, n1, n2, n3, n4, Value.cells]
  refine s_callv (hv := rfl) en240 ?_
  try simp only [opv, n1, n2, n3, n4, Value.cells, List.map_toArray, List.map_cons, List.map_nil, List.append_toArray, List.cons_append, List.nil_append, Array.append_empty]
  refine CallR.mono (c_cone _ g 0 A c xs hc (hS.owns (by repeat (first | exact Spl.nil | (apply Spl.cons (by repeat (exact Del.head))))))) ?_
  rintro _ w2 ⟨rfl, A2, c2, hcp2, hR2, hC2⟩
  have hY2 := RdIn.trans hM hS (by repeat (first | exact Spl.nil | (apply Spl.cons (by repeat (exact Del.head))))) hR2 (by intro s hs q hb; simp only [List.mem_cons, List.not_mem_nil, or_false] at hs; rcases hs with rfl | rfl <;> first | (simp [Res.reads] at hb; done) | exact .inr ⟨_, List.mem_cons_of_mem _ (List.mem_cons_self ..), .inr hb⟩)
  replace hS := hS.frame (by repeat (first | exact Spl.nil | (apply Spl.cons (by repeat (exact Del.head))))) hC2 (by intro r hr b hb; simp only [List.mem_cons, List.not_mem_nil, or_false] at hr; rcases hr with rfl | rfl <;> first | (simp [Res.reads] at hb; done) | exact hR2 b hb)
  replace hR2 := hY2
  simp only [List.cons_append, List.nil_append] at hS
  try simp only [opv, n1, n2, n3, n4, Value.cells]
  refine s_go (s_assign) ?_
  try simp only [opv, n1, n2, n3, n4, Value.cells]
  refine x_nil ?_
  refine hK7 _ _ ?_
  refine x_seq fun K8 hK8 => ?_
  refine x_region ?_
  refine s_go (s_move) ?_
  try simp only [opv, n1, n2, n3, n4, Value.cells]
  refine s_call en192 ?_
  try simp only [opv, n1, n2, n3, n4, Value.cells, List.map_toArray, List.map_cons, List.map_nil, List.append_toArray, List.cons_append, List.nil_append, Array.append_empty]
  refine CallR.mono (c_cwell _ g (takeE 0 xs 1) A2 c2 (takeX 0 xs 1) hcp2 (hS.owns (by repeat (first | exact Spl.nil | (apply Spl.cons (by repeat (exact Del.head))))))) ?_
  rintro _ w3 ⟨rfl, hC3⟩
  replace hS := hS.frame (by repeat (first | exact Spl.nil | (apply Spl.cons (by repeat (exact Del.head))))) hC3 (by intro r hr g hg; simp only [List.mem_cons, List.not_mem_nil, or_false] at hr; rcases hr with rfl | rfl | rfl <;> first | (simp [Res.reads] at hg; done) | exact .inr ⟨_, by simp, .inr hg⟩)
  simp only [List.cons_append, List.nil_append] at hS
  try simp only [opv, n1, n2, n3, n4, Value.cells]
  refine x_nil ?_
  refine hK8 _ _ ?_
  refine x_cond (ht := fun hc2 => ?_) (hf := fun hc2 => ?_)
  ·
   try simp only [decide_eq_true_eq, decide_eq_false_iff_not, Bool.not_eq_true', Bool.not_eq_false', Int.not_lt, Int.not_le, ne_eq, Decidable.not_not, bne_iff_ne, beq_iff_eq, not_true_eq_false, not_false_eq_true] at hc2
   refine x_seq fun K9 hK9 => ?_
   refine x_region ?_
   refine s_go (s_move) ?_
   try simp only [opv, n1, n2, n3, n4, Value.cells]
   refine s_go (s_assign) ?_
   try simp only [opv, n1, n2, n3, n4, Value.cells]
   refine x_nil ?_
   refine hK9 _ _ ?_
   refine x_ret ?_
   refine r_tmp rfl ?_
   exact ⟨by rw [hN]; rfl, _, _, by rw [hN]; assumption, by rw [hN]; assumption, by rw [hN]; exact hS.sel (by repeat (first | exact Sel.nil | (refine Sel.cons (by repeat (exact Del.head)) ?_)))⟩
  ·
   try simp only [decide_eq_true_eq, decide_eq_false_iff_not, Bool.not_eq_true', Bool.not_eq_false', Int.not_lt, Int.not_le, ne_eq, Decidable.not_not, bne_iff_ne, beq_iff_eq, not_true_eq_false, not_false_eq_true] at hc2
   have hx0 := oneS_bad (e := 0) (xs := xs) (by rw [hN]; simpa using hc2)
   rw [hN] at hx0
   refine x_skip ?_
   refine hK6 _ _ ?_
   refine x_seq fun K10 hK10 => ?_
   refine x_region ?_
   refine s_go (s_move) ?_
   try simp only [opv, n1, n2, n3, n4, Value.cells]
   refine s_go (s_assign) ?_
   try simp only [opv, n1, n2, n3, n4, Value.cells]
   refine x_nil ?_
   refine hK10 _ _ ?_
   refine x_ret ?_
   refine r_tmp rfl ?_
   exact ⟨by rw [hN]; exact (congrArg (Value.int .u8) hx0).symm, _, _, by rw [hN]; assumption, by rw [hN]; assumption, by rw [hN]; exact hS.sel (by repeat (first | exact Sel.nil | (refine Sel.cons (by repeat (exact Del.head)) ?_)))⟩
theorem c_cByte (w0 : World) (g : Nat) (e : Int) (A : Option Addr) (c : Nat) (xs : List Int) (hc : xs.length ≤ c) (hw : Byt xs) (hn : xs.length ≤ 1000000000) (hM : St (OwnB [.obj g (.cells #[.int .i64 e, .slice A xs.length c] 189 (0, 0)), .rd A 1 xs.length (xs.map (Value.int .u8))]) w0 w0 [.obj g (.cells #[.int .i64 e, .slice A xs.length c] 189 (0, 0)), .rd A 1 xs.length (xs.map (Value.int .u8))]) :
    CallR Tryz.prog 216 #[.pointer (some ⟨g, 0, none⟩)] w0 fun v w' => v = .int .u8 (oneS e xs).1 ∧ CuSt w0 w' [.obj g (.cells #[.int .i64 e, .slice A xs.length c] 189 (0, 0)), .rd A 1 xs.length (xs.map (Value.int .u8))] g (oneS e xs).2.1 (oneS e xs).2.2 [] := by
 have hS := hM
 refine c_enter (l := [.pointer (some ⟨g, 0, none⟩), undef, undef, undef, undef]) Tryz.func216 rfl (by simp only [Tryz.ntmps216, List.size_toArray, List.length_cons, List.length_nil, Nat.reduceAdd, Nat.reduceSub, Array.replicate_succ, Array.replicate_zero, List.push_toArray, List.append_toArray, List.nil_append, List.cons_append]) ?_
 refine x_seq fun K1 hK1 => ?_
 refine x_region ?_
 refine s_go (s_assign) ?_
 try simp only [opv, n1, n2, n3, n4, Value.cells]
 refine x_nil ?_
 refine hK1 _ _ ?_
 refine x_seq fun K2 hK2 => ?_
 refine x_region ?_
 refine s_go (s_move) ?_
 try simp only [opv, n1, n2, n3, n4, Value.cells]
 refine s_call en239 ?_
 try simp only [opv, n1, n2, n3, n4, Value.cells, List.map_toArray, List.map_cons, List.map_nil, List.append_toArray, List.cons_append, List.nil_append, Array.append_empty]
 refine CallR.mono (c_onceB _ g e A c xs hc hw hn (hS.owns (by repeat (first | exact Spl.nil | (apply Spl.cons (by repeat (exact Del.head))))))) ?_
 rintro _ w1 ⟨rfl, A1, c1, hcp1, hR1, hC1⟩
 have hY1 := RdIn.trans hM hS (by repeat (first | exact Spl.nil | (apply Spl.cons (by repeat (exact Del.head))))) hR1 (by intro s hs q hb; simp only [List.mem_cons, List.not_mem_nil, or_false] at hs; rcases hs with rfl | rfl <;> first | (simp [Res.reads] at hb; done) | exact .inr ⟨_, List.mem_cons_of_mem _ (List.mem_cons_self ..), .inr hb⟩)
 replace hS := hS.frame (by repeat (first | exact Spl.nil | (apply Spl.cons (by repeat (exact Del.head))))) hC1 (by intro r hr b hb; simp only [List.mem_cons, List.not_mem_nil, or_false] at hr; rcases hr with rfl | rfl <;> first | (simp [Res.reads] at hb; done) | exact hR1 b hb)
 replace hR1 := hY1
 simp only [List.cons_append, List.nil_append] at hS
 try simp only [opv, n1, n2, n3, n4, Value.cells]
 refine s_go (s_assign) ?_
 try simp only [opv, n1, n2, n3, n4, Value.cells]
 refine x_nil ?_
 refine hK2 _ _ ?_
 refine x_ret ?_
 refine r_tmp rfl ?_
 exact ⟨rfl, _, _, by assumption, by assumption, hS.sel (by repeat (first | exact Sel.nil | (refine Sel.cons (by repeat (exact Del.head)) ?_)))⟩
end Go.Proofs.YtffmanidnlbjjaaGreat
