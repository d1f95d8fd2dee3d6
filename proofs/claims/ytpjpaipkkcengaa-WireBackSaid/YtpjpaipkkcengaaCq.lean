/- Contracts of functions, printed by a program of this seat (wip/tools/gen.py) out of its specs. -/
import Derived.Test.YtpjpaipkkcengaaCp
set_option linter.unusedSimpArgs false
set_option linter.unusedVariables false
set_option maxHeartbeats 800000
set_option maxRecDepth 100000
namespace Go.Proofs.Ytpjpaipkkcengaa
open Go.RowKit


abbrev UnvP (l : List Int) : Value := .tuple #[.int .u64 ((unvar l).1 : Int), .int .i64 ((unvar l).2.1 : Int), .int .i64 ((unvar l).2.2 : Int)]
theorem unvP_of {l : List Int} {a b c : Nat} (h : unvar l = (a, b, c)) {x y z : Int} (hx : x = a) (hy : y = b) (hz : z = c) : Value.tuple #[.int .u64 x, .int .i64 y, .int .i64 z] = UnvP l := by
  subst hx; subst hy; subst hz; rw [UnvP, h]
theorem shl7 {c k : Nat} (hc : c < 128) (hk : k ≤ 9) (h9 : k = 9 → c ≤ 1) : c * 2 ^ (7 * k) < 18446744073709551616 := by
  by_cases h : k = 9
  · subst h
    have := h9 rfl
    have : c * 2 ^ (7 * 9) ≤ 1 * 2 ^ (7 * 9) := Nat.mul_le_mul_right _ this
    omega
  · have h1 : 2 ^ (7 * k) ≤ 2 ^ 56 := Nat.pow_le_pow_right (by omega) (by omega)
    have : c * 2 ^ (7 * k) ≤ 127 * 2 ^ 56 := Nat.mul_le_mul (by omega) h1
    omega
theorem unv_or {x c k : Nat} (hx : x < 128 ^ k) (hc : c < 256) (hk : k ≤ 9) (h9 : k = 9 → c ≤ 1) : bits .or .u64 (x : Int) (((c % 128) * 2 ^ (7 * k) % 18446744073709551616 : Nat) : Int) = ((x + 128 ^ k * (c % 128) : Nat) : Int) := by
  have h1 : c % 128 < 128 := Nat.mod_lt _ (by decide)
  have h2 : k = 9 → c % 128 ≤ 1 := fun h => by have := h9 h; omega
  rw [Nat.mod_eq_of_lt (shl7 h1 hk h2), pow128]
  exact or_dis64 (n := 7 * k) (b := c % 128) rfl (by rw [Nat.mul_comm]) (by rw [← pow128]; exact hx) (by rw [← pow128]; exact grp_64 hx h1 hk h2)


theorem c_packUnvar (w0 : World) (A : Option Addr) (n c : Nat) (l : List Int) (hr : Rd w0 A 1 n (l.map (Value.int .u8))) (hl : l.length = n) (hw : Byt l) (hn : n ≤ 140737488355000) (hc : n ≤ c) :
    CallR Try.prog 196 #[.slice A n c] w0 fun v w' => v = UnvP l ∧ Ext w0 w' := by
  have hS := St.rd1 (S := NoB) hr
  refine c_enter (l := [.slice A n c, undef, undef, undef, undef, undef, undef, undef, undef, undef, undef, undef, undef, undef, undef, undef, undef, undef, undef, undef, undef, undef, undef, undef, undef, undef, undef, undef, undef, undef, undef, undef, undef, undef, undef, undef, undef, undef, undef, undef, undef, undef, undef, undef, undef, undef, undef, undef, undef, undef, undef]) Try.func196 rfl (by simp only [Try.ntmps196, List.size_toArray, List.length_cons, List.length_nil, Nat.reduceAdd, Nat.reduceSub, Array.replicate_succ, Array.replicate_zero, List.push_toArray, List.append_toArray, List.nil_append, List.cons_append]) ?_
  refine x_seq fun K1 hK1 => ?_
  refine x_region ?_
  refine s_go (s_assign) ?_
  try simp only [opv, n1, n2, n3, n4, Value.cells]
  refine s_go (s_assign) ?_
  try simp only [opv, n1, n2, n3, n4, Value.cells]
  refine s_go (s_assign) ?_
  try simp only [opv, n1, n2, n3, n4, Value.cells]
  refine x_nil ?_
  refine hK1 _ _ ?_
  refine x_scope ?_
  refine x_seq fun K2 hK2 => ?_
  refine x_label ?_
  refine hK2 _ _ ?_
  refine x_seq fun K3 hK3 => ?_
  refine x_seq fun K4 hK4 => ?_
  refine x_region ?_
  refine s_go (s_move) ?_
  try simp only [opv, n1, n2, n3, n4, Value.cells]
  refine x_nil ?_
  refine hK4 _ _ ?_
  refine x_block ?_
  refine x_loop [2, 3, 4, 5, 6, 7, 8, 9, 10, 11, 12, 13, 14, 15, 16, 17, 18, 19, 20, 21, 22, 23, 24, 25, 26, 27, 28, 29, 30, 31, 32, 33, 34, 35, 36, 37, 38, 39, 40, 41, 42, 43, 44, 45, 46, 47, 48, 49, 50] (fun m f w => ∃ k x : Nat, k ≤ 10 ∧ m = 10 - k ∧ f 7 = .int .i64 (k : Int) ∧ f 2 = .int .u64 (x : Int) ∧ f 3 = .int .i64 0 ∧ f 4 = .int .i64 0 ∧ x < 128 ^ k ∧ unv l (10 - k) k x = unvar l ∧ St NoB w0 w [.rd A 1 n (l.map (Value.int .u8))]) (10) ?init1 (fun m1 f1 wl1 hI => ?_)
  case init1 =>
    try simp only [opv, n1, n2, n3, n4, Value.cells]
    exact ⟨0, 0, by omega, rfl, rfl, rfl, by trivial, by trivial, by omega, rfl, hS⟩
  obtain ⟨k, x, hk, hm, h7, h2, h3, h4, hx, hU, hS⟩ := hI
  simp only [clob, List.foldl, n3, n4, h7, h2, h3, h4]
  have hby := hw.bt k
  refine x_seq fun K5 hK5 => ?_
  refine x_region ?_
  refine s_go (s_lss) ?_
  try simp only [opv, n1, n2, n3, n4, Value.cells]
  refine x_nil ?_
  refine hK5 _ _ ?_
  refine x_seq fun K6 hK6 => ?_
  refine x_cond (ht := fun hc1 => ?_) (hf := fun hc1 => ?_)
  ·
    try simp only [decide_eq_true_eq, decide_eq_false_iff_not, Bool.not_eq_true', Bool.not_eq_false', Int.not_lt, Int.not_le, ne_eq, Decidable.not_not, bne_iff_ne, beq_iff_eq, not_true_eq_false, not_false_eq_true] at hc1
    first
    | (exfalso; omega)
    | skip
      refine x_skip ?_
      refine hK6 _ _ ?_
      refine x_seq fun K7 hK7 => ?_
      refine x_block ?_
      refine x_seq fun K8 hK8 => ?_
      refine x_region ?_
      refine s_go (s_move) ?_
      try simp only [opv, n1, n2, n3, n4, Value.cells]
      refine s_go (s_assign) ?_
      try simp only [opv, n1, n2, n3, n4, Value.cells]
      refine x_nil ?_
      refine hK8 _ _ ?_
      refine x_seq fun K9 hK9 => ?_
      refine x_seq fun K10 hK10 => ?_
      refine x_region ?_
      refine s_go (s_move) ?_
      try simp only [opv, n1, n2, n3, n4, Value.cells]
      refine s_go (s_move) ?_
      try simp only [opv, n1, n2, n3, n4, Value.cells]
      refine s_go (s_len_sl Try.underlying43) ?_
      try simp only [opv, n1, n2, n3, n4, Value.cells]
      refine s_go (s_geq) ?_
      try simp only [opv, n1, n2, n3, n4, Value.cells]
      refine x_nil ?_
      refine hK10 _ _ ?_
      refine x_cond (ht := fun hc2 => ?_) (hf := fun hc2 => ?_)
      ·
        try simp only [decide_eq_true_eq, decide_eq_false_iff_not, Bool.not_eq_true', Bool.not_eq_false', Int.not_lt, Int.not_le, ne_eq, Decidable.not_not, bne_iff_ne, beq_iff_eq, not_true_eq_false, not_false_eq_true] at hc2
        first
        | (exfalso; omega)
        | skip
          have hu := unv_short hU (by omega) (by omega)
          refine x_seq fun K11 hK11 => ?_
          refine x_region ?_
          refine s_go (s_assign) ?_
          try simp only [opv, n1, n2, n3, n4, Value.cells]
          refine s_go (s_assign) ?_
          try simp only [opv, n1, n2, n3, n4, Value.cells]
          refine s_go (s_assign) ?_
          try simp only [opv, n1, n2, n3, n4, Value.cells]
          refine x_nil ?_
          refine hK11 _ _ ?_
          refine x_ret ?_
          refine r_tmp3 rfl ?_
          first | exact ⟨unvP_of hu rfl rfl rfl, hS.ext_of⟩ | exact ⟨unvP_of hu (by rw [Nat.mod_eq_of_lt (show bt l k < 128 by omega)]) (by omega) rfl, hS.ext_of⟩
      ·
        try simp only [decide_eq_true_eq, decide_eq_false_iff_not, Bool.not_eq_true', Bool.not_eq_false', Int.not_lt, Int.not_le, ne_eq, Decidable.not_not, bne_iff_ne, beq_iff_eq, not_true_eq_false, not_false_eq_true] at hc2
        first
        | (exfalso; omega)
        | skip
          refine x_skip ?_
          refine hK9 _ _ ?_
          refine x_seq fun K12 hK12 => ?_
          refine x_region ?_
          refine s_go (s_move) ?_
          try simp only [opv, n1, n2, n3, n4, Value.cells]
          refine s_go (s_move) ?_
          try simp only [opv, n1, n2, n3, n4, Value.cells]
          first | refine s_go (m_indexAddr_rd Try.underlying43 ti5 (hS := hS)) ?_ | refine s_go (m_indexAddr_vec Try.underlying43 ti5 (hS := hS)) ?_
          try simp only [opv, n1, n2, n3, n4, Value.cells, Nat.mul_one, Nat.zero_add, Int.toNat_natCast, Int.reduceToNat]
          first | refine s_go (m_load_obj Try.underlying5 (hS := hS)) ?_ | refine s_go (m_load_bx Try.underlying5 (hS := hS)) ?_ | refine s_go (m_load_rd Try.underlying5 (hS := hS)) ?_ | refine s_go (m_load_vec Try.underlying5 (hS := hS)) ?_
          try simp only [opv, n1, n2, n3, n4, Value.cells, List.getElem_toArray, List.getElem_cons_zero, List.getElem_cons_succ]
          rw [hby.1]
          refine s_go (s_assign) ?_
          try simp only [opv, n1, n2, n3, n4, Value.cells]
          refine x_nil ?_
          refine hK12 _ _ ?_
          refine x_seq fun K13 hK13 => ?_
          refine x_block ?_
          refine x_seq fun K14 hK14 => ?_
          refine x_block ?_
          refine x_seq fun K15 hK15 => ?_
          refine x_block ?_
          refine x_seq fun K16 hK16 => ?_
          refine x_block ?_
          refine x_seq fun K17 hK17 => ?_
          refine x_block ?_
          refine x_seq fun K18 hK18 => ?_
          refine x_seq fun K19 hK19 => ?_
          refine x_seq fun K20 hK20 => ?_
          refine x_region ?_
          refine s_go (s_move) ?_
          try simp only [opv, n1, n2, n3, n4, Value.cells]
          refine s_go (s_eql) ?_
          try simp only [opv, n1, n2, n3, n4, Value.cells]
          refine s_go (s_move) ?_
          try simp only [opv, n1, n2, n3, n4, Value.cells]
          refine s_part 21 rfl (fun hp1 => ?_) (fun hp1 => ?_)
          ·
            try simp only [n3, n4]
            try simp only [decide_eq_true_eq, decide_eq_false_iff_not, Bool.not_eq_true', Bool.not_eq_false', Int.not_lt, Int.not_le, ne_eq, Decidable.not_not] at hp1
            first
            | (exfalso; omega)
            | skip
              refine g_on (yi (t := 21) rfl rfl) ?_
              refine s_go (s_move) ?_
              try simp only [opv, n1, n2, n3, n4, Value.cells]
              refine g_on (yi (t := 21) rfl rfl) ?_
              refine s_go (s_gtr) ?_
              try simp only [opv, n1, n2, n3, n4, Value.cells]
              first | refine s_go (s_pick_t) ?_ | refine s_go (s_pick_f) ?_
              try simp only [opv, n1, n2, n3, n4, Value.cells]
              refine s_go (s_assign) ?_
              try simp only [opv, n1, n2, n3, n4, Value.cells]
              refine x_nil ?_
              refine hK20 _ _ ?_
              refine x_cond (ht := fun hc3 => ?_) (hf := fun hc3 => ?_)
              ·
                try simp only [decide_eq_true_eq, decide_eq_false_iff_not, Bool.not_eq_true', Bool.not_eq_false', Int.not_lt, Int.not_le, ne_eq, Decidable.not_not, bne_iff_ne, beq_iff_eq, not_true_eq_false, not_false_eq_true] at hc3
                first
                | (exfalso; omega)
                | skip
                  have hu := unv_big hU (by omega) (by omega) (by omega)
                  refine x_exit (look_here ?_)
                  refine hK17 _ _ ?_
                  refine x_seq fun K21 hK21 => ?_
                  refine x_exit (look_on (by decide) (look_on (by decide) (look_on (by decide) (look_on (by decide) (look_on (by decide) (look_here ?_))))))
                  refine hK3 _ _ ?_
                  refine x_seq fun K22 hK22 => ?_
                  refine x_region ?_
                  refine s_go (s_assign) ?_
                  try simp only [opv, n1, n2, n3, n4, Value.cells]
                  refine s_go (s_assign) ?_
                  try simp only [opv, n1, n2, n3, n4, Value.cells]
                  refine s_go (s_assign) ?_
                  try simp only [opv, n1, n2, n3, n4, Value.cells]
                  refine x_nil ?_
                  refine hK22 _ _ ?_
                  refine x_ret ?_
                  refine r_tmp3 rfl ?_
                  first | exact ⟨unvP_of hu rfl rfl rfl, hS.ext_of⟩ | exact ⟨unvP_of hu (by rw [Nat.mod_eq_of_lt (show bt l k < 128 by omega)]) (by omega) rfl, hS.ext_of⟩
              ·
                try simp only [decide_eq_true_eq, decide_eq_false_iff_not, Bool.not_eq_true', Bool.not_eq_false', Int.not_lt, Int.not_le, ne_eq, Decidable.not_not, bne_iff_ne, beq_iff_eq, not_true_eq_false, not_false_eq_true] at hc3
                first
                | (exfalso; omega)
                | skip
                  refine x_skip ?_
                  refine hK19 _ _ ?_
                  refine x_seq fun K23 hK23 => ?_
                  refine x_seq fun K24 hK24 => ?_
                  refine x_region ?_
                  refine s_go (s_move) ?_
                  try simp only [opv, n1, n2, n3, n4, Value.cells]
                  refine s_go (s_eql) ?_
                  try simp only [opv, n1, n2, n3, n4, Value.cells]
                  refine s_go (s_move) ?_
                  try simp only [opv, n1, n2, n3, n4, Value.cells]
                  refine s_part 28 rfl (fun hp2 => ?_) (fun hp2 => ?_)
                  ·
                    try simp only [n3, n4]
                    try simp only [decide_eq_true_eq, decide_eq_false_iff_not, Bool.not_eq_true', Bool.not_eq_false', Int.not_lt, Int.not_le, ne_eq, Decidable.not_not] at hp2
                    first
                    | (exfalso; omega)
                    | skip
                      refine g_on (yi (t := 28) rfl rfl) ?_
                      refine s_go (s_move) ?_
                      try simp only [opv, n1, n2, n3, n4, Value.cells]
                      refine g_on (yi (t := 28) rfl rfl) ?_
                      refine s_go (s_gtr) ?_
                      try simp only [opv, n1, n2, n3, n4, Value.cells]
                      first | refine s_go (s_pick_t) ?_ | refine s_go (s_pick_f) ?_
                      try simp only [opv, n1, n2, n3, n4, Value.cells]
                      refine s_go (s_assign) ?_
                      try simp only [opv, n1, n2, n3, n4, Value.cells]
                      refine x_nil ?_
                      refine hK24 _ _ ?_
                      refine x_cond (ht := fun hc4 => ?_) (hf := fun hc4 => ?_)
                      ·
                        try simp only [decide_eq_true_eq, decide_eq_false_iff_not, Bool.not_eq_true', Bool.not_eq_false', Int.not_lt, Int.not_le, ne_eq, Decidable.not_not, bne_iff_ne, beq_iff_eq, not_true_eq_false, not_false_eq_true] at hc4
                        first
                        | (exfalso; omega)
                        | skip
                          have hu := unv_form hU (by omega) (by omega) (by omega) (by omega)
                          refine x_exit (look_on (by decide) (look_here ?_))
                          refine hK16 _ _ ?_
                          refine x_seq fun K25 hK25 => ?_
                          refine x_seq fun K26 hK26 => ?_
                          refine x_region ?_
                          refine s_go (s_assign) ?_
                          try simp only [opv, n1, n2, n3, n4, Value.cells]
                          refine s_go (s_assign) ?_
                          try simp only [opv, n1, n2, n3, n4, Value.cells]
                          refine s_go (s_assign) ?_
                          try simp only [opv, n1, n2, n3, n4, Value.cells]
                          refine x_nil ?_
                          refine hK26 _ _ ?_
                          refine x_ret ?_
                          refine r_tmp3 rfl ?_
                          first | exact ⟨unvP_of hu rfl rfl rfl, hS.ext_of⟩ | exact ⟨unvP_of hu (by rw [Nat.mod_eq_of_lt (show bt l k < 128 by omega)]) (by omega) rfl, hS.ext_of⟩
                      ·
                        try simp only [decide_eq_true_eq, decide_eq_false_iff_not, Bool.not_eq_true', Bool.not_eq_false', Int.not_lt, Int.not_le, ne_eq, Decidable.not_not, bne_iff_ne, beq_iff_eq, not_true_eq_false, not_false_eq_true] at hc4
                        first
                        | (exfalso; omega)
                        | skip
                          refine x_skip ?_
                          refine hK23 _ _ ?_
                          refine x_seq fun K27 hK27 => ?_
                          refine x_region ?_
                          refine s_go (s_move) ?_
                          try simp only [opv, n1, n2, n3, n4, Value.cells]
                          refine s_go (s_lss) ?_
                          try simp only [opv, n1, n2, n3, n4, Value.cells]
                          refine s_go (s_assign) ?_
                          try simp only [opv, n1, n2, n3, n4, Value.cells]
                          refine x_nil ?_
                          refine hK27 _ _ ?_
                          refine x_cond (ht := fun hc5 => ?_) (hf := fun hc5 => ?_)
                          ·
                            try simp only [decide_eq_true_eq, decide_eq_false_iff_not, Bool.not_eq_true', Bool.not_eq_false', Int.not_lt, Int.not_le, ne_eq, Decidable.not_not, bne_iff_ne, beq_iff_eq, not_true_eq_false, not_false_eq_true] at hc5
                            first
                            | (exfalso; omega)
                            | skip
                              have hu := unv_done hU (by omega) (by omega) (by omega) (by omega) (by omega)
                              refine x_exit (look_on (by decide) (look_on (by decide) (look_here ?_)))
                              refine hK15 _ _ ?_
                              refine x_region ?_
                              refine s_go (s_move) ?_
                              try simp only [opv, n1, n2, n3, n4, Value.cells]
                              refine s_go (s_add (hc := by first | exact wr_i64 (by omega) (by omega) | rfl)) ?_
                              try simp only [opv, n1, n2, n3, n4, Value.cells]
                              refine s_go (s_assign) ?_
                              try simp only [opv, n1, n2, n3, n4, Value.cells]
                              refine x_nil ?_
                              refine hK14 _ _ ?_
                              refine x_seq fun K28 hK28 => ?_
                              refine x_region ?_
                              refine s_go (s_move) ?_
                              try simp only [opv, n1, n2, n3, n4, Value.cells]
                              refine s_go (s_move) ?_
                              try simp only [opv, n1, n2, n3, n4, Value.cells]
                              refine s_go (s_bits (by simp) (hc := andn7 hby.2)) ?_
                              try simp only [opv, n1, n2, n3, n4, Value.cells]
                              refine s_go (s_conv Try.underlying5 Try.underlying40 (hc := by first | exact wr_u64 (by omega) (by omega) | rfl)) ?_
                              try simp only [opv, n1, n2, n3, n4, Value.cells]
                              refine s_go (s_move) ?_
                              try simp only [opv, n1, n2, n3, n4, Value.cells]
                              refine s_go (s_mul (hc := by first | exact wr_i64 (by omega) (by omega) | rfl)) ?_
                              try simp only [opv, n1, n2, n3, n4, Value.cells]
                              refine s_go (s_conv Try.underlying3 Try.underlying178 (hc := by first | exact wr_u64 (by omega) (by omega) | rfl)) ?_
                              try simp only [opv, n1, n2, n3, n4, Value.cells]
                              refine s_go (s_shl (hc := shl_n64 (r := bt l k % 128) (n := 7 * k) (by omega))) ?_
                              try simp only [opv, n1, n2, n3, n4, Value.cells]
                              refine s_go (s_bits (by simp) (hc := unv_or hx hby.2 (by omega) (by omega))) ?_
                              try simp only [opv, n1, n2, n3, n4, Value.cells]
                              refine s_go (s_assign) ?_
                              try simp only [opv, n1, n2, n3, n4, Value.cells]
                              refine x_nil ?_
                              refine hK28 _ _ ?_
                              refine x_exit (look_here ?_)
                              refine hK13 _ _ ?_
                              refine x_seq fun K29 hK29 => ?_
                              refine x_region ?_
                              refine s_go (s_move) ?_
                              try simp only [opv, n1, n2, n3, n4, Value.cells]
                              refine s_go (s_gtr) ?_
                              try simp only [opv, n1, n2, n3, n4, Value.cells]
                              refine x_nil ?_
                              refine hK29 _ _ ?_
                              refine x_cond (ht := fun hc6 => ?_) (hf := fun hc6 => ?_)
                              ·
                                try simp only [decide_eq_true_eq, decide_eq_false_iff_not, Bool.not_eq_true', Bool.not_eq_false', Int.not_lt, Int.not_le, ne_eq, Decidable.not_not, bne_iff_ne, beq_iff_eq, not_true_eq_false, not_false_eq_true] at hc6
                                first
                                | (exfalso; omega)
                                | skip
                                  refine x_seq fun K30 hK30 => ?_
                                  refine x_region ?_
                                  refine s_go (s_move) ?_
                                  try simp only [opv, n1, n2, n3, n4, Value.cells]
                                  refine s_go (s_move) ?_
                                  try simp only [opv, n1, n2, n3, n4, Value.cells]
                                  refine s_go (s_assign) ?_
                                  try simp only [opv, n1, n2, n3, n4, Value.cells]
                                  refine s_go (s_assign) ?_
                                  try simp only [opv, n1, n2, n3, n4, Value.cells]
                                  refine s_go (s_assign) ?_
                                  try simp only [opv, n1, n2, n3, n4, Value.cells]
                                  refine x_nil ?_
                                  refine hK30 _ _ ?_
                                  refine x_ret ?_
                                  refine r_tmp3 rfl ?_
                                  first | exact ⟨unvP_of hu rfl rfl rfl, hS.ext_of⟩ | exact ⟨unvP_of hu (by rw [Nat.mod_eq_of_lt (show bt l k < 128 by omega)]) (by omega) rfl, hS.ext_of⟩
                              ·
                                try simp only [decide_eq_true_eq, decide_eq_false_iff_not, Bool.not_eq_true', Bool.not_eq_false', Int.not_lt, Int.not_le, ne_eq, Decidable.not_not, bne_iff_ne, beq_iff_eq, not_true_eq_false, not_false_eq_true] at hc6
                                first
                                | (exfalso; omega)
                                | skip
                                  refine x_skip ?_
                                  refine hK7 _ _ ?_
                                  refine x_region ?_
                                  refine s_go (s_add (hc := by first | exact wr_i64 (by omega) (by omega) | rfl)) ?_
                                  try simp only [opv, n1, n2, n3, n4, Value.cells]
                                  refine s_go (s_move) ?_
                                  try simp only [opv, n1, n2, n3, n4, Value.cells]
                                  refine x_nil ?_
                                  refine loop_back (m' := 10 - (k + 1)) (by simp only [clob, List.foldl, n1, n2, n3, n4]) ?_ ?_
                                  · try simp only [opv, n1, n2, n3, n4, Value.cells]
                                    exact ⟨k + 1, x + 128 ^ k * (bt l k % 128), by omega, by omega, by rfl, by rfl, by trivial, by trivial, grp_lt hx (Nat.mod_lt _ (by decide)), by rw [show bt l k % 128 = bt l k - 128 by omega]; exact unv_on hU (by omega) (by omega) (by omega) (by omega) (by omega), hS⟩
                                  · omega
                          ·
                            try simp only [decide_eq_true_eq, decide_eq_false_iff_not, Bool.not_eq_true', Bool.not_eq_false', Int.not_lt, Int.not_le, ne_eq, Decidable.not_not, bne_iff_ne, beq_iff_eq, not_true_eq_false, not_false_eq_true] at hc5
                            first
                            | (exfalso; omega)
                            | skip
                              refine x_skip ?_
                              refine hK18 _ _ ?_
                              refine x_exit (look_on (by decide) (look_on (by decide) (look_on (by decide) (look_here ?_))))
                              refine hK14 _ _ ?_
                              refine x_seq fun K31 hK31 => ?_
                              refine x_region ?_
                              refine s_go (s_move) ?_
                              try simp only [opv, n1, n2, n3, n4, Value.cells]
                              refine s_go (s_move) ?_
                              try simp only [opv, n1, n2, n3, n4, Value.cells]
                              refine s_go (s_bits (by simp) (hc := andn7 hby.2)) ?_
                              try simp only [opv, n1, n2, n3, n4, Value.cells]
                              refine s_go (s_conv Try.underlying5 Try.underlying40 (hc := by first | exact wr_u64 (by omega) (by omega) | rfl)) ?_
                              try simp only [opv, n1, n2, n3, n4, Value.cells]
                              refine s_go (s_move) ?_
                              try simp only [opv, n1, n2, n3, n4, Value.cells]
                              refine s_go (s_mul (hc := by first | exact wr_i64 (by omega) (by omega) | rfl)) ?_
                              try simp only [opv, n1, n2, n3, n4, Value.cells]
                              refine s_go (s_conv Try.underlying3 Try.underlying178 (hc := by first | exact wr_u64 (by omega) (by omega) | rfl)) ?_
                              try simp only [opv, n1, n2, n3, n4, Value.cells]
                              refine s_go (s_shl (hc := shl_n64 (r := bt l k % 128) (n := 7 * k) (by omega))) ?_
                              try simp only [opv, n1, n2, n3, n4, Value.cells]
                              refine s_go (s_bits (by simp) (hc := unv_or hx hby.2 (by omega) (by omega))) ?_
                              try simp only [opv, n1, n2, n3, n4, Value.cells]
                              refine s_go (s_assign) ?_
                              try simp only [opv, n1, n2, n3, n4, Value.cells]
                              refine x_nil ?_
                              refine hK31 _ _ ?_
                              refine x_exit (look_here ?_)
                              refine hK13 _ _ ?_
                              refine x_seq fun K32 hK32 => ?_
                              refine x_region ?_
                              refine s_go (s_move) ?_
                              try simp only [opv, n1, n2, n3, n4, Value.cells]
                              refine s_go (s_gtr) ?_
                              try simp only [opv, n1, n2, n3, n4, Value.cells]
                              refine x_nil ?_
                              refine hK32 _ _ ?_
                              refine x_cond (ht := fun hc7 => ?_) (hf := fun hc7 => ?_)
                              ·
                                try simp only [decide_eq_true_eq, decide_eq_false_iff_not, Bool.not_eq_true', Bool.not_eq_false', Int.not_lt, Int.not_le, ne_eq, Decidable.not_not, bne_iff_ne, beq_iff_eq, not_true_eq_false, not_false_eq_true] at hc7
                                first
                                | (exfalso; omega)
                                | skip
                                  refine x_seq fun K33 hK33 => ?_
                                  refine x_region ?_
                                  refine s_go (s_move) ?_
                                  try simp only [opv, n1, n2, n3, n4, Value.cells]
                                  refine s_go (s_move) ?_
                                  try simp only [opv, n1, n2, n3, n4, Value.cells]
                                  refine s_go (s_assign) ?_
                                  try simp only [opv, n1, n2, n3, n4, Value.cells]
                                  refine s_go (s_assign) ?_
                                  try simp only [opv, n1, n2, n3, n4, Value.cells]
                                  refine s_go (s_assign) ?_
                                  try simp only [opv, n1, n2, n3, n4, Value.cells]
                                  refine x_nil ?_
                                  refine hK33 _ _ ?_
                                  refine x_ret ?_
                                  refine r_tmp3 rfl ?_
                                  first | exact ⟨unvP_of hu rfl rfl rfl, hS.ext_of⟩ | exact ⟨unvP_of hu (by rw [Nat.mod_eq_of_lt (show bt l k < 128 by omega)]) (by omega) rfl, hS.ext_of⟩
                              ·
                                try simp only [decide_eq_true_eq, decide_eq_false_iff_not, Bool.not_eq_true', Bool.not_eq_false', Int.not_lt, Int.not_le, ne_eq, Decidable.not_not, bne_iff_ne, beq_iff_eq, not_true_eq_false, not_false_eq_true] at hc7
                                first
                                | (exfalso; omega)
                                | skip
                                  refine x_skip ?_
                                  refine hK7 _ _ ?_
                                  refine x_region ?_
                                  refine s_go (s_add (hc := by first | exact wr_i64 (by omega) (by omega) | rfl)) ?_
                                  try simp only [opv, n1, n2, n3, n4, Value.cells]
                                  refine s_go (s_move) ?_
                                  try simp only [opv, n1, n2, n3, n4, Value.cells]
                                  refine x_nil ?_
                                  refine loop_back (m' := 10 - (k + 1)) (by simp only [clob, List.foldl, n1, n2, n3, n4]) ?_ ?_
                                  · try simp only [opv, n1, n2, n3, n4, Value.cells]
                                    exact ⟨k + 1, x + 128 ^ k * (bt l k % 128), by omega, by omega, by rfl, by rfl, by trivial, by trivial, grp_lt hx (Nat.mod_lt _ (by decide)), by rw [show bt l k % 128 = bt l k - 128 by omega]; exact unv_on hU (by omega) (by omega) (by omega) (by omega) (by omega), hS⟩
                                  · omega
                  ·
                    try simp only [n3, n4]
                    try simp only [decide_eq_true_eq, decide_eq_false_iff_not, Bool.not_eq_true', Bool.not_eq_false', Int.not_lt, Int.not_le, ne_eq, Decidable.not_not] at hp2
                    first
                    | (exfalso; omega)
                    | skip
                      refine g_off (yi (t := 28) rfl rfl) ?_
                      try simp only [opv, n1, n2, n3, n4, Value.cells]
                      refine g_off (yi (t := 28) rfl rfl) ?_
                      try simp only [opv, n1, n2, n3, n4, Value.cells]
                      first | refine s_go (s_pick_t) ?_ | refine s_go (s_pick_f) ?_
                      try simp only [opv, n1, n2, n3, n4, Value.cells]
                      refine s_go (s_assign) ?_
                      try simp only [opv, n1, n2, n3, n4, Value.cells]
                      refine x_nil ?_
                      refine hK24 _ _ ?_
                      refine x_cond_f (h := ?_)
                      refine x_skip ?_
                      refine hK23 _ _ ?_
                      refine x_seq fun K34 hK34 => ?_
                      refine x_region ?_
                      refine s_go (s_move) ?_
                      try simp only [opv, n1, n2, n3, n4, Value.cells]
                      refine s_go (s_lss) ?_
                      try simp only [opv, n1, n2, n3, n4, Value.cells]
                      refine s_go (s_assign) ?_
                      try simp only [opv, n1, n2, n3, n4, Value.cells]
                      refine x_nil ?_
                      refine hK34 _ _ ?_
                      refine x_cond (ht := fun hc9 => ?_) (hf := fun hc9 => ?_)
                      ·
                        try simp only [decide_eq_true_eq, decide_eq_false_iff_not, Bool.not_eq_true', Bool.not_eq_false', Int.not_lt, Int.not_le, ne_eq, Decidable.not_not, bne_iff_ne, beq_iff_eq, not_true_eq_false, not_false_eq_true] at hc9
                        first
                        | (exfalso; omega)
                        | skip
                          have hu := unv_done hU (by omega) (by omega) (by omega) (by omega) (by omega)
                          refine x_exit (look_on (by decide) (look_on (by decide) (look_here ?_)))
                          refine hK15 _ _ ?_
                          refine x_region ?_
                          refine s_go (s_move) ?_
                          try simp only [opv, n1, n2, n3, n4, Value.cells]
                          refine s_go (s_add (hc := by first | exact wr_i64 (by omega) (by omega) | rfl)) ?_
                          try simp only [opv, n1, n2, n3, n4, Value.cells]
                          refine s_go (s_assign) ?_
                          try simp only [opv, n1, n2, n3, n4, Value.cells]
                          refine x_nil ?_
                          refine hK14 _ _ ?_
                          refine x_seq fun K35 hK35 => ?_
                          refine x_region ?_
                          refine s_go (s_move) ?_
                          try simp only [opv, n1, n2, n3, n4, Value.cells]
                          refine s_go (s_move) ?_
                          try simp only [opv, n1, n2, n3, n4, Value.cells]
                          refine s_go (s_bits (by simp) (hc := andn7 hby.2)) ?_
                          try simp only [opv, n1, n2, n3, n4, Value.cells]
                          refine s_go (s_conv Try.underlying5 Try.underlying40 (hc := by first | exact wr_u64 (by omega) (by omega) | rfl)) ?_
                          try simp only [opv, n1, n2, n3, n4, Value.cells]
                          refine s_go (s_move) ?_
                          try simp only [opv, n1, n2, n3, n4, Value.cells]
                          refine s_go (s_mul (hc := by first | exact wr_i64 (by omega) (by omega) | rfl)) ?_
                          try simp only [opv, n1, n2, n3, n4, Value.cells]
                          refine s_go (s_conv Try.underlying3 Try.underlying178 (hc := by first | exact wr_u64 (by omega) (by omega) | rfl)) ?_
                          try simp only [opv, n1, n2, n3, n4, Value.cells]
                          refine s_go (s_shl (hc := shl_n64 (r := bt l k % 128) (n := 7 * k) (by omega))) ?_
                          try simp only [opv, n1, n2, n3, n4, Value.cells]
                          refine s_go (s_bits (by simp) (hc := unv_or hx hby.2 (by omega) (by omega))) ?_
                          try simp only [opv, n1, n2, n3, n4, Value.cells]
                          refine s_go (s_assign) ?_
                          try simp only [opv, n1, n2, n3, n4, Value.cells]
                          refine x_nil ?_
                          refine hK35 _ _ ?_
                          refine x_exit (look_here ?_)
                          refine hK13 _ _ ?_
                          refine x_seq fun K36 hK36 => ?_
                          refine x_region ?_
                          refine s_go (s_move) ?_
                          try simp only [opv, n1, n2, n3, n4, Value.cells]
                          refine s_go (s_gtr) ?_
                          try simp only [opv, n1, n2, n3, n4, Value.cells]
                          refine x_nil ?_
                          refine hK36 _ _ ?_
                          refine x_cond (ht := fun hc10 => ?_) (hf := fun hc10 => ?_)
                          ·
                            try simp only [decide_eq_true_eq, decide_eq_false_iff_not, Bool.not_eq_true', Bool.not_eq_false', Int.not_lt, Int.not_le, ne_eq, Decidable.not_not, bne_iff_ne, beq_iff_eq, not_true_eq_false, not_false_eq_true] at hc10
                            first
                            | (exfalso; omega)
                            | skip
                              refine x_seq fun K37 hK37 => ?_
                              refine x_region ?_
                              refine s_go (s_move) ?_
                              try simp only [opv, n1, n2, n3, n4, Value.cells]
                              refine s_go (s_move) ?_
                              try simp only [opv, n1, n2, n3, n4, Value.cells]
                              refine s_go (s_assign) ?_
                              try simp only [opv, n1, n2, n3, n4, Value.cells]
                              refine s_go (s_assign) ?_
                              try simp only [opv, n1, n2, n3, n4, Value.cells]
                              refine s_go (s_assign) ?_
                              try simp only [opv, n1, n2, n3, n4, Value.cells]
                              refine x_nil ?_
                              refine hK37 _ _ ?_
                              refine x_ret ?_
                              refine r_tmp3 rfl ?_
                              first | exact ⟨unvP_of hu rfl rfl rfl, hS.ext_of⟩ | exact ⟨unvP_of hu (by rw [Nat.mod_eq_of_lt (show bt l k < 128 by omega)]) (by omega) rfl, hS.ext_of⟩
                          ·
                            try simp only [decide_eq_true_eq, decide_eq_false_iff_not, Bool.not_eq_true', Bool.not_eq_false', Int.not_lt, Int.not_le, ne_eq, Decidable.not_not, bne_iff_ne, beq_iff_eq, not_true_eq_false, not_false_eq_true] at hc10
                            first
                            | (exfalso; omega)
                            | skip
                              refine x_skip ?_
                              refine hK7 _ _ ?_
                              refine x_region ?_
                              refine s_go (s_add (hc := by first | exact wr_i64 (by omega) (by omega) | rfl)) ?_
                              try simp only [opv, n1, n2, n3, n4, Value.cells]
                              refine s_go (s_move) ?_
                              try simp only [opv, n1, n2, n3, n4, Value.cells]
                              refine x_nil ?_
                              refine loop_back (m' := 10 - (k + 1)) (by simp only [clob, List.foldl, n1, n2, n3, n4]) ?_ ?_
                              · try simp only [opv, n1, n2, n3, n4, Value.cells]
                                exact ⟨k + 1, x + 128 ^ k * (bt l k % 128), by omega, by omega, by rfl, by rfl, by trivial, by trivial, grp_lt hx (Nat.mod_lt _ (by decide)), by rw [show bt l k % 128 = bt l k - 128 by omega]; exact unv_on hU (by omega) (by omega) (by omega) (by omega) (by omega), hS⟩
                              · omega
                      ·
                        try simp only [decide_eq_true_eq, decide_eq_false_iff_not, Bool.not_eq_true', Bool.not_eq_false', Int.not_lt, Int.not_le, ne_eq, Decidable.not_not, bne_iff_ne, beq_iff_eq, not_true_eq_false, not_false_eq_true] at hc9
                        first
                        | (exfalso; omega)
                        | skip
                          refine x_skip ?_
                          refine hK18 _ _ ?_
                          refine x_exit (look_on (by decide) (look_on (by decide) (look_on (by decide) (look_here ?_))))
                          refine hK14 _ _ ?_
                          refine x_seq fun K38 hK38 => ?_
                          refine x_region ?_
                          refine s_go (s_move) ?_
                          try simp only [opv, n1, n2, n3, n4, Value.cells]
                          refine s_go (s_move) ?_
                          try simp only [opv, n1, n2, n3, n4, Value.cells]
                          refine s_go (s_bits (by simp) (hc := andn7 hby.2)) ?_
                          try simp only [opv, n1, n2, n3, n4, Value.cells]
                          refine s_go (s_conv Try.underlying5 Try.underlying40 (hc := by first | exact wr_u64 (by omega) (by omega) | rfl)) ?_
                          try simp only [opv, n1, n2, n3, n4, Value.cells]
                          refine s_go (s_move) ?_
                          try simp only [opv, n1, n2, n3, n4, Value.cells]
                          refine s_go (s_mul (hc := by first | exact wr_i64 (by omega) (by omega) | rfl)) ?_
                          try simp only [opv, n1, n2, n3, n4, Value.cells]
                          refine s_go (s_conv Try.underlying3 Try.underlying178 (hc := by first | exact wr_u64 (by omega) (by omega) | rfl)) ?_
                          try simp only [opv, n1, n2, n3, n4, Value.cells]
                          refine s_go (s_shl (hc := shl_n64 (r := bt l k % 128) (n := 7 * k) (by omega))) ?_
                          try simp only [opv, n1, n2, n3, n4, Value.cells]
                          refine s_go (s_bits (by simp) (hc := unv_or hx hby.2 (by omega) (by omega))) ?_
                          try simp only [opv, n1, n2, n3, n4, Value.cells]
                          refine s_go (s_assign) ?_
                          try simp only [opv, n1, n2, n3, n4, Value.cells]
                          refine x_nil ?_
                          refine hK38 _ _ ?_
                          refine x_exit (look_here ?_)
                          refine hK13 _ _ ?_
                          refine x_seq fun K39 hK39 => ?_
                          refine x_region ?_
                          refine s_go (s_move) ?_
                          try simp only [opv, n1, n2, n3, n4, Value.cells]
                          refine s_go (s_gtr) ?_
                          try simp only [opv, n1, n2, n3, n4, Value.cells]
                          refine x_nil ?_
                          refine hK39 _ _ ?_
                          refine x_cond (ht := fun hc11 => ?_) (hf := fun hc11 => ?_)
                          ·
                            try simp only [decide_eq_true_eq, decide_eq_false_iff_not, Bool.not_eq_true', Bool.not_eq_false', Int.not_lt, Int.not_le, ne_eq, Decidable.not_not, bne_iff_ne, beq_iff_eq, not_true_eq_false, not_false_eq_true] at hc11
                            first
                            | (exfalso; omega)
                            | skip
                              refine x_seq fun K40 hK40 => ?_
                              refine x_region ?_
                              refine s_go (s_move) ?_
                              try simp only [opv, n1, n2, n3, n4, Value.cells]
                              refine s_go (s_move) ?_
                              try simp only [opv, n1, n2, n3, n4, Value.cells]
                              refine s_go (s_assign) ?_
                              try simp only [opv, n1, n2, n3, n4, Value.cells]
                              refine s_go (s_assign) ?_
                              try simp only [opv, n1, n2, n3, n4, Value.cells]
                              refine s_go (s_assign) ?_
                              try simp only [opv, n1, n2, n3, n4, Value.cells]
                              refine x_nil ?_
                              refine hK40 _ _ ?_
                              refine x_ret ?_
                              refine r_tmp3 rfl ?_
                              first | exact ⟨unvP_of hu rfl rfl rfl, hS.ext_of⟩ | exact ⟨unvP_of hu (by rw [Nat.mod_eq_of_lt (show bt l k < 128 by omega)]) (by omega) rfl, hS.ext_of⟩
                          ·
                            try simp only [decide_eq_true_eq, decide_eq_false_iff_not, Bool.not_eq_true', Bool.not_eq_false', Int.not_lt, Int.not_le, ne_eq, Decidable.not_not, bne_iff_ne, beq_iff_eq, not_true_eq_false, not_false_eq_true] at hc11
                            first
                            | (exfalso; omega)
                            | skip
                              refine x_skip ?_
                              refine hK7 _ _ ?_
                              refine x_region ?_
                              refine s_go (s_add (hc := by first | exact wr_i64 (by omega) (by omega) | rfl)) ?_
                              try simp only [opv, n1, n2, n3, n4, Value.cells]
                              refine s_go (s_move) ?_
                              try simp only [opv, n1, n2, n3, n4, Value.cells]
                              refine x_nil ?_
                              refine loop_back (m' := 10 - (k + 1)) (by simp only [clob, List.foldl, n1, n2, n3, n4]) ?_ ?_
                              · try simp only [opv, n1, n2, n3, n4, Value.cells]
                                exact ⟨k + 1, x + 128 ^ k * (bt l k % 128), by omega, by omega, by rfl, by rfl, by trivial, by trivial, grp_lt hx (Nat.mod_lt _ (by decide)), by rw [show bt l k % 128 = bt l k - 128 by omega]; exact unv_on hU (by omega) (by omega) (by omega) (by omega) (by omega), hS⟩
                              · omega
          ·
            try simp only [n3, n4]
            try simp only [decide_eq_true_eq, decide_eq_false_iff_not, Bool.not_eq_true', Bool.not_eq_false', Int.not_lt, Int.not_le, ne_eq, Decidable.not_not] at hp1
            first
            | (exfalso; omega)
            | skip
              refine g_off (yi (t := 21) rfl rfl) ?_
              try simp only [opv, n1, n2, n3, n4, Value.cells]
              refine g_off (yi (t := 21) rfl rfl) ?_
              try simp only [opv, n1, n2, n3, n4, Value.cells]
              first | refine s_go (s_pick_t) ?_ | refine s_go (s_pick_f) ?_
              try simp only [opv, n1, n2, n3, n4, Value.cells]
              refine s_go (s_assign) ?_
              try simp only [opv, n1, n2, n3, n4, Value.cells]
              refine x_nil ?_
              refine hK20 _ _ ?_
              refine x_cond_f (h := ?_)
              refine x_skip ?_
              refine hK19 _ _ ?_
              refine x_seq fun K41 hK41 => ?_
              refine x_seq fun K42 hK42 => ?_
              refine x_region ?_
              refine s_go (s_move) ?_
              try simp only [opv, n1, n2, n3, n4, Value.cells]
              refine s_go (s_eql) ?_
              try simp only [opv, n1, n2, n3, n4, Value.cells]
              refine s_go (s_move) ?_
              try simp only [opv, n1, n2, n3, n4, Value.cells]
              refine s_part 28 rfl (fun hp3 => ?_) (fun hp3 => ?_)
              ·
                try simp only [n3, n4]
                try simp only [decide_eq_true_eq, decide_eq_false_iff_not, Bool.not_eq_true', Bool.not_eq_false', Int.not_lt, Int.not_le, ne_eq, Decidable.not_not] at hp3
                first
                | (exfalso; omega)
                | skip
                  refine g_on (yi (t := 28) rfl rfl) ?_
                  refine s_go (s_move) ?_
                  try simp only [opv, n1, n2, n3, n4, Value.cells]
                  refine g_on (yi (t := 28) rfl rfl) ?_
                  refine s_go (s_gtr) ?_
                  try simp only [opv, n1, n2, n3, n4, Value.cells]
                  first | refine s_go (s_pick_t) ?_ | refine s_go (s_pick_f) ?_
                  try simp only [opv, n1, n2, n3, n4, Value.cells]
                  refine s_go (s_assign) ?_
                  try simp only [opv, n1, n2, n3, n4, Value.cells]
                  refine x_nil ?_
                  refine hK42 _ _ ?_
                  refine x_cond (ht := fun hc13 => ?_) (hf := fun hc13 => ?_)
                  ·
                    try simp only [decide_eq_true_eq, decide_eq_false_iff_not, Bool.not_eq_true', Bool.not_eq_false', Int.not_lt, Int.not_le, ne_eq, Decidable.not_not, bne_iff_ne, beq_iff_eq, not_true_eq_false, not_false_eq_true] at hc13
                    first
                    | (exfalso; omega)
                    | skip
                      have hu := unv_form hU (by omega) (by omega) (by omega) (by omega)
                      refine x_exit (look_on (by decide) (look_here ?_))
                      refine hK16 _ _ ?_
                      refine x_seq fun K43 hK43 => ?_
                      refine x_seq fun K44 hK44 => ?_
                      refine x_region ?_
                      refine s_go (s_assign) ?_
                      try simp only [opv, n1, n2, n3, n4, Value.cells]
                      refine s_go (s_assign) ?_
                      try simp only [opv, n1, n2, n3, n4, Value.cells]
                      refine s_go (s_assign) ?_
                      try simp only [opv, n1, n2, n3, n4, Value.cells]
                      refine x_nil ?_
                      refine hK44 _ _ ?_
                      refine x_ret ?_
                      refine r_tmp3 rfl ?_
                      first | exact ⟨unvP_of hu rfl rfl rfl, hS.ext_of⟩ | exact ⟨unvP_of hu (by rw [Nat.mod_eq_of_lt (show bt l k < 128 by omega)]) (by omega) rfl, hS.ext_of⟩
                  ·
                    try simp only [decide_eq_true_eq, decide_eq_false_iff_not, Bool.not_eq_true', Bool.not_eq_false', Int.not_lt, Int.not_le, ne_eq, Decidable.not_not, bne_iff_ne, beq_iff_eq, not_true_eq_false, not_false_eq_true] at hc13
                    first
                    | (exfalso; omega)
                    | skip
                      refine x_skip ?_
                      refine hK41 _ _ ?_
                      refine x_seq fun K45 hK45 => ?_
                      refine x_region ?_
                      refine s_go (s_move) ?_
                      try simp only [opv, n1, n2, n3, n4, Value.cells]
                      refine s_go (s_lss) ?_
                      try simp only [opv, n1, n2, n3, n4, Value.cells]
                      refine s_go (s_assign) ?_
                      try simp only [opv, n1, n2, n3, n4, Value.cells]
                      refine x_nil ?_
                      refine hK45 _ _ ?_
                      refine x_cond (ht := fun hc14 => ?_) (hf := fun hc14 => ?_)
                      ·
                        try simp only [decide_eq_true_eq, decide_eq_false_iff_not, Bool.not_eq_true', Bool.not_eq_false', Int.not_lt, Int.not_le, ne_eq, Decidable.not_not, bne_iff_ne, beq_iff_eq, not_true_eq_false, not_false_eq_true] at hc14
                        first
                        | (exfalso; omega)
                        | skip
                          have hu := unv_done hU (by omega) (by omega) (by omega) (by omega) (by omega)
                          refine x_exit (look_on (by decide) (look_on (by decide) (look_here ?_)))
                          refine hK15 _ _ ?_
                          refine x_region ?_
                          refine s_go (s_move) ?_
                          try simp only [opv, n1, n2, n3, n4, Value.cells]
                          refine s_go (s_add (hc := by first | exact wr_i64 (by omega) (by omega) | rfl)) ?_
                          try simp only [opv, n1, n2, n3, n4, Value.cells]
                          refine s_go (s_assign) ?_
                          try simp only [opv, n1, n2, n3, n4, Value.cells]
                          refine x_nil ?_
                          refine hK14 _ _ ?_
                          refine x_seq fun K46 hK46 => ?_
                          refine x_region ?_
                          refine s_go (s_move) ?_
                          try simp only [opv, n1, n2, n3, n4, Value.cells]
                          refine s_go (s_move) ?_
                          try simp only [opv, n1, n2, n3, n4, Value.cells]
                          refine s_go (s_bits (by simp) (hc := andn7 hby.2)) ?_
                          try simp only [opv, n1, n2, n3, n4, Value.cells]
                          refine s_go (s_conv Try.underlying5 Try.underlying40 (hc := by first | exact wr_u64 (by omega) (by omega) | rfl)) ?_
                          try simp only [opv, n1, n2, n3, n4, Value.cells]
                          refine s_go (s_move) ?_
                          try simp only [opv, n1, n2, n3, n4, Value.cells]
                          refine s_go (s_mul (hc := by first | exact wr_i64 (by omega) (by omega) | rfl)) ?_
                          try simp only [opv, n1, n2, n3, n4, Value.cells]
                          refine s_go (s_conv Try.underlying3 Try.underlying178 (hc := by first | exact wr_u64 (by omega) (by omega) | rfl)) ?_
                          try simp only [opv, n1, n2, n3, n4, Value.cells]
                          refine s_go (s_shl (hc := shl_n64 (r := bt l k % 128) (n := 7 * k) (by omega))) ?_
                          try simp only [opv, n1, n2, n3, n4, Value.cells]
                          refine s_go (s_bits (by simp) (hc := unv_or hx hby.2 (by omega) (by omega))) ?_
                          try simp only [opv, n1, n2, n3, n4, Value.cells]
                          refine s_go (s_assign) ?_
                          try simp only [opv, n1, n2, n3, n4, Value.cells]
                          refine x_nil ?_
                          refine hK46 _ _ ?_
                          refine x_exit (look_here ?_)
                          refine hK13 _ _ ?_
                          refine x_seq fun K47 hK47 => ?_
                          refine x_region ?_
                          refine s_go (s_move) ?_
                          try simp only [opv, n1, n2, n3, n4, Value.cells]
                          refine s_go (s_gtr) ?_
                          try simp only [opv, n1, n2, n3, n4, Value.cells]
                          refine x_nil ?_
                          refine hK47 _ _ ?_
                          refine x_cond (ht := fun hc15 => ?_) (hf := fun hc15 => ?_)
                          ·
                            try simp only [decide_eq_true_eq, decide_eq_false_iff_not, Bool.not_eq_true', Bool.not_eq_false', Int.not_lt, Int.not_le, ne_eq, Decidable.not_not, bne_iff_ne, beq_iff_eq, not_true_eq_false, not_false_eq_true] at hc15
                            first
                            | (exfalso; omega)
                            | skip
                              refine x_seq fun K48 hK48 => ?_
                              refine x_region ?_
                              refine s_go (s_move) ?_
                              try simp only [opv, n1, n2, n3, n4, Value.cells]
                              refine s_go (s_move) ?_
                              try simp only [opv, n1, n2, n3, n4, Value.cells]
                              refine s_go (s_assign) ?_
                              try simp only [opv, n1, n2, n3, n4, Value.cells]
                              refine s_go (s_assign) ?_
                              try simp only [opv, n1, n2, n3, n4, Value.cells]
                              refine s_go (s_assign) ?_
                              try simp only [opv, n1, n2, n3, n4, Value.cells]
                              refine x_nil ?_
                              refine hK48 _ _ ?_
                              refine x_ret ?_
                              refine r_tmp3 rfl ?_
                              first | exact ⟨unvP_of hu rfl rfl rfl, hS.ext_of⟩ | exact ⟨unvP_of hu (by rw [Nat.mod_eq_of_lt (show bt l k < 128 by omega)]) (by omega) rfl, hS.ext_of⟩
                          ·
                            try simp only [decide_eq_true_eq, decide_eq_false_iff_not, Bool.not_eq_true', Bool.not_eq_false', Int.not_lt, Int.not_le, ne_eq, Decidable.not_not, bne_iff_ne, beq_iff_eq, not_true_eq_false, not_false_eq_true] at hc15
                            first
                            | (exfalso; omega)
                            | skip
                              refine x_skip ?_
                              refine hK7 _ _ ?_
                              refine x_region ?_
                              refine s_go (s_add (hc := by first | exact wr_i64 (by omega) (by omega) | rfl)) ?_
                              try simp only [opv, n1, n2, n3, n4, Value.cells]
                              refine s_go (s_move) ?_
                              try simp only [opv, n1, n2, n3, n4, Value.cells]
                              refine x_nil ?_
                              refine loop_back (m' := 10 - (k + 1)) (by simp only [clob, List.foldl, n1, n2, n3, n4]) ?_ ?_
                              · try simp only [opv, n1, n2, n3, n4, Value.cells]
                                exact ⟨k + 1, x + 128 ^ k * (bt l k % 128), by omega, by omega, by rfl, by rfl, by trivial, by trivial, grp_lt hx (Nat.mod_lt _ (by decide)), by rw [show bt l k % 128 = bt l k - 128 by omega]; exact unv_on hU (by omega) (by omega) (by omega) (by omega) (by omega), hS⟩
                              · omega
                      ·
                        try simp only [decide_eq_true_eq, decide_eq_false_iff_not, Bool.not_eq_true', Bool.not_eq_false', Int.not_lt, Int.not_le, ne_eq, Decidable.not_not, bne_iff_ne, beq_iff_eq, not_true_eq_false, not_false_eq_true] at hc14
                        first
                        | (exfalso; omega)
                        | skip
                          refine x_skip ?_
                          refine hK18 _ _ ?_
                          refine x_exit (look_on (by decide) (look_on (by decide) (look_on (by decide) (look_here ?_))))
                          refine hK14 _ _ ?_
                          refine x_seq fun K49 hK49 => ?_
                          refine x_region ?_
                          refine s_go (s_move) ?_
                          try simp only [opv, n1, n2, n3, n4, Value.cells]
                          refine s_go (s_move) ?_
                          try simp only [opv, n1, n2, n3, n4, Value.cells]
                          refine s_go (s_bits (by simp) (hc := andn7 hby.2)) ?_
                          try simp only [opv, n1, n2, n3, n4, Value.cells]
                          refine s_go (s_conv Try.underlying5 Try.underlying40 (hc := by first | exact wr_u64 (by omega) (by omega) | rfl)) ?_
                          try simp only [opv, n1, n2, n3, n4, Value.cells]
                          refine s_go (s_move) ?_
                          try simp only [opv, n1, n2, n3, n4, Value.cells]
                          refine s_go (s_mul (hc := by first | exact wr_i64 (by omega) (by omega) | rfl)) ?_
                          try simp only [opv, n1, n2, n3, n4, Value.cells]
                          refine s_go (s_conv Try.underlying3 Try.underlying178 (hc := by first | exact wr_u64 (by omega) (by omega) | rfl)) ?_
                          try simp only [opv, n1, n2, n3, n4, Value.cells]
                          refine s_go (s_shl (hc := shl_n64 (r := bt l k % 128) (n := 7 * k) (by omega))) ?_
                          try simp only [opv, n1, n2, n3, n4, Value.cells]
                          refine s_go (s_bits (by simp) (hc := unv_or hx hby.2 (by omega) (by omega))) ?_
                          try simp only [opv, n1, n2, n3, n4, Value.cells]
                          refine s_go (s_assign) ?_
                          try simp only [opv, n1, n2, n3, n4, Value.cells]
                          refine x_nil ?_
                          refine hK49 _ _ ?_
                          refine x_exit (look_here ?_)
                          refine hK13 _ _ ?_
                          refine x_seq fun K50 hK50 => ?_
                          refine x_region ?_
                          refine s_go (s_move) ?_
                          try simp only [opv, n1, n2, n3, n4, Value.cells]
                          refine s_go (s_gtr) ?_
                          try simp only [opv, n1, n2, n3, n4, Value.cells]
                          refine x_nil ?_
                          refine hK50 _ _ ?_
                          refine x_cond (ht := fun hc16 => ?_) (hf := fun hc16 => ?_)
                          ·
                            try simp only [decide_eq_true_eq, decide_eq_false_iff_not, Bool.not_eq_true', Bool.not_eq_false', Int.not_lt, Int.not_le, ne_eq, Decidable.not_not, bne_iff_ne, beq_iff_eq, not_true_eq_false, not_false_eq_true] at hc16
                            first
                            | (exfalso; omega)
                            | skip
                              refine x_seq fun K51 hK51 => ?_
                              refine x_region ?_
                              refine s_go (s_move) ?_
                              try simp only [opv, n1, n2, n3, n4, Value.cells]
                              refine s_go (s_move) ?_
                              try simp only [opv, n1, n2, n3, n4, Value.cells]
                              refine s_go (s_assign) ?_
                              try simp only [opv, n1, n2, n3, n4, Value.cells]
                              refine s_go (s_assign) ?_
                              try simp only [opv, n1, n2, n3, n4, Value.cells]
                              refine s_go (s_assign) ?_
                              try simp only [opv, n1, n2, n3, n4, Value.cells]
                              refine x_nil ?_
                              refine hK51 _ _ ?_
                              refine x_ret ?_
                              refine r_tmp3 rfl ?_
                              first | exact ⟨unvP_of hu rfl rfl rfl, hS.ext_of⟩ | exact ⟨unvP_of hu (by rw [Nat.mod_eq_of_lt (show bt l k < 128 by omega)]) (by omega) rfl, hS.ext_of⟩
                          ·
                            try simp only [decide_eq_true_eq, decide_eq_false_iff_not, Bool.not_eq_true', Bool.not_eq_false', Int.not_lt, Int.not_le, ne_eq, Decidable.not_not, bne_iff_ne, beq_iff_eq, not_true_eq_false, not_false_eq_true] at hc16
                            first
                            | (exfalso; omega)
                            | skip
                              refine x_skip ?_
                              refine hK7 _ _ ?_
                              refine x_region ?_
                              refine s_go (s_add (hc := by first | exact wr_i64 (by omega) (by omega) | rfl)) ?_
                              try simp only [opv, n1, n2, n3, n4, Value.cells]
                              refine s_go (s_move) ?_
                              try simp only [opv, n1, n2, n3, n4, Value.cells]
                              refine x_nil ?_
                              refine loop_back (m' := 10 - (k + 1)) (by simp only [clob, List.foldl, n1, n2, n3, n4]) ?_ ?_
                              · try simp only [opv, n1, n2, n3, n4, Value.cells]
                                exact ⟨k + 1, x + 128 ^ k * (bt l k % 128), by omega, by omega, by rfl, by rfl, by trivial, by trivial, grp_lt hx (Nat.mod_lt _ (by decide)), by rw [show bt l k % 128 = bt l k - 128 by omega]; exact unv_on hU (by omega) (by omega) (by omega) (by omega) (by omega), hS⟩
                              · omega
              ·
                try simp only [n3, n4]
                try simp only [decide_eq_true_eq, decide_eq_false_iff_not, Bool.not_eq_true', Bool.not_eq_false', Int.not_lt, Int.not_le, ne_eq, Decidable.not_not] at hp3
                first
                | (exfalso; omega)
                | skip
                  refine g_off (yi (t := 28) rfl rfl) ?_
                  try simp only [opv, n1, n2, n3, n4, Value.cells]
                  refine g_off (yi (t := 28) rfl rfl) ?_
                  try simp only [opv, n1, n2, n3, n4, Value.cells]
                  first | refine s_go (s_pick_t) ?_ | refine s_go (s_pick_f) ?_
                  try simp only [opv, n1, n2, n3, n4, Value.cells]
                  refine s_go (s_assign) ?_
                  try simp only [opv, n1, n2, n3, n4, Value.cells]
                  refine x_nil ?_
                  refine hK42 _ _ ?_
                  refine x_cond_f (h := ?_)
                  refine x_skip ?_
                  refine hK41 _ _ ?_
                  refine x_seq fun K52 hK52 => ?_
                  refine x_region ?_
                  refine s_go (s_move) ?_
                  try simp only [opv, n1, n2, n3, n4, Value.cells]
                  refine s_go (s_lss) ?_
                  try simp only [opv, n1, n2, n3, n4, Value.cells]
                  refine s_go (s_assign) ?_
                  try simp only [opv, n1, n2, n3, n4, Value.cells]
                  refine x_nil ?_
                  refine hK52 _ _ ?_
                  refine x_cond (ht := fun hc18 => ?_) (hf := fun hc18 => ?_)
                  ·
                    try simp only [decide_eq_true_eq, decide_eq_false_iff_not, Bool.not_eq_true', Bool.not_eq_false', Int.not_lt, Int.not_le, ne_eq, Decidable.not_not, bne_iff_ne, beq_iff_eq, not_true_eq_false, not_false_eq_true] at hc18
                    first
                    | (exfalso; omega)
                    | skip
                      have hu := unv_done hU (by omega) (by omega) (by omega) (by omega) (by omega)
                      refine x_exit (look_on (by decide) (look_on (by decide) (look_here ?_)))
                      refine hK15 _ _ ?_
                      refine x_region ?_
                      refine s_go (s_move) ?_
                      try simp only [opv, n1, n2, n3, n4, Value.cells]
                      refine s_go (s_add (hc := by first | exact wr_i64 (by omega) (by omega) | rfl)) ?_
                      try simp only [opv, n1, n2, n3, n4, Value.cells]
                      refine s_go (s_assign) ?_
                      try simp only [opv, n1, n2, n3, n4, Value.cells]
                      refine x_nil ?_
                      refine hK14 _ _ ?_
                      refine x_seq fun K53 hK53 => ?_
                      refine x_region ?_
                      refine s_go (s_move) ?_
                      try simp only [opv, n1, n2, n3, n4, Value.cells]
                      refine s_go (s_move) ?_
                      try simp only [opv, n1, n2, n3, n4, Value.cells]
                      refine s_go (s_bits (by simp) (hc := andn7 hby.2)) ?_
                      try simp only [opv, n1, n2, n3, n4, Value.cells]
                      refine s_go (s_conv Try.underlying5 Try.underlying40 (hc := by first | exact wr_u64 (by omega) (by omega) | rfl)) ?_
                      try simp only [opv, n1, n2, n3, n4, Value.cells]
                      refine s_go (s_move) ?_
                      try simp only [opv, n1, n2, n3, n4, Value.cells]
                      refine s_go (s_mul (hc := by first | exact wr_i64 (by omega) (by omega) | rfl)) ?_
                      try simp only [opv, n1, n2, n3, n4, Value.cells]
                      refine s_go (s_conv Try.underlying3 Try.underlying178 (hc := by first | exact wr_u64 (by omega) (by omega) | rfl)) ?_
                      try simp only [opv, n1, n2, n3, n4, Value.cells]
                      refine s_go (s_shl (hc := shl_n64 (r := bt l k % 128) (n := 7 * k) (by omega))) ?_
                      try simp only [opv, n1, n2, n3, n4, Value.cells]
                      refine s_go (s_bits (by simp) (hc := unv_or hx hby.2 (by omega) (by omega))) ?_
                      try simp only [opv, n1, n2, n3, n4, Value.cells]
                      refine s_go (s_assign) ?_
                      try simp only [opv, n1, n2, n3, n4, Value.cells]
                      refine x_nil ?_
                      refine hK53 _ _ ?_
                      refine x_exit (look_here ?_)
                      refine hK13 _ _ ?_
                      refine x_seq fun K54 hK54 => ?_
                      refine x_region ?_
                      refine s_go (s_move) ?_
                      try simp only [opv, n1, n2, n3, n4, Value.cells]
                      refine s_go (s_gtr) ?_
                      try simp only [opv, n1, n2, n3, n4, Value.cells]
                      refine x_nil ?_
                      refine hK54 _ _ ?_
                      refine x_cond (ht := fun hc19 => ?_) (hf := fun hc19 => ?_)
                      ·
                        try simp only [decide_eq_true_eq, decide_eq_false_iff_not, Bool.not_eq_true', Bool.not_eq_false', Int.not_lt, Int.not_le, ne_eq, Decidable.not_not, bne_iff_ne, beq_iff_eq, not_true_eq_false, not_false_eq_true] at hc19
                        first
                        | (exfalso; omega)
                        | skip
                          refine x_seq fun K55 hK55 => ?_
                          refine x_region ?_
                          refine s_go (s_move) ?_
                          try simp only [opv, n1, n2, n3, n4, Value.cells]
                          refine s_go (s_move) ?_
                          try simp only [opv, n1, n2, n3, n4, Value.cells]
                          refine s_go (s_assign) ?_
                          try simp only [opv, n1, n2, n3, n4, Value.cells]
                          refine s_go (s_assign) ?_
                          try simp only [opv, n1, n2, n3, n4, Value.cells]
                          refine s_go (s_assign) ?_
                          try simp only [opv, n1, n2, n3, n4, Value.cells]
                          refine x_nil ?_
                          refine hK55 _ _ ?_
                          refine x_ret ?_
                          refine r_tmp3 rfl ?_
                          first | exact ⟨unvP_of hu rfl rfl rfl, hS.ext_of⟩ | exact ⟨unvP_of hu (by rw [Nat.mod_eq_of_lt (show bt l k < 128 by omega)]) (by omega) rfl, hS.ext_of⟩
                      ·
                        try simp only [decide_eq_true_eq, decide_eq_false_iff_not, Bool.not_eq_true', Bool.not_eq_false', Int.not_lt, Int.not_le, ne_eq, Decidable.not_not, bne_iff_ne, beq_iff_eq, not_true_eq_false, not_false_eq_true] at hc19
                        first
                        | (exfalso; omega)
                        | skip
                          refine x_skip ?_
                          refine hK7 _ _ ?_
                          refine x_region ?_
                          refine s_go (s_add (hc := by first | exact wr_i64 (by omega) (by omega) | rfl)) ?_
                          try simp only [opv, n1, n2, n3, n4, Value.cells]
                          refine s_go (s_move) ?_
                          try simp only [opv, n1, n2, n3, n4, Value.cells]
                          refine x_nil ?_
                          refine loop_back (m' := 10 - (k + 1)) (by simp only [clob, List.foldl, n1, n2, n3, n4]) ?_ ?_
                          · try simp only [opv, n1, n2, n3, n4, Value.cells]
                            exact ⟨k + 1, x + 128 ^ k * (bt l k % 128), by omega, by omega, by rfl, by rfl, by trivial, by trivial, grp_lt hx (Nat.mod_lt _ (by decide)), by rw [show bt l k % 128 = bt l k - 128 by omega]; exact unv_on hU (by omega) (by omega) (by omega) (by omega) (by omega), hS⟩
                          · omega
                  ·
                    try simp only [decide_eq_true_eq, decide_eq_false_iff_not, Bool.not_eq_true', Bool.not_eq_false', Int.not_lt, Int.not_le, ne_eq, Decidable.not_not, bne_iff_ne, beq_iff_eq, not_true_eq_false, not_false_eq_true] at hc18
                    first
                    | (exfalso; omega)
                    | skip
                      refine x_skip ?_
                      refine hK18 _ _ ?_
                      refine x_exit (look_on (by decide) (look_on (by decide) (look_on (by decide) (look_here ?_))))
                      refine hK14 _ _ ?_
                      refine x_seq fun K56 hK56 => ?_
                      refine x_region ?_
                      refine s_go (s_move) ?_
                      try simp only [opv, n1, n2, n3, n4, Value.cells]
                      refine s_go (s_move) ?_
                      try simp only [opv, n1, n2, n3, n4, Value.cells]
                      refine s_go (s_bits (by simp) (hc := andn7 hby.2)) ?_
                      try simp only [opv, n1, n2, n3, n4, Value.cells]
                      refine s_go (s_conv Try.underlying5 Try.underlying40 (hc := by first | exact wr_u64 (by omega) (by omega) | rfl)) ?_
                      try simp only [opv, n1, n2, n3, n4, Value.cells]
                      refine s_go (s_move) ?_
                      try simp only [opv, n1, n2, n3, n4, Value.cells]
                      refine s_go (s_mul (hc := by first | exact wr_i64 (by omega) (by omega) | rfl)) ?_
                      try simp only [opv, n1, n2, n3, n4, Value.cells]
                      refine s_go (s_conv Try.underlying3 Try.underlying178 (hc := by first | exact wr_u64 (by omega) (by omega) | rfl)) ?_
                      try simp only [opv, n1, n2, n3, n4, Value.cells]
                      refine s_go (s_shl (hc := shl_n64 (r := bt l k % 128) (n := 7 * k) (by omega))) ?_
                      try simp only [opv, n1, n2, n3, n4, Value.cells]
                      refine s_go (s_bits (by simp) (hc := unv_or hx hby.2 (by omega) (by omega))) ?_
                      try simp only [opv, n1, n2, n3, n4, Value.cells]
                      refine s_go (s_assign) ?_
                      try simp only [opv, n1, n2, n3, n4, Value.cells]
                      refine x_nil ?_
                      refine hK56 _ _ ?_
                      refine x_exit (look_here ?_)
                      refine hK13 _ _ ?_
                      refine x_seq fun K57 hK57 => ?_
                      refine x_region ?_
                      refine s_go (s_move) ?_
                      try simp only [opv, n1, n2, n3, n4, Value.cells]
                      refine s_go (s_gtr) ?_
                      try simp only [opv, n1, n2, n3, n4, Value.cells]
                      refine x_nil ?_
                      refine hK57 _ _ ?_
                      refine x_cond (ht := fun hc20 => ?_) (hf := fun hc20 => ?_)
                      ·
                        try simp only [decide_eq_true_eq, decide_eq_false_iff_not, Bool.not_eq_true', Bool.not_eq_false', Int.not_lt, Int.not_le, ne_eq, Decidable.not_not, bne_iff_ne, beq_iff_eq, not_true_eq_false, not_false_eq_true] at hc20
                        first
                        | (exfalso; omega)
                        | skip
                          refine x_seq fun K58 hK58 => ?_
                          refine x_region ?_
                          refine s_go (s_move) ?_
                          try simp only [opv, n1, n2, n3, n4, Value.cells]
                          refine s_go (s_move) ?_
                          try simp only [opv, n1, n2, n3, n4, Value.cells]
                          refine s_go (s_assign) ?_
                          try simp only [opv, n1, n2, n3, n4, Value.cells]
                          refine s_go (s_assign) ?_
                          try simp only [opv, n1, n2, n3, n4, Value.cells]
                          refine s_go (s_assign) ?_
                          try simp only [opv, n1, n2, n3, n4, Value.cells]
                          refine x_nil ?_
                          refine hK58 _ _ ?_
                          refine x_ret ?_
                          refine r_tmp3 rfl ?_
                          first | exact ⟨unvP_of hu rfl rfl rfl, hS.ext_of⟩ | exact ⟨unvP_of hu (by rw [Nat.mod_eq_of_lt (show bt l k < 128 by omega)]) (by omega) rfl, hS.ext_of⟩
                      ·
                        try simp only [decide_eq_true_eq, decide_eq_false_iff_not, Bool.not_eq_true', Bool.not_eq_false', Int.not_lt, Int.not_le, ne_eq, Decidable.not_not, bne_iff_ne, beq_iff_eq, not_true_eq_false, not_false_eq_true] at hc20
                        first
                        | (exfalso; omega)
                        | skip
                          refine x_skip ?_
                          refine hK7 _ _ ?_
                          refine x_region ?_
                          refine s_go (s_add (hc := by first | exact wr_i64 (by omega) (by omega) | rfl)) ?_
                          try simp only [opv, n1, n2, n3, n4, Value.cells]
                          refine s_go (s_move) ?_
                          try simp only [opv, n1, n2, n3, n4, Value.cells]
                          refine x_nil ?_
                          refine loop_back (m' := 10 - (k + 1)) (by simp only [clob, List.foldl, n1, n2, n3, n4]) ?_ ?_
                          · try simp only [opv, n1, n2, n3, n4, Value.cells]
                            exact ⟨k + 1, x + 128 ^ k * (bt l k % 128), by omega, by omega, by rfl, by rfl, by trivial, by trivial, grp_lt hx (Nat.mod_lt _ (by decide)), by rw [show bt l k % 128 = bt l k - 128 by omega]; exact unv_on hU (by omega) (by omega) (by omega) (by omega) (by omega), hS⟩
                          · omega
  ·
    try simp only [decide_eq_true_eq, decide_eq_false_iff_not, Bool.not_eq_true', Bool.not_eq_false', Int.not_lt, Int.not_le, ne_eq, Decidable.not_not, bne_iff_ne, beq_iff_eq, not_true_eq_false, not_false_eq_true] at hc1
    first
    | (exfalso; omega)
    | skip
      obtain rfl : k = 10 := by omega
      have hu := unv_end hU
      refine x_exit (look_here ?_)
      refine hK3 _ _ ?_
      refine x_seq fun K59 hK59 => ?_
      refine x_region ?_
      refine s_go (s_assign) ?_
      try simp only [opv, n1, n2, n3, n4, Value.cells]
      refine s_go (s_assign) ?_
      try simp only [opv, n1, n2, n3, n4, Value.cells]
      refine s_go (s_assign) ?_
      try simp only [opv, n1, n2, n3, n4, Value.cells]
      refine x_nil ?_
      refine hK59 _ _ ?_
      refine x_ret ?_
      refine r_tmp3 rfl ?_
      first | exact ⟨unvP_of hu rfl rfl rfl, hS.ext_of⟩ | exact ⟨unvP_of hu (by rw [Nat.mod_eq_of_lt (show bt l k < 128 by omega)]) (by omega) rfl, hS.ext_of⟩

theorem c_ref03Unvar (w0 : World) (A : Option Addr) (n c : Nat) (l : List Int) (hr : Rd w0 A 1 n (l.map (Value.int .u8))) (hl : l.length = n) (hw : Byt l) (hn : n ≤ 140737488355000) (hc : n ≤ c) :
    CallR Try.prog 245 #[.slice A n c] w0 fun v w' => v = UnvP l ∧ Ext w0 w' := by
  have hS := St.rd1 (S := NoB) hr
  refine c_enter (l := [.slice A n c, undef, undef, undef, undef, undef, undef, undef, undef, undef, undef, undef, undef, undef, undef, undef, undef, undef, undef, undef, undef, undef, undef, undef, undef, undef, undef, undef, undef, undef, undef, undef, undef, undef, undef, undef, undef, undef, undef, undef, undef, undef, undef, undef, undef, undef, undef, undef, undef, undef, undef, undef, undef, undef, undef, undef]) Try.func245 rfl (by simp only [Try.ntmps245, List.size_toArray, List.length_cons, List.length_nil, Nat.reduceAdd, Nat.reduceSub, Array.replicate_succ, Array.replicate_zero, List.push_toArray, List.append_toArray, List.nil_append, List.cons_append]) ?_
  refine x_seq fun K1 hK1 => ?_
  refine x_region ?_
  refine s_go (s_assign) ?_
  try simp only [opv, n1, n2, n3, n4, Value.cells]
  refine s_go (s_assign) ?_
  try simp only [opv, n1, n2, n3, n4, Value.cells]
  refine s_go (s_assign) ?_
  try simp only [opv, n1, n2, n3, n4, Value.cells]
  refine x_nil ?_
  refine hK1 _ _ ?_
  refine x_seq fun K2 hK2 => ?_
  refine x_region ?_
  refine s_go (s_assign) ?_
  try simp only [opv, n1, n2, n3, n4, Value.cells]
  refine x_nil ?_
  refine hK2 _ _ ?_
  refine x_seq fun K3 hK3 => ?_
  refine x_seq fun K4 hK4 => ?_
  refine x_region ?_
  refine s_go (s_assign) ?_
  try simp only [opv, n1, n2, n3, n4, Value.cells]
  refine x_nil ?_
  refine hK4 _ _ ?_
  refine x_block ?_
  refine x_loop [2, 3, 4, 5, 6, 7, 8, 9, 10, 11, 12, 13, 14, 15, 16, 17, 18, 19, 20, 21, 22, 23, 24, 25, 26, 27, 28, 29, 30, 31, 32, 33, 34, 35, 36, 37, 38, 39, 40, 41, 42, 43, 44, 45, 46, 47, 48, 49, 50, 51, 52, 53, 54, 55] (fun m f w => ∃ k x : Nat, k ≤ 10 ∧ m = 10 - k ∧ f 6 = .int .i64 (k : Int) ∧ f 5 = .int .u64 (x : Int) ∧ x < 128 ^ k ∧ unv l (10 - k) k x = unvar l ∧ St NoB w0 w [.rd A 1 n (l.map (Value.int .u8))]) (10) ?init1 (fun m1 f1 wl1 hI => ?_)
  case init1 =>
    try simp only [opv, n1, n2, n3, n4, Value.cells]
    exact ⟨0, 0, by omega, rfl, rfl, rfl, by omega, rfl, hS⟩
  obtain ⟨k, x, hk, hm, h6, h5, hx, hU, hS⟩ := hI
  simp only [clob, List.foldl, n3, n4, h6, h5]
  have hby := hw.bt k
  refine x_seq fun K5 hK5 => ?_
  refine x_seq fun K6 hK6 => ?_
  refine x_region ?_
  refine s_go (s_move) ?_
  try simp only [opv, n1, n2, n3, n4, Value.cells]
  refine s_go (s_lss) ?_
  try simp only [opv, n1, n2, n3, n4, Value.cells]
  refine x_nil ?_
  refine hK6 _ _ ?_
  refine x_cond (ht := fun hc1 => ?_) (hf := fun hc1 => ?_)
  ·
    try simp only [decide_eq_true_eq, decide_eq_false_iff_not, Bool.not_eq_true', Bool.not_eq_false', Int.not_lt, Int.not_le, ne_eq, Decidable.not_not, bne_iff_ne, beq_iff_eq, not_true_eq_false, not_false_eq_true] at hc1
    first
    | (exfalso; omega)
    | skip
      refine x_skip ?_
      refine hK5 _ _ ?_
      refine x_seq fun K7 hK7 => ?_
      refine x_block ?_
      refine x_seq fun K8 hK8 => ?_
      refine x_seq fun K9 hK9 => ?_
      refine x_region ?_
      refine s_go (s_move) ?_
      try simp only [opv, n1, n2, n3, n4, Value.cells]
      refine s_go (s_move) ?_
      try simp only [opv, n1, n2, n3, n4, Value.cells]
      refine s_go (s_len_sl Try.underlying43) ?_
      try simp only [opv, n1, n2, n3, n4, Value.cells]
      refine s_go (s_geq) ?_
      try simp only [opv, n1, n2, n3, n4, Value.cells]
      refine x_nil ?_
      refine hK9 _ _ ?_
      refine x_cond (ht := fun hc2 => ?_) (hf := fun hc2 => ?_)
      ·
        try simp only [decide_eq_true_eq, decide_eq_false_iff_not, Bool.not_eq_true', Bool.not_eq_false', Int.not_lt, Int.not_le, ne_eq, Decidable.not_not, bne_iff_ne, beq_iff_eq, not_true_eq_false, not_false_eq_true] at hc2
        first
        | (exfalso; omega)
        | skip
          have hu := unv_short hU (by omega) (by omega)
          refine x_seq fun K10 hK10 => ?_
          refine x_region ?_
          refine s_go (s_assign) ?_
          try simp only [opv, n1, n2, n3, n4, Value.cells]
          refine s_go (s_assign) ?_
          try simp only [opv, n1, n2, n3, n4, Value.cells]
          refine s_go (s_assign) ?_
          try simp only [opv, n1, n2, n3, n4, Value.cells]
          refine x_nil ?_
          refine hK10 _ _ ?_
          refine x_ret ?_
          refine r_tmp3 rfl ?_
          first | exact ⟨unvP_of hu rfl rfl rfl, hS.ext_of⟩ | exact ⟨unvP_of hu (by rw [Nat.mod_eq_of_lt (show bt l k < 128 by omega)]) (by omega) rfl, hS.ext_of⟩
      ·
        try simp only [decide_eq_true_eq, decide_eq_false_iff_not, Bool.not_eq_true', Bool.not_eq_false', Int.not_lt, Int.not_le, ne_eq, Decidable.not_not, bne_iff_ne, beq_iff_eq, not_true_eq_false, not_false_eq_true] at hc2
        first
        | (exfalso; omega)
        | skip
          refine x_skip ?_
          refine hK8 _ _ ?_
          refine x_seq fun K11 hK11 => ?_
          refine x_region ?_
          refine s_go (s_move) ?_
          try simp only [opv, n1, n2, n3, n4, Value.cells]
          refine s_go (s_move) ?_
          try simp only [opv, n1, n2, n3, n4, Value.cells]
          first | refine s_go (m_indexAddr_rd Try.underlying43 ti5 (hS := hS)) ?_ | refine s_go (m_indexAddr_vec Try.underlying43 ti5 (hS := hS)) ?_
          try simp only [opv, n1, n2, n3, n4, Value.cells, Nat.mul_one, Nat.zero_add, Int.toNat_natCast, Int.reduceToNat]
          first | refine s_go (m_load_obj Try.underlying5 (hS := hS)) ?_ | refine s_go (m_load_bx Try.underlying5 (hS := hS)) ?_ | refine s_go (m_load_rd Try.underlying5 (hS := hS)) ?_ | refine s_go (m_load_vec Try.underlying5 (hS := hS)) ?_
          try simp only [opv, n1, n2, n3, n4, Value.cells, List.getElem_toArray, List.getElem_cons_zero, List.getElem_cons_succ]
          rw [hby.1]
          refine s_go (s_rem (hc := rem_nat (r := bt l k) (p := 128))) ?_
          try simp only [opv, n1, n2, n3, n4, Value.cells]
          refine s_go (s_conv Try.underlying5 Try.underlying40 (hc := by first | exact wr_u64 (by omega) (by omega) | rfl)) ?_
          try simp only [opv, n1, n2, n3, n4, Value.cells]
          refine s_go (s_assign) ?_
          try simp only [opv, n1, n2, n3, n4, Value.cells]
          refine x_nil ?_
          refine hK11 _ _ ?_
          refine x_seq fun K12 hK12 => ?_
          refine x_seq fun K13 hK13 => ?_
          refine x_region ?_
          refine s_go (s_move) ?_
          try simp only [opv, n1, n2, n3, n4, Value.cells]
          refine s_go (s_eql) ?_
          try simp only [opv, n1, n2, n3, n4, Value.cells]
          refine s_go (s_move) ?_
          try simp only [opv, n1, n2, n3, n4, Value.cells]
          refine s_part 24 rfl (fun hp1 => ?_) (fun hp1 => ?_)
          ·
            try simp only [n3, n4]
            try simp only [decide_eq_true_eq, decide_eq_false_iff_not, Bool.not_eq_true', Bool.not_eq_false', Int.not_lt, Int.not_le, ne_eq, Decidable.not_not] at hp1
            first
            | (exfalso; omega)
            | skip
              refine g_on (yi (t := 24) rfl rfl) ?_
              refine s_go (s_move) ?_
              try simp only [opv, n1, n2, n3, n4, Value.cells]
              refine g_on (yi (t := 24) rfl rfl) ?_
              refine s_go (s_gtr) ?_
              try simp only [opv, n1, n2, n3, n4, Value.cells]
              refine g_on (yi (t := 24) rfl rfl) ?_
              refine s_go (s_move) ?_
              try simp only [opv, n1, n2, n3, n4, Value.cells]
              refine s_part 27 rfl (fun hp2 => ?_) (fun hp2 => ?_)
              ·
                try simp only [n3, n4]
                try simp only [decide_eq_true_eq, decide_eq_false_iff_not, Bool.not_eq_true', Bool.not_eq_false', Int.not_lt, Int.not_le, ne_eq, Decidable.not_not] at hp2
                first
                | (exfalso; omega)
                | skip
                  refine g_off (yi (t := 27) rfl rfl) ?_
                  try simp only [opv, n1, n2, n3, n4, Value.cells]
                  refine g_off (yi (t := 27) rfl rfl) ?_
                  try simp only [opv, n1, n2, n3, n4, Value.cells]
                  refine g_off (yi (t := 27) rfl rfl) ?_
                  try simp only [opv, n1, n2, n3, n4, Value.cells]
                  refine g_off (yi (t := 27) rfl rfl) ?_
                  try simp only [opv, n1, n2, n3, n4, Value.cells]
                  refine g_off (yi (t := 27) rfl rfl) ?_
                  try simp only [opv, n1, n2, n3, n4, Value.cells]
                  refine g_on (yi (t := 24) rfl rfl) ?_
                  first | refine s_go (s_pick_t) ?_ | refine s_go (s_pick_f) ?_
                  try simp only [opv, n1, n2, n3, n4, Value.cells]
                  first | refine s_go (s_pick_t) ?_ | refine s_go (s_pick_f) ?_
                  try simp only [opv, n1, n2, n3, n4, Value.cells]
                  refine x_nil ?_
                  refine hK13 _ _ ?_
                  refine x_cond_t (h := ?_)
                  have hu := unv_big hU (by omega) (by omega) (by omega)
                  refine x_seq fun K14 hK14 => ?_
                  refine x_region ?_
                  refine s_go (s_assign) ?_
                  try simp only [opv, n1, n2, n3, n4, Value.cells]
                  refine s_go (s_assign) ?_
                  try simp only [opv, n1, n2, n3, n4, Value.cells]
                  refine s_go (s_assign) ?_
                  try simp only [opv, n1, n2, n3, n4, Value.cells]
                  refine x_nil ?_
                  refine hK14 _ _ ?_
                  refine x_ret ?_
                  refine r_tmp3 rfl ?_
                  first | exact ⟨unvP_of hu rfl rfl rfl, hS.ext_of⟩ | exact ⟨unvP_of hu (by rw [Nat.mod_eq_of_lt (show bt l k < 128 by omega)]) (by omega) rfl, hS.ext_of⟩
              ·
                try simp only [n3, n4]
                try simp only [decide_eq_true_eq, decide_eq_false_iff_not, Bool.not_eq_true', Bool.not_eq_false', Int.not_lt, Int.not_le, ne_eq, Decidable.not_not] at hp2
                first
                | (exfalso; omega)
                | skip
                  refine g_on (yi (t := 27) rfl rfl) ?_
                  refine s_go (s_move) ?_
                  try simp only [opv, n1, n2, n3, n4, Value.cells]
                  refine g_on (yi (t := 27) rfl rfl) ?_
                  refine s_go (s_move) ?_
                  try simp only [opv, n1, n2, n3, n4, Value.cells]
                  refine g_on (yi (t := 27) rfl rfl) ?_
                  first | refine s_go (m_indexAddr_rd Try.underlying43 ti5 (hS := hS)) ?_ | refine s_go (m_indexAddr_vec Try.underlying43 ti5 (hS := hS)) ?_
                  try simp only [opv, n1, n2, n3, n4, Value.cells, Nat.mul_one, Nat.zero_add, Int.toNat_natCast, Int.reduceToNat]
                  refine g_on (yi (t := 27) rfl rfl) ?_
                  first | refine s_go (m_load_obj Try.underlying5 (hS := hS)) ?_ | refine s_go (m_load_bx Try.underlying5 (hS := hS)) ?_ | refine s_go (m_load_rd Try.underlying5 (hS := hS)) ?_ | refine s_go (m_load_vec Try.underlying5 (hS := hS)) ?_
                  try simp only [opv, n1, n2, n3, n4, Value.cells, List.getElem_toArray, List.getElem_cons_zero, List.getElem_cons_succ]
                  rw [hby.1]
                  refine g_on (yi (t := 27) rfl rfl) ?_
                  refine s_go (s_geq) ?_
                  try simp only [opv, n1, n2, n3, n4, Value.cells]
                  refine g_on (yi (t := 24) rfl rfl) ?_
                  first | refine s_go (s_pick_t) ?_ | refine s_go (s_pick_f) ?_
                  try simp only [opv, n1, n2, n3, n4, Value.cells]
                  first | refine s_go (s_pick_t) ?_ | refine s_go (s_pick_f) ?_
                  try simp only [opv, n1, n2, n3, n4, Value.cells]
                  refine x_nil ?_
                  refine hK13 _ _ ?_
                  refine x_cond (ht := fun hc4 => ?_) (hf := fun hc4 => ?_)
                  ·
                    try simp only [decide_eq_true_eq, decide_eq_false_iff_not, Bool.not_eq_true', Bool.not_eq_false', Int.not_lt, Int.not_le, ne_eq, Decidable.not_not, bne_iff_ne, beq_iff_eq, not_true_eq_false, not_false_eq_true] at hc4
                    first
                    | (exfalso; omega)
                    | skip
                      have hu := unv_big hU (by omega) (by omega) (by omega)
                      refine x_seq fun K15 hK15 => ?_
                      refine x_region ?_
                      refine s_go (s_assign) ?_
                      try simp only [opv, n1, n2, n3, n4, Value.cells]
                      refine s_go (s_assign) ?_
                      try simp only [opv, n1, n2, n3, n4, Value.cells]
                      refine s_go (s_assign) ?_
                      try simp only [opv, n1, n2, n3, n4, Value.cells]
                      refine x_nil ?_
                      refine hK15 _ _ ?_
                      refine x_ret ?_
                      refine r_tmp3 rfl ?_
                      first | exact ⟨unvP_of hu rfl rfl rfl, hS.ext_of⟩ | exact ⟨unvP_of hu (by rw [Nat.mod_eq_of_lt (show bt l k < 128 by omega)]) (by omega) rfl, hS.ext_of⟩
                  ·
                    try simp only [decide_eq_true_eq, decide_eq_false_iff_not, Bool.not_eq_true', Bool.not_eq_false', Int.not_lt, Int.not_le, ne_eq, Decidable.not_not, bne_iff_ne, beq_iff_eq, not_true_eq_false, not_false_eq_true] at hc4
                    first
                    | (exfalso; omega)
                    | skip
                      refine x_skip ?_
                      refine hK12 _ _ ?_
                      refine x_seq fun K16 hK16 => ?_
                      refine x_region ?_
                      refine s_go (s_move) ?_
                      try simp only [opv, n1, n2, n3, n4, Value.cells]
                      refine s_go (s_move) ?_
                      try simp only [opv, n1, n2, n3, n4, Value.cells]
                      refine s_go (s_move) ?_
                      try simp only [opv, n1, n2, n3, n4, Value.cells]
                      refine s_go (s_mul (hc := by first | exact wr_i64 (by omega) (by omega) | rfl)) ?_
                      try simp only [opv, n1, n2, n3, n4, Value.cells]
                      rw [show (7 : Int) * (k : Int) = ((7 * k : Nat) : Int) by omega]
                      refine s_call en257 ?_
                      try simp only [opv, n1, n2, n3, n4, Value.cells, List.map_toArray, List.map_cons, List.map_nil, List.append_toArray, List.cons_append, List.nil_append, Array.append_empty]
                      refine CallR.mono (c_power (7 * k) (by omega) _) ?_
                      rintro _ w1 ⟨rfl, hE1⟩
                      replace hS := hS.ext hE1
                      try simp only [opv, n1, n2, n3, n4, Value.cells]
                      have hg : bt l k % 128 < 128 := Nat.mod_lt _ (by decide)
                      have h9 : k = 9 → bt l k % 128 ≤ 1 := by omega
                      have hsh := shl7 hg (by omega) h9
                      have hgs := grp_64 hx hg (by omega) h9
                      refine s_go (s_mul (hc := mul_u64 hsh)) ?_
                      try simp only [opv, n1, n2, n3, n4, Value.cells]
                      refine s_go (s_add (hc := add_u64 (by rw [Nat.mul_comm, ← pow128]; exact hgs))) ?_
                      try simp only [opv, n1, n2, n3, n4, Value.cells]
                      rw [Nat.mul_comm (bt l k % 128), ← pow128]
                      refine s_go (s_assign) ?_
                      try simp only [opv, n1, n2, n3, n4, Value.cells]
                      refine x_nil ?_
                      refine hK16 _ _ ?_
                      refine x_seq fun K17 hK17 => ?_
                      refine x_region ?_
                      refine s_go (s_move) ?_
                      try simp only [opv, n1, n2, n3, n4, Value.cells]
                      refine s_go (s_move) ?_
                      try simp only [opv, n1, n2, n3, n4, Value.cells]
                      first | refine s_go (m_indexAddr_rd Try.underlying43 ti5 (hS := hS)) ?_ | refine s_go (m_indexAddr_vec Try.underlying43 ti5 (hS := hS)) ?_
                      try simp only [opv, n1, n2, n3, n4, Value.cells, Nat.mul_one, Nat.zero_add, Int.toNat_natCast, Int.reduceToNat]
                      first | refine s_go (m_load_obj Try.underlying5 (hS := hS)) ?_ | refine s_go (m_load_bx Try.underlying5 (hS := hS)) ?_ | refine s_go (m_load_rd Try.underlying5 (hS := hS)) ?_ | refine s_go (m_load_vec Try.underlying5 (hS := hS)) ?_
                      try simp only [opv, n1, n2, n3, n4, Value.cells, List.getElem_toArray, List.getElem_cons_zero, List.getElem_cons_succ]
                      rw [hby.1]
                      refine s_go (s_lss) ?_
                      try simp only [opv, n1, n2, n3, n4, Value.cells]
                      refine x_nil ?_
                      refine hK17 _ _ ?_
                      refine x_cond (ht := fun hc5 => ?_) (hf := fun hc5 => ?_)
                      ·
                        try simp only [decide_eq_true_eq, decide_eq_false_iff_not, Bool.not_eq_true', Bool.not_eq_false', Int.not_lt, Int.not_le, ne_eq, Decidable.not_not, bne_iff_ne, beq_iff_eq, not_true_eq_false, not_false_eq_true] at hc5
                        first
                        | (exfalso; omega)
                        | skip
                          refine x_seq fun K18 hK18 => ?_
                          refine x_seq fun K19 hK19 => ?_
                          refine x_region ?_
                          refine s_go (s_move) ?_
                          try simp only [opv, n1, n2, n3, n4, Value.cells]
                          refine s_go (s_eql) ?_
                          try simp only [opv, n1, n2, n3, n4, Value.cells]
                          refine s_go (s_move) ?_
                          try simp only [opv, n1, n2, n3, n4, Value.cells]
                          refine s_part 49 rfl (fun hp3 => ?_) (fun hp3 => ?_)
                          ·
                            try simp only [n3, n4]
                            try simp only [decide_eq_true_eq, decide_eq_false_iff_not, Bool.not_eq_true', Bool.not_eq_false', Int.not_lt, Int.not_le, ne_eq, Decidable.not_not] at hp3
                            first
                            | (exfalso; omega)
                            | skip
                              refine g_on (yi (t := 49) rfl rfl) ?_
                              refine s_go (s_move) ?_
                              try simp only [opv, n1, n2, n3, n4, Value.cells]
                              refine g_on (yi (t := 49) rfl rfl) ?_
                              refine s_go (s_gtr) ?_
                              try simp only [opv, n1, n2, n3, n4, Value.cells]
                              first | refine s_go (s_pick_t) ?_ | refine s_go (s_pick_f) ?_
                              try simp only [opv, n1, n2, n3, n4, Value.cells]
                              refine x_nil ?_
                              refine hK19 _ _ ?_
                              refine x_cond (ht := fun hc6 => ?_) (hf := fun hc6 => ?_)
                              ·
                                try simp only [decide_eq_true_eq, decide_eq_false_iff_not, Bool.not_eq_true', Bool.not_eq_false', Int.not_lt, Int.not_le, ne_eq, Decidable.not_not, bne_iff_ne, beq_iff_eq, not_true_eq_false, not_false_eq_true] at hc6
                                first
                                | (exfalso; omega)
                                | skip
                                  have hu := unv_form hU (by omega) (by omega) (by omega) (by omega)
                                  refine x_seq fun K20 hK20 => ?_
                                  refine x_region ?_
                                  refine s_go (s_assign) ?_
                                  try simp only [opv, n1, n2, n3, n4, Value.cells]
                                  refine s_go (s_assign) ?_
                                  try simp only [opv, n1, n2, n3, n4, Value.cells]
                                  refine s_go (s_assign) ?_
                                  try simp only [opv, n1, n2, n3, n4, Value.cells]
                                  refine x_nil ?_
                                  refine hK20 _ _ ?_
                                  refine x_ret ?_
                                  refine r_tmp3 rfl ?_
                                  first | exact ⟨unvP_of hu rfl rfl rfl, hS.ext_of⟩ | exact ⟨unvP_of hu (by rw [Nat.mod_eq_of_lt (show bt l k < 128 by omega)]) (by omega) rfl, hS.ext_of⟩
                              ·
                                try simp only [decide_eq_true_eq, decide_eq_false_iff_not, Bool.not_eq_true', Bool.not_eq_false', Int.not_lt, Int.not_le, ne_eq, Decidable.not_not, bne_iff_ne, beq_iff_eq, not_true_eq_false, not_false_eq_true] at hc6
                                first
                                | (exfalso; omega)
                                | skip
                                  have hu := unv_done hU (by omega) (by omega) (by omega) (by omega) (by omega)
                                  refine x_skip ?_
                                  refine hK18 _ _ ?_
                                  refine x_seq fun K21 hK21 => ?_
                                  refine x_region ?_
                                  refine s_go (s_move) ?_
                                  try simp only [opv, n1, n2, n3, n4, Value.cells]
                                  refine s_go (s_move) ?_
                                  try simp only [opv, n1, n2, n3, n4, Value.cells]
                                  refine s_go (s_add (hc := by first | exact wr_i64 (by omega) (by omega) | rfl)) ?_
                                  try simp only [opv, n1, n2, n3, n4, Value.cells]
                                  refine s_go (s_assign) ?_
                                  try simp only [opv, n1, n2, n3, n4, Value.cells]
                                  refine s_go (s_assign) ?_
                                  try simp only [opv, n1, n2, n3, n4, Value.cells]
                                  refine s_go (s_assign) ?_
                                  try simp only [opv, n1, n2, n3, n4, Value.cells]
                                  refine x_nil ?_
                                  refine hK21 _ _ ?_
                                  refine x_ret ?_
                                  refine r_tmp3 rfl ?_
                                  first | exact ⟨unvP_of hu rfl rfl rfl, hS.ext_of⟩ | exact ⟨unvP_of hu (by rw [Nat.mod_eq_of_lt (show bt l k < 128 by omega)]) (by omega) rfl, hS.ext_of⟩
                          ·
                            try simp only [n3, n4]
                            try simp only [decide_eq_true_eq, decide_eq_false_iff_not, Bool.not_eq_true', Bool.not_eq_false', Int.not_lt, Int.not_le, ne_eq, Decidable.not_not] at hp3
                            first
                            | (exfalso; omega)
                            | skip
                              refine g_off (yi (t := 49) rfl rfl) ?_
                              try simp only [opv, n1, n2, n3, n4, Value.cells]
                              refine g_off (yi (t := 49) rfl rfl) ?_
                              try simp only [opv, n1, n2, n3, n4, Value.cells]
                              first | refine s_go (s_pick_t) ?_ | refine s_go (s_pick_f) ?_
                              try simp only [opv, n1, n2, n3, n4, Value.cells]
                              refine x_nil ?_
                              refine hK19 _ _ ?_
                              refine x_cond_f (h := ?_)
                              have hu := unv_done hU (by omega) (by omega) (by omega) (by omega) (by omega)
                              refine x_skip ?_
                              refine hK18 _ _ ?_
                              refine x_seq fun K22 hK22 => ?_
                              refine x_region ?_
                              refine s_go (s_move) ?_
                              try simp only [opv, n1, n2, n3, n4, Value.cells]
                              refine s_go (s_move) ?_
                              try simp only [opv, n1, n2, n3, n4, Value.cells]
                              refine s_go (s_add (hc := by first | exact wr_i64 (by omega) (by omega) | rfl)) ?_
                              try simp only [opv, n1, n2, n3, n4, Value.cells]
                              refine s_go (s_assign) ?_
                              try simp only [opv, n1, n2, n3, n4, Value.cells]
                              refine s_go (s_assign) ?_
                              try simp only [opv, n1, n2, n3, n4, Value.cells]
                              refine s_go (s_assign) ?_
                              try simp only [opv, n1, n2, n3, n4, Value.cells]
                              refine x_nil ?_
                              refine hK22 _ _ ?_
                              refine x_ret ?_
                              refine r_tmp3 rfl ?_
                              first | exact ⟨unvP_of hu rfl rfl rfl, hS.ext_of⟩ | exact ⟨unvP_of hu (by rw [Nat.mod_eq_of_lt (show bt l k < 128 by omega)]) (by omega) rfl, hS.ext_of⟩
                      ·
                        try simp only [decide_eq_true_eq, decide_eq_false_iff_not, Bool.not_eq_true', Bool.not_eq_false', Int.not_lt, Int.not_le, ne_eq, Decidable.not_not, bne_iff_ne, beq_iff_eq, not_true_eq_false, not_false_eq_true] at hc5
                        first
                        | (exfalso; omega)
                        | skip
                          refine x_skip ?_
                          refine hK7 _ _ ?_
                          refine x_region ?_
                          refine s_go (s_move) ?_
                          try simp only [opv, n1, n2, n3, n4, Value.cells]
                          refine s_go (s_add (hc := by first | exact wr_i64 (by omega) (by omega) | rfl)) ?_
                          try simp only [opv, n1, n2, n3, n4, Value.cells]
                          refine s_go (s_assign) ?_
                          try simp only [opv, n1, n2, n3, n4, Value.cells]
                          refine x_nil ?_
                          refine loop_back (m' := 10 - (k + 1)) (by simp only [clob, List.foldl, n1, n2, n3, n4]) ?_ ?_
                          · try simp only [opv, n1, n2, n3, n4, Value.cells]
                            exact ⟨k + 1, x + 128 ^ k * (bt l k % 128), by omega, by omega, by rfl, by rfl, grp_lt hx (Nat.mod_lt _ (by decide)), by rw [show bt l k % 128 = bt l k - 128 by omega]; exact unv_on hU (by omega) (by omega) (by omega) (by omega) (by omega), hS⟩
                          · omega
          ·
            try simp only [n3, n4]
            try simp only [decide_eq_true_eq, decide_eq_false_iff_not, Bool.not_eq_true', Bool.not_eq_false', Int.not_lt, Int.not_le, ne_eq, Decidable.not_not] at hp1
            first
            | (exfalso; omega)
            | skip
              refine g_off (yi (t := 24) rfl rfl) ?_
              try simp only [opv, n1, n2, n3, n4, Value.cells]
              refine g_off (yi (t := 24) rfl rfl) ?_
              try simp only [opv, n1, n2, n3, n4, Value.cells]
              refine g_off (yi (t := 24) rfl rfl) ?_
              try simp only [opv, n1, n2, n3, n4, Value.cells]
              refine g_un (yn (t := 27) rfl rfl) ?_
              try simp only [opv, n1, n2, n3, n4, Value.cells]
              refine g_un (yn (t := 27) rfl rfl) ?_
              try simp only [opv, n1, n2, n3, n4, Value.cells]
              refine g_un (yn (t := 27) rfl rfl) ?_
              try simp only [opv, n1, n2, n3, n4, Value.cells]
              refine g_un (yn (t := 27) rfl rfl) ?_
              try simp only [opv, n1, n2, n3, n4, Value.cells]
              refine g_un (yn (t := 27) rfl rfl) ?_
              try simp only [opv, n1, n2, n3, n4, Value.cells]
              refine g_off (yi (t := 24) rfl rfl) ?_
              try simp only [opv, n1, n2, n3, n4, Value.cells]
              first | refine s_go (s_pick_t) ?_ | refine s_go (s_pick_f) ?_
              try simp only [opv, n1, n2, n3, n4, Value.cells]
              refine x_nil ?_
              refine hK13 _ _ ?_
              refine x_cond_f (h := ?_)
              refine x_skip ?_
              refine hK12 _ _ ?_
              refine x_seq fun K23 hK23 => ?_
              refine x_region ?_
              refine s_go (s_move) ?_
              try simp only [opv, n1, n2, n3, n4, Value.cells]
              refine s_go (s_move) ?_
              try simp only [opv, n1, n2, n3, n4, Value.cells]
              refine s_go (s_move) ?_
              try simp only [opv, n1, n2, n3, n4, Value.cells]
              refine s_go (s_mul (hc := by first | exact wr_i64 (by omega) (by omega) | rfl)) ?_
              try simp only [opv, n1, n2, n3, n4, Value.cells]
              rw [show (7 : Int) * (k : Int) = ((7 * k : Nat) : Int) by omega]
              refine s_call en257 ?_
              try simp only [opv, n1, n2, n3, n4, Value.cells, List.map_toArray, List.map_cons, List.map_nil, List.append_toArray, List.cons_append, List.nil_append, Array.append_empty]
              refine CallR.mono (c_power (7 * k) (by omega) _) ?_
              rintro _ w2 ⟨rfl, hE2⟩
              replace hS := hS.ext hE2
              try simp only [opv, n1, n2, n3, n4, Value.cells]
              have hg : bt l k % 128 < 128 := Nat.mod_lt _ (by decide)
              have h9 : k = 9 → bt l k % 128 ≤ 1 := by omega
              have hsh := shl7 hg (by omega) h9
              have hgs := grp_64 hx hg (by omega) h9
              refine s_go (s_mul (hc := mul_u64 hsh)) ?_
              try simp only [opv, n1, n2, n3, n4, Value.cells]
              refine s_go (s_add (hc := add_u64 (by rw [Nat.mul_comm, ← pow128]; exact hgs))) ?_
              try simp only [opv, n1, n2, n3, n4, Value.cells]
              rw [Nat.mul_comm (bt l k % 128), ← pow128]
              refine s_go (s_assign) ?_
              try simp only [opv, n1, n2, n3, n4, Value.cells]
              refine x_nil ?_
              refine hK23 _ _ ?_
              refine x_seq fun K24 hK24 => ?_
              refine x_region ?_
              refine s_go (s_move) ?_
              try simp only [opv, n1, n2, n3, n4, Value.cells]
              refine s_go (s_move) ?_
              try simp only [opv, n1, n2, n3, n4, Value.cells]
              first | refine s_go (m_indexAddr_rd Try.underlying43 ti5 (hS := hS)) ?_ | refine s_go (m_indexAddr_vec Try.underlying43 ti5 (hS := hS)) ?_
              try simp only [opv, n1, n2, n3, n4, Value.cells, Nat.mul_one, Nat.zero_add, Int.toNat_natCast, Int.reduceToNat]
              first | refine s_go (m_load_obj Try.underlying5 (hS := hS)) ?_ | refine s_go (m_load_bx Try.underlying5 (hS := hS)) ?_ | refine s_go (m_load_rd Try.underlying5 (hS := hS)) ?_ | refine s_go (m_load_vec Try.underlying5 (hS := hS)) ?_
              try simp only [opv, n1, n2, n3, n4, Value.cells, List.getElem_toArray, List.getElem_cons_zero, List.getElem_cons_succ]
              rw [hby.1]
              refine s_go (s_lss) ?_
              try simp only [opv, n1, n2, n3, n4, Value.cells]
              refine x_nil ?_
              refine hK24 _ _ ?_
              refine x_cond (ht := fun hc9 => ?_) (hf := fun hc9 => ?_)
              ·
                try simp only [decide_eq_true_eq, decide_eq_false_iff_not, Bool.not_eq_true', Bool.not_eq_false', Int.not_lt, Int.not_le, ne_eq, Decidable.not_not, bne_iff_ne, beq_iff_eq, not_true_eq_false, not_false_eq_true] at hc9
                first
                | (exfalso; omega)
                | skip
                  refine x_seq fun K25 hK25 => ?_
                  refine x_seq fun K26 hK26 => ?_
                  refine x_region ?_
                  refine s_go (s_move) ?_
                  try simp only [opv, n1, n2, n3, n4, Value.cells]
                  refine s_go (s_eql) ?_
                  try simp only [opv, n1, n2, n3, n4, Value.cells]
                  refine s_go (s_move) ?_
                  try simp only [opv, n1, n2, n3, n4, Value.cells]
                  refine s_part 49 rfl (fun hp4 => ?_) (fun hp4 => ?_)
                  ·
                    try simp only [n3, n4]
                    try simp only [decide_eq_true_eq, decide_eq_false_iff_not, Bool.not_eq_true', Bool.not_eq_false', Int.not_lt, Int.not_le, ne_eq, Decidable.not_not] at hp4
                    first
                    | (exfalso; omega)
                    | skip
                      refine g_on (yi (t := 49) rfl rfl) ?_
                      refine s_go (s_move) ?_
                      try simp only [opv, n1, n2, n3, n4, Value.cells]
                      refine g_on (yi (t := 49) rfl rfl) ?_
                      refine s_go (s_gtr) ?_
                      try simp only [opv, n1, n2, n3, n4, Value.cells]
                      first | refine s_go (s_pick_t) ?_ | refine s_go (s_pick_f) ?_
                      try simp only [opv, n1, n2, n3, n4, Value.cells]
                      refine x_nil ?_
                      refine hK26 _ _ ?_
                      refine x_cond (ht := fun hc10 => ?_) (hf := fun hc10 => ?_)
                      ·
                        try simp only [decide_eq_true_eq, decide_eq_false_iff_not, Bool.not_eq_true', Bool.not_eq_false', Int.not_lt, Int.not_le, ne_eq, Decidable.not_not, bne_iff_ne, beq_iff_eq, not_true_eq_false, not_false_eq_true] at hc10
                        first
                        | (exfalso; omega)
                        | skip
                          have hu := unv_form hU (by omega) (by omega) (by omega) (by omega)
                          refine x_seq fun K27 hK27 => ?_
                          refine x_region ?_
                          refine s_go (s_assign) ?_
                          try simp only [opv, n1, n2, n3, n4, Value.cells]
                          refine s_go (s_assign) ?_
                          try simp only [opv, n1, n2, n3, n4, Value.cells]
                          refine s_go (s_assign) ?_
                          try simp only [opv, n1, n2, n3, n4, Value.cells]
                          refine x_nil ?_
                          refine hK27 _ _ ?_
                          refine x_ret ?_
                          refine r_tmp3 rfl ?_
                          first | exact ⟨unvP_of hu rfl rfl rfl, hS.ext_of⟩ | exact ⟨unvP_of hu (by rw [Nat.mod_eq_of_lt (show bt l k < 128 by omega)]) (by omega) rfl, hS.ext_of⟩
                      ·
                        try simp only [decide_eq_true_eq, decide_eq_false_iff_not, Bool.not_eq_true', Bool.not_eq_false', Int.not_lt, Int.not_le, ne_eq, Decidable.not_not, bne_iff_ne, beq_iff_eq, not_true_eq_false, not_false_eq_true] at hc10
                        first
                        | (exfalso; omega)
                        | skip
                          have hu := unv_done hU (by omega) (by omega) (by omega) (by omega) (by omega)
                          refine x_skip ?_
                          refine hK25 _ _ ?_
                          refine x_seq fun K28 hK28 => ?_
                          refine x_region ?_
                          refine s_go (s_move) ?_
                          try simp only [opv, n1, n2, n3, n4, Value.cells]
                          refine s_go (s_move) ?_
                          try simp only [opv, n1, n2, n3, n4, Value.cells]
                          refine s_go (s_add (hc := by first | exact wr_i64 (by omega) (by omega) | rfl)) ?_
                          try simp only [opv, n1, n2, n3, n4, Value.cells]
                          refine s_go (s_assign) ?_
                          try simp only [opv, n1, n2, n3, n4, Value.cells]
                          refine s_go (s_assign) ?_
                          try simp only [opv, n1, n2, n3, n4, Value.cells]
                          refine s_go (s_assign) ?_
                          try simp only [opv, n1, n2, n3, n4, Value.cells]
                          refine x_nil ?_
                          refine hK28 _ _ ?_
                          refine x_ret ?_
                          refine r_tmp3 rfl ?_
                          first | exact ⟨unvP_of hu rfl rfl rfl, hS.ext_of⟩ | exact ⟨unvP_of hu (by rw [Nat.mod_eq_of_lt (show bt l k < 128 by omega)]) (by omega) rfl, hS.ext_of⟩
                  ·
                    try simp only [n3, n4]
                    try simp only [decide_eq_true_eq, decide_eq_false_iff_not, Bool.not_eq_true', Bool.not_eq_false', Int.not_lt, Int.not_le, ne_eq, Decidable.not_not] at hp4
                    first
                    | (exfalso; omega)
                    | skip
                      refine g_off (yi (t := 49) rfl rfl) ?_
                      try simp only [opv, n1, n2, n3, n4, Value.cells]
                      refine g_off (yi (t := 49) rfl rfl) ?_
                      try simp only [opv, n1, n2, n3, n4, Value.cells]
                      first | refine s_go (s_pick_t) ?_ | refine s_go (s_pick_f) ?_
                      try simp only [opv, n1, n2, n3, n4, Value.cells]
                      refine x_nil ?_
                      refine hK26 _ _ ?_
                      refine x_cond_f (h := ?_)
                      have hu := unv_done hU (by omega) (by omega) (by omega) (by omega) (by omega)
                      refine x_skip ?_
                      refine hK25 _ _ ?_
                      refine x_seq fun K29 hK29 => ?_
                      refine x_region ?_
                      refine s_go (s_move) ?_
                      try simp only [opv, n1, n2, n3, n4, Value.cells]
                      refine s_go (s_move) ?_
                      try simp only [opv, n1, n2, n3, n4, Value.cells]
                      refine s_go (s_add (hc := by first | exact wr_i64 (by omega) (by omega) | rfl)) ?_
                      try simp only [opv, n1, n2, n3, n4, Value.cells]
                      refine s_go (s_assign) ?_
                      try simp only [opv, n1, n2, n3, n4, Value.cells]
                      refine s_go (s_assign) ?_
                      try simp only [opv, n1, n2, n3, n4, Value.cells]
                      refine s_go (s_assign) ?_
                      try simp only [opv, n1, n2, n3, n4, Value.cells]
                      refine x_nil ?_
                      refine hK29 _ _ ?_
                      refine x_ret ?_
                      refine r_tmp3 rfl ?_
                      first | exact ⟨unvP_of hu rfl rfl rfl, hS.ext_of⟩ | exact ⟨unvP_of hu (by rw [Nat.mod_eq_of_lt (show bt l k < 128 by omega)]) (by omega) rfl, hS.ext_of⟩
              ·
                try simp only [decide_eq_true_eq, decide_eq_false_iff_not, Bool.not_eq_true', Bool.not_eq_false', Int.not_lt, Int.not_le, ne_eq, Decidable.not_not, bne_iff_ne, beq_iff_eq, not_true_eq_false, not_false_eq_true] at hc9
                first
                | (exfalso; omega)
                | skip
                  refine x_skip ?_
                  refine hK7 _ _ ?_
                  refine x_region ?_
                  refine s_go (s_move) ?_
                  try simp only [opv, n1, n2, n3, n4, Value.cells]
                  refine s_go (s_add (hc := by first | exact wr_i64 (by omega) (by omega) | rfl)) ?_
                  try simp only [opv, n1, n2, n3, n4, Value.cells]
                  refine s_go (s_assign) ?_
                  try simp only [opv, n1, n2, n3, n4, Value.cells]
                  refine x_nil ?_
                  refine loop_back (m' := 10 - (k + 1)) (by simp only [clob, List.foldl, n1, n2, n3, n4]) ?_ ?_
                  · try simp only [opv, n1, n2, n3, n4, Value.cells]
                    exact ⟨k + 1, x + 128 ^ k * (bt l k % 128), by omega, by omega, by rfl, by rfl, grp_lt hx (Nat.mod_lt _ (by decide)), by rw [show bt l k % 128 = bt l k - 128 by omega]; exact unv_on hU (by omega) (by omega) (by omega) (by omega) (by omega), hS⟩
                  · omega
  ·
    try simp only [decide_eq_true_eq, decide_eq_false_iff_not, Bool.not_eq_true', Bool.not_eq_false', Int.not_lt, Int.not_le, ne_eq, Decidable.not_not, bne_iff_ne, beq_iff_eq, not_true_eq_false, not_false_eq_true] at hc1
    first
    | (exfalso; omega)
    | skip
      obtain rfl : k = 10 := by omega
      have hu := unv_end hU
      refine x_exit (look_here ?_)
      refine hK3 _ _ ?_
      refine x_seq fun K30 hK30 => ?_
      refine x_region ?_
      refine s_go (s_assign) ?_
      try simp only [opv, n1, n2, n3, n4, Value.cells]
      refine s_go (s_assign) ?_
      try simp only [opv, n1, n2, n3, n4, Value.cells]
      refine s_go (s_assign) ?_
      try simp only [opv, n1, n2, n3, n4, Value.cells]
      refine x_nil ?_
      refine hK30 _ _ ?_
      refine x_ret ?_
      refine r_tmp3 rfl ?_
      first | exact ⟨unvP_of hu rfl rfl rfl, hS.ext_of⟩ | exact ⟨unvP_of hu (by rw [Nat.mod_eq_of_lt (show bt l k < 128 by omega)]) (by omega) rfl, hS.ext_of⟩
end Go.Proofs.Ytpjpaipkkcengaa
