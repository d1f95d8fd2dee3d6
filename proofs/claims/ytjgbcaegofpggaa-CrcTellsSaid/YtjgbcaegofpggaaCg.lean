/- Contracts of functions, printed by a program of this seat (wip/tools/gen.py) out of its specs. -/
import Derived.Test.YtjgbcaegofpggaaCf
import Derived.Test.YtjgbcaegofpggaaPburst
set_option linter.unusedSimpArgs false
set_option linter.unusedVariables false
set_option maxHeartbeats 2000000
set_option maxRecDepth 100000
namespace Go.Proofs.Ytjgbcaegofpggaa
open Go.RowKit


theorem seal2_byt (l : List Int) : Byt (seal2 l) := by
  have h := crcM_lt l (show 65535 < 65536 by omega)
  intro x hx
  simp only [seal2, List.mem_cons, List.not_mem_nil, or_false] at hx
  rcases hx with rfl | rfl <;> omega
theorem sealed_byt {l : List Int} (h : Byt l) : Byt (sealed l) := Byt.app h (seal2_byt l)
theorem sealed_zero (l : List Int) : crcM 65535 (sealed l) = 0 := by
  rw [sealed, crcM_app]; exact seal_zero (crcM_lt l (by omega))
theorem bt_int {l : List Int} (h : Byt l) {i : Nat} (hi : i < l.length) : l.drop i = (bt l i : Int) :: l.drop (i + 1) := by
  rw [List.drop_eq_getElem_cons hi, ← (h.bt i).1, List.getD_eq_getElem?_getD, List.getElem?_eq_getElem hi]; rfl
theorem crcM_end {d : List Int} (hb : Byt d) (h2 : ¬ d.length < 2) : crcM 65535 d = 0 ↔ crcM 65535 (d.take (d.length - 2)) = bt d (d.length - 2) * 256 + bt d (d.length - 1) := by
  have e : d.drop (d.length - 2) = [(bt d (d.length - 2) : Int), (bt d (d.length - 1) : Int)] := by
    rw [bt_int hb (by omega), show d.length - 2 + 1 = d.length - 1 by omega, bt_int hb (by omega), List.drop_eq_nil_of_le (by omega)]
  have h := two_zero (s := crcM 65535 (d.take (d.length - 2))) (crcM_lt _ (by omega)) (hb.bt (d.length - 2)).2 (hb.bt (d.length - 1)).2
  rw [← e, ← crcM_app, List.take_append_drop] at h
  exact h
theorem open_sealed {l : List Int} (h : Byt l) : openE (sealed l) = 0 ∧ openD (sealed l) = l := by
  have hl := sealed_len l
  have hE : openE (sealed l) = 0 := openE_ok (by omega) ((crcM_end (sealed_byt h) (by omega)).1 (sealed_zero l))
  refine ⟨hE, ?_⟩
  rw [openD_ok hE, hl, Nat.add_sub_cancel, sealed]
  exact List.take_left
theorem open_burst {d : List Int} (h : Byt d) (h2 : ¬ d.length < 2) (hz : crcM 65535 d ≠ 0) : openE d = 5 ∧ openD d = [] := by
  have hE : openE d = 5 := openE_bad h2 (fun e => hz ((crcM_end h h2).2 e))
  exact ⟨hE, openD_none (by rw [hE]; decide)⟩



theorem pow7 {b : Nat} (h : b < 8) : 128 / 2 ^ b = 2 ^ (7 - b) := by
  have : b = 0 ∨ b = 1 ∨ b = 2 ∨ b = 3 ∨ b = 4 ∨ b = 5 ∨ b = 6 ∨ b = 7 := by omega
  rcases this with rfl | rfl | rfl | rfl | rfl | rfl | rfl | rfl <;> rfl
theorem pow7_lt {b : Nat} : 2 ^ (7 - b) < 256 := by
  have : 2 ^ (7 - b) ≤ 2 ^ 7 := Nat.pow_le_pow_right (by omega) (by omega)
  omega
theorem burst_on {dl : List Int} {n q i turn : Nat} (hl : dl.length = n + 2) (hb : Byt dl) (hq : q ≤ 8 * n) (hi : i < 16) (hc : crcM 65535 dl = cstN (8 * (n + 2) - q) (wk turn i)) (ht : turn / 2 ^ i % 2 = 1) :
    crcM 65535 (dl.set ((q + i) / 8) (((bt dl ((q + i) / 8) ^^^ 2 ^ (7 - (q + i) % 8) : Nat) : Int))) = cstN (8 * (n + 2) - q) (wk turn (i + 1)) := by
  have h1 := crcM_turn dl ((q + i) / 8) ((q + i) % 8) 65535 (by omega) (by omega) (by omega) hb
  have e1 : 8 * (dl.length - (q + i) / 8) - (q + i) % 8 = 8 * (n + 2) - q - i := by omega
  rw [e1, hc] at h1
  have h2 : cstN (8 * (n + 2) - q) (2 ^ (15 - i)) = cstN (8 * (n + 2) - q - i) 32768 := by
    conv => lhs; rw [show 8 * (n + 2) - q = i + (8 * (n + 2) - q - i) by omega]
    rw [cstN_add, cstN_pow i (by omega)]
  have hp : 2 ^ (15 - i) < 65536 := Nat.lt_of_le_of_lt (Nat.pow_le_pow_right (by omega) (show 15 - i ≤ 15 by omega)) (by omega)
  simp only [wk, if_pos ht]
  rw [cstN_xor (wk_lt _ _) hp, h2]
  exact h1
theorem burst_off {i turn : Nat} (ht : ¬ turn / 2 ^ i % 2 = 1) : wk turn (i + 1) = wk turn i := by simp only [wk, if_neg ht, Nat.xor_zero]
theorem byt_set {l : List Int} (h : Byt l) {j v : Nat} (hv : v < 256) : Byt (l.set j (v : Int)) := fun x hx => by
  rcases List.mem_or_eq_of_mem_set hx with hx | rfl
  · exact h x hx
  · omega


theorem c_CrcTells (w0 : World) (A : Option Addr) (n c : Nat) (l : List Int) (hr : Rd w0 A 1 n (l.map (Value.int .u8))) (hl : l.length = n) (hw : Byt l) (hn : n ≤ 140737488355000) (hc : n ≤ c) (z : Int) (hz0 : -9223372036854775808 ≤ z) (hz1 : z ≤ 9223372036854775807) (turn : Nat) (ht : turn < 65536) :
    CallR Try.prog 7 #[.slice A n c, .int .i64 z, .int .u16 (turn : Int)] w0 fun v w' => v = .bool true ∧ Ext w0 w' := by
  have hS := St.rd1 (S := NoB) hr
  refine c_enter (l := [.slice A n c, .int .i64 z, .int .u16 (turn : Int), undef, undef, undef, undef, undef, undef, undef, undef, undef, undef, undef, undef, undef, undef, undef, undef, undef, undef, undef, undef, undef, undef, undef, undef, undef, undef, undef, undef, undef, undef, undef, undef, undef, undef, undef, undef, undef, undef, undef, undef, undef, undef, undef, undef, undef, undef, undef, undef, undef, undef, undef, undef, undef, undef, undef, undef, undef, undef, undef, undef, undef, undef, undef, undef, undef, undef, undef, undef, undef, undef, undef, undef, undef, undef, undef, undef, undef, undef, undef, undef, undef, undef, undef, undef, undef, undef, undef, undef, undef, undef, undef, undef, undef, undef, undef, undef, undef, undef]) Try.func7 rfl (by simp only [Try.ntmps7, List.size_toArray, List.length_cons, List.length_nil, Nat.reduceAdd, Nat.reduceSub, Array.replicate_succ, Array.replicate_zero, List.push_toArray, List.append_toArray, List.nil_append, List.cons_append]) ?_
  refine x_seq fun K1 hK1 => ?_
  refine x_region ?_
  refine s_go (s_assign) ?_
  try simp only [opv, n1, n2, n3, n4, Value.cells]
  refine x_nil ?_
  refine hK1 _ _ ?_
  refine x_seq fun K2 hK2 => ?_
  refine x_seq fun K3 hK3 => ?_
  refine x_region ?_
  refine s_go (s_move) ?_
  try simp only [opv, n1, n2, n3, n4, Value.cells]
  refine s_go (s_len_sl Try.underlying42) ?_
  try simp only [opv, n1, n2, n3, n4, Value.cells]
  refine s_go (s_gtr) ?_
  try simp only [opv, n1, n2, n3, n4, Value.cells]
  refine x_nil ?_
  refine hK3 _ _ ?_
  refine x_cond (ht := fun hc1 => ?_) (hf := fun hc1 => ?_)
  ·
    try simp only [decide_eq_true_eq, decide_eq_false_iff_not, Bool.not_eq_true', Bool.not_eq_false', Int.not_lt, Int.not_le, ne_eq, Decidable.not_not] at hc1
    refine x_seq fun K4 hK4 => ?_
    refine x_region ?_
    refine s_call en43 ?_
    try simp only [opv, n1, n2, n3, n4, Value.cells, List.map_toArray, List.map_cons, List.map_nil, List.append_toArray, List.cons_append, List.nil_append, Array.append_empty]
    refine CallR.mono (c_law05alive _) ?_
    rintro _ w1 ⟨rfl, hE1⟩
    replace hS := hS.ext hE1
    try simp only [opv, n1, n2, n3, n4, Value.cells]
    refine s_go (s_assign) ?_
    try simp only [opv, n1, n2, n3, n4, Value.cells]
    refine x_nil ?_
    refine hK4 _ _ ?_
    refine x_ret ?_
    refine r_tmp rfl ?_
    exact ⟨rfl, hS.ext_of⟩
  ·
    try simp only [decide_eq_true_eq, decide_eq_false_iff_not, Bool.not_eq_true', Bool.not_eq_false', Int.not_lt, Int.not_le, ne_eq, Decidable.not_not] at hc1
    refine x_skip ?_
    refine hK2 _ _ ?_
    refine x_seq fun K5 hK5 => ?_
    refine x_region ?_
    refine s_go (s_move) ?_
    try simp only [opv, n1, n2, n3, n4, Value.cells]
    refine s_call en50 ?_
    try simp only [opv, n1, n2, n3, n4, Value.cells, List.map_toArray, List.map_cons, List.map_nil, List.append_toArray, List.cons_append, List.nil_append, Array.append_empty]
    refine CallR.mono (c_crcSeal _ A n c l (hS.hasRd (by repeat (first | exact Has.head | apply Has.tail))) hl hw hn hc) ?_
    rintro _ w2 ⟨AS, CS, rfl, hC2⟩
    replace hS := hS.call hC2
    simp only [List.cons_append, List.nil_append] at hS
    have hsc := hS.vec_cap (by exact Has.head)
    replace hS := hS.vec_rd (by exact Upd.head)
    have hsl := sealed_len l
    have hsb := sealed_byt hw
    obtain ⟨hoE, hoD⟩ := open_sealed hw
    try simp only [opv, n1, n2, n3, n4, Value.cells]
    refine s_go (s_assign) ?_
    try simp only [opv, n1, n2, n3, n4, Value.cells]
    refine x_nil ?_
    refine hK5 _ _ ?_
    refine x_seq fun K6 hK6 => ?_
    refine x_region ?_
    refine s_go (s_move) ?_
    try simp only [opv, n1, n2, n3, n4, Value.cells]
    refine s_call en47 ?_
    try simp only [opv, n1, n2, n3, n4, Value.cells, List.map_toArray, List.map_cons, List.map_nil, List.append_toArray, List.cons_append, List.nil_append, Array.append_empty]
    refine CallR.mono (c_crcOpen _ AS (n + 2) CS (sealed l) (hS.hasRd (by repeat (first | exact Has.head | apply Has.tail))) (by omega) hsb (by omega) hsc) ?_
    rintro _ w3 ⟨AO, mo, CO, rfl, hmo, hC3⟩
    replace hS := hS.call hC3
    simp only [List.cons_append, List.nil_append] at hS
    rw [hoD] at hS hmo
    rw [hoE]
    try simp only [opv, n1, n2, n3, n4, Value.cells]
    refine s_go (s_move) ?_
    try simp only [opv, n1, n2, n3, n4, Value.cells]
    refine s_go (s_extract (hv := rfl)) ?_
    try simp only [List.getElem_toArray, List.getElem_cons_zero, List.getElem_cons_succ]
    try simp only [opv, n1, n2, n3, n4, Value.cells]
    refine s_go (s_extract (hv := rfl)) ?_
    try simp only [List.getElem_toArray, List.getElem_cons_zero, List.getElem_cons_succ]
    try simp only [opv, n1, n2, n3, n4, Value.cells]
    refine s_go (s_assign) ?_
    try simp only [opv, n1, n2, n3, n4, Value.cells]
    refine s_go (s_assign) ?_
    try simp only [opv, n1, n2, n3, n4, Value.cells]
    refine x_nil ?_
    refine hK6 _ _ ?_
    refine x_seq fun K7 hK7 => ?_
    refine x_seq fun K8 hK8 => ?_
    refine x_region ?_
    refine s_go (s_move) ?_
    try simp only [opv, n1, n2, n3, n4, Value.cells]
    refine s_go (s_move) ?_
    try simp only [opv, n1, n2, n3, n4, Value.cells]
    refine s_call en49 ?_
    try simp only [opv, n1, n2, n3, n4, Value.cells, List.map_toArray, List.map_cons, List.map_nil, List.append_toArray, List.cons_append, List.nil_append, Array.append_empty]
    refine CallR.mono (c_ref03Same _ _ _ _ _ _ _ _ _ (hS.vecRd (by repeat (first | exact Has.head | apply Has.tail))) (hS.hasRd (by repeat (first | exact Has.head | apply Has.tail))) (by omega) (by omega) (by omega)) ?_
    rintro _ w4 ⟨rfl, hE4⟩
    replace hS := hS.ext hE4
    try simp only [opv, n1, n2, n3, n4, Value.cells]
    try simp only [eq_self, decide_true, beq_self_eq_true, Bool.and_self]
    refine s_go (s_not) ?_
    try simp only [opv, n1, n2, n3, n4, Value.cells]
    refine s_go (s_move) ?_
    try simp only [opv, n1, n2, n3, n4, Value.cells]
    refine g_on (yi (t := 29) rfl rfl) ?_
    refine s_go (s_move) ?_
    try simp only [opv, n1, n2, n3, n4, Value.cells]
    refine g_on (yi (t := 29) rfl rfl) ?_
    refine s_go (s_neq) ?_
    try simp only [opv, n1, n2, n3, n4, Value.cells]
    try simp only [ne_eq, not_true_eq_false, decide_false, eq_self, decide_true]
    first | refine s_go (s_pick_t) ?_ | refine s_go (s_pick_f) ?_
    try simp only [opv, n1, n2, n3, n4, Value.cells]
    refine s_go (s_move) ?_
    try simp only [opv, n1, n2, n3, n4, Value.cells]
    refine g_on (yi (t := 33) rfl rfl) ?_
    refine s_go (s_move) ?_
    try simp only [opv, n1, n2, n3, n4, Value.cells]
    refine g_on (yi (t := 33) rfl rfl) ?_
    refine s_go (s_len_sl Try.underlying42) ?_
    try simp only [opv, n1, n2, n3, n4, Value.cells]
    refine g_on (yi (t := 33) rfl rfl) ?_
    refine s_go (s_move) ?_
    try simp only [opv, n1, n2, n3, n4, Value.cells]
    refine g_on (yi (t := 33) rfl rfl) ?_
    refine s_go (s_len_sl Try.underlying42) ?_
    try simp only [opv, n1, n2, n3, n4, Value.cells]
    refine g_on (yi (t := 33) rfl rfl) ?_
    refine s_go (s_add (hc := by first | exact wr_i64 (by omega) (by omega) | rfl)) ?_
    try simp only [opv, n1, n2, n3, n4, Value.cells]
    rw [show (n : Int) + 2 = ((n + 2 : Nat) : Int) by omega]
    refine g_on (yi (t := 33) rfl rfl) ?_
    refine s_go (s_neq) ?_
    try simp only [opv, n1, n2, n3, n4, Value.cells]
    try simp only [ne_eq, not_true_eq_false, decide_false, eq_self, decide_true]
    first | refine s_go (s_pick_t) ?_ | refine s_go (s_pick_f) ?_
    try simp only [opv, n1, n2, n3, n4, Value.cells]
    refine x_nil ?_
    refine hK8 _ _ ?_
    refine x_cond_f (h := ?_)
    refine x_skip ?_
    refine hK7 _ _ ?_
    refine x_seq fun K9 hK9 => ?_
    refine x_seq fun K10 hK10 => ?_
    refine x_region ?_
    refine s_go (s_move) ?_
    try simp only [opv, n1, n2, n3, n4, Value.cells]
    refine s_go (s_lss) ?_
    try simp only [opv, n1, n2, n3, n4, Value.cells]
    refine s_go (s_move) ?_
    try simp only [opv, n1, n2, n3, n4, Value.cells]
    refine s_part 43 rfl (fun hp1 => ?_) (fun hp1 => ?_)
    ·
      try simp only [n3, n4]
      try simp only [decide_eq_true_eq, decide_eq_false_iff_not, Bool.not_eq_true', Bool.not_eq_false', Int.not_lt, Int.not_le, ne_eq, Decidable.not_not] at hp1
      refine g_off (yi (t := 43) rfl rfl) ?_
      try simp only [opv, n1, n2, n3, n4, Value.cells]
      refine g_off (yi (t := 43) rfl rfl) ?_
      try simp only [opv, n1, n2, n3, n4, Value.cells]
      refine g_off (yi (t := 43) rfl rfl) ?_
      try simp only [opv, n1, n2, n3, n4, Value.cells]
      refine g_off (yi (t := 43) rfl rfl) ?_
      try simp only [opv, n1, n2, n3, n4, Value.cells]
      refine g_off (yi (t := 43) rfl rfl) ?_
      try simp only [opv, n1, n2, n3, n4, Value.cells]
      first | refine s_go (s_pick_t) ?_ | refine s_go (s_pick_f) ?_
      try simp only [opv, n1, n2, n3, n4, Value.cells]
      refine s_go (s_move) ?_
      try simp only [opv, n1, n2, n3, n4, Value.cells]
      refine g_off (yi (t := 50) rfl rfl) ?_
      try simp only [opv, n1, n2, n3, n4, Value.cells]
      refine g_off (yi (t := 50) rfl rfl) ?_
      try simp only [opv, n1, n2, n3, n4, Value.cells]
      first | refine s_go (s_pick_t) ?_ | refine s_go (s_pick_f) ?_
      try simp only [opv, n1, n2, n3, n4, Value.cells]
      refine x_nil ?_
      refine hK10 _ _ ?_
      refine x_cond_t (h := ?_)
      refine x_seq fun K11 hK11 => ?_
      refine x_region ?_
      refine s_call en43 ?_
      try simp only [opv, n1, n2, n3, n4, Value.cells, List.map_toArray, List.map_cons, List.map_nil, List.append_toArray, List.cons_append, List.nil_append, Array.append_empty]
      refine CallR.mono (c_law05alive _) ?_
      rintro _ w5 ⟨rfl, hE5⟩
      replace hS := hS.ext hE5
      try simp only [opv, n1, n2, n3, n4, Value.cells]
      refine s_go (s_assign) ?_
      try simp only [opv, n1, n2, n3, n4, Value.cells]
      refine x_nil ?_
      refine hK11 _ _ ?_
      refine x_ret ?_
      refine r_tmp rfl ?_
      exact ⟨rfl, hS.ext_of⟩
    ·
      try simp only [n3, n4]
      try simp only [decide_eq_true_eq, decide_eq_false_iff_not, Bool.not_eq_true', Bool.not_eq_false', Int.not_lt, Int.not_le, ne_eq, Decidable.not_not] at hp1
      refine g_on (yi (t := 43) rfl rfl) ?_
      refine s_go (s_move) ?_
      try simp only [opv, n1, n2, n3, n4, Value.cells]
      refine g_on (yi (t := 43) rfl rfl) ?_
      refine s_go (s_move) ?_
      try simp only [opv, n1, n2, n3, n4, Value.cells]
      refine g_on (yi (t := 43) rfl rfl) ?_
      refine s_go (s_len_sl Try.underlying42) ?_
      try simp only [opv, n1, n2, n3, n4, Value.cells]
      refine g_on (yi (t := 43) rfl rfl) ?_
      refine s_go (s_mul (hc := by first | exact wr_i64 (by omega) (by omega) | rfl)) ?_
      try simp only [opv, n1, n2, n3, n4, Value.cells]
      refine g_on (yi (t := 43) rfl rfl) ?_
      refine s_go (s_gtr) ?_
      try simp only [opv, n1, n2, n3, n4, Value.cells]
      first | refine s_go (s_pick_t) ?_ | refine s_go (s_pick_f) ?_
      try simp only [opv, n1, n2, n3, n4, Value.cells]
      refine s_go (s_move) ?_
      try simp only [opv, n1, n2, n3, n4, Value.cells]
      refine s_part 50 rfl (fun hp2 => ?_) (fun hp2 => ?_)
      ·
        try simp only [n3, n4]
        try simp only [decide_eq_true_eq, decide_eq_false_iff_not, Bool.not_eq_true', Bool.not_eq_false', Int.not_lt, Int.not_le, ne_eq, Decidable.not_not] at hp2
        refine g_off (yi (t := 50) rfl rfl) ?_
        try simp only [opv, n1, n2, n3, n4, Value.cells]
        refine g_off (yi (t := 50) rfl rfl) ?_
        try simp only [opv, n1, n2, n3, n4, Value.cells]
        first | refine s_go (s_pick_t) ?_ | refine s_go (s_pick_f) ?_
        try simp only [opv, n1, n2, n3, n4, Value.cells]
        refine x_nil ?_
        refine hK10 _ _ ?_
        refine x_cond_t (h := ?_)
        refine x_seq fun K12 hK12 => ?_
        refine x_region ?_
        refine s_call en43 ?_
        try simp only [opv, n1, n2, n3, n4, Value.cells, List.map_toArray, List.map_cons, List.map_nil, List.append_toArray, List.cons_append, List.nil_append, Array.append_empty]
        refine CallR.mono (c_law05alive _) ?_
        rintro _ w6 ⟨rfl, hE6⟩
        replace hS := hS.ext hE6
        try simp only [opv, n1, n2, n3, n4, Value.cells]
        refine s_go (s_assign) ?_
        try simp only [opv, n1, n2, n3, n4, Value.cells]
        refine x_nil ?_
        refine hK12 _ _ ?_
        refine x_ret ?_
        refine r_tmp rfl ?_
        exact ⟨rfl, hS.ext_of⟩
      ·
        try simp only [n3, n4]
        try simp only [decide_eq_true_eq, decide_eq_false_iff_not, Bool.not_eq_true', Bool.not_eq_false', Int.not_lt, Int.not_le, ne_eq, Decidable.not_not] at hp2
        refine g_on (yi (t := 50) rfl rfl) ?_
        refine s_go (s_move) ?_
        try simp only [opv, n1, n2, n3, n4, Value.cells]
        refine g_on (yi (t := 50) rfl rfl) ?_
        refine s_go (s_eql) ?_
        try simp only [opv, n1, n2, n3, n4, Value.cells]
        first | refine s_go (s_pick_t) ?_ | refine s_go (s_pick_f) ?_
        try simp only [opv, n1, n2, n3, n4, Value.cells]
        refine x_nil ?_
        refine hK10 _ _ ?_
        refine x_cond (ht := fun hc5 => ?_) (hf := fun hc5 => ?_)
        ·
          try simp only [decide_eq_true_eq, decide_eq_false_iff_not, Bool.not_eq_true', Bool.not_eq_false', Int.not_lt, Int.not_le, ne_eq, Decidable.not_not] at hc5
          refine x_seq fun K13 hK13 => ?_
          refine x_region ?_
          refine s_call en43 ?_
          try simp only [opv, n1, n2, n3, n4, Value.cells, List.map_toArray, List.map_cons, List.map_nil, List.append_toArray, List.cons_append, List.nil_append, Array.append_empty]
          refine CallR.mono (c_law05alive _) ?_
          rintro _ w7 ⟨rfl, hE7⟩
          replace hS := hS.ext hE7
          try simp only [opv, n1, n2, n3, n4, Value.cells]
          refine s_go (s_assign) ?_
          try simp only [opv, n1, n2, n3, n4, Value.cells]
          refine x_nil ?_
          refine hK13 _ _ ?_
          refine x_ret ?_
          refine r_tmp rfl ?_
          exact ⟨rfl, hS.ext_of⟩
        ·
          try simp only [decide_eq_true_eq, decide_eq_false_iff_not, Bool.not_eq_true', Bool.not_eq_false', Int.not_lt, Int.not_le, ne_eq, Decidable.not_not] at hc5
          refine x_skip ?_
          refine hK9 _ _ ?_
          refine x_seq fun K14 hK14 => ?_
          refine x_region ?_
          refine m_buildRow (cells := #[]) Try.underlying42 ti5 (hc := by simp only [List.map_toArray, List.map_cons, List.map_nil, opv, n1, n2, n3, n4, Value.cells, List.toList_toArray]; (repeat (refine fill_cons rfl rfl (Nat.le_of_ble_eq_true rfl) ?_)); rfl) (hS := hS) (h := fun w8 g8 hS => ?_)
          try simp only [opv, n1, n2, n3, n4, Value.cells, Array.toArray_toList] at hS ⊢
          replace hS := hS.obj_vec (sz := 1) (n := 0) rfl (by decide) .head
          refine s_go (s_move) ?_
          try simp only [opv, n1, n2, n3, n4, Value.cells]
          refine m_append Try.underlying42 ti5 (hS := hS) (h := fun w9 A9 C9 hS => ?_)
          try simp only [← List.map_append, ← List.map_drop, ← List.map_take, Nat.mul_one, Nat.zero_mul, Nat.sub_zero, List.drop_zero, List.nil_append, Nat.zero_add] at hS ⊢
          try simp only [opv, n1, n2, n3, n4, Value.cells, Array.toArray_toList] at hS ⊢
          refine s_go (s_assign) ?_
          try simp only [opv, n1, n2, n3, n4, Value.cells]
          refine x_nil ?_
          refine hK14 _ _ ?_
          refine x_seq fun K15 hK15 => ?_
          refine x_seq fun K16 hK16 => ?_
          refine x_region ?_
          refine s_go (s_assign) ?_
          try simp only [opv, n1, n2, n3, n4, Value.cells]
          refine x_nil ?_
          refine hK16 _ _ ?_
          refine x_block ?_
          obtain ⟨q, rfl⟩ := Int.eq_ofNat_of_zero_le hp1
          refine x_loop [11, 58, 59, 60, 61, 62, 63, 64, 65, 66, 67, 68, 69, 70, 71, 72, 73, 74, 75, 76, 77, 78, 79, 80, 81, 82, 83, 84, 85] (fun m f w => ∃ (i : Nat) (dl : List Int), i ≤ 16 ∧ m = 16 - i ∧ f 11 = .int .i64 (i : Int) ∧ dl.length = n + 2 ∧ Byt dl ∧ crcM 65535 dl = cstN (8 * (n + 2) - q) (wk turn i) ∧ St NoB w0 w [.vec A9 C9 5 1 (n + 2) (dl.map (Value.int .u8))]) (16) ?init1 (fun m1 f1 wl1 hI => ?_)
          case init1 =>
            try simp only [opv, n1, n2, n3, n4, Value.cells]
            exact ⟨0, sealed l, by omega, rfl, rfl, by omega, hsb, by rw [sealed_zero, wk, cstN_zero], hS.sel (by repeat (first | exact Sel.nil | (refine Sel.cons (by repeat (first | exact Del.head | apply Del.tail)) ?_)))⟩
          obtain ⟨i, dl, hi, hm, h11, hdl, hdb, hdc, hS⟩ := hI
          simp only [clob, List.foldl, n3, n4, h11]
          have hbd := hdb.bt ((q + i) / 8)
          refine x_seq fun K17 hK17 => ?_
          refine x_seq fun K18 hK18 => ?_
          refine x_region ?_
          refine s_go (s_move) ?_
          try simp only [opv, n1, n2, n3, n4, Value.cells]
          refine s_go (s_lss) ?_
          try simp only [opv, n1, n2, n3, n4, Value.cells]
          refine x_nil ?_
          refine hK18 _ _ ?_
          refine x_cond (ht := fun hc6 => ?_) (hf := fun hc6 => ?_)
          ·
            try simp only [decide_eq_true_eq, decide_eq_false_iff_not, Bool.not_eq_true', Bool.not_eq_false', Int.not_lt, Int.not_le, ne_eq, Decidable.not_not] at hc6
            refine x_skip ?_
            refine hK17 _ _ ?_
            refine x_seq fun K19 hK19 => ?_
            refine x_block ?_
            refine x_seq fun K20 hK20 => ?_
            refine x_region ?_
            refine s_go (s_move) ?_
            try simp only [opv, n1, n2, n3, n4, Value.cells]
            refine s_go (s_move) ?_
            try simp only [opv, n1, n2, n3, n4, Value.cells]
            refine s_go (s_shr (hc := shr_u .u16 (r := turn) (p := 2 ^ i) (s := turn / 2 ^ i) rfl (by simp [IntKind.bits]; omega) rfl)) ?_
            try simp only [opv, n1, n2, n3, n4, Value.cells]
            refine s_go (s_rem (hc := rem_nat (r := turn / 2 ^ i) (p := 2))) ?_
            try simp only [opv, n1, n2, n3, n4, Value.cells]
            refine s_go (s_eql) ?_
            try simp only [opv, n1, n2, n3, n4, Value.cells]
            refine x_nil ?_
            refine hK20 _ _ ?_
            refine x_cond (ht := fun hc7 => ?_) (hf := fun hc7 => ?_)
            ·
              try simp only [decide_eq_true_eq, decide_eq_false_iff_not, Bool.not_eq_true', Bool.not_eq_false', Int.not_lt, Int.not_le, ne_eq, Decidable.not_not] at hc7
              refine x_mixed_f [19] 19 [67, 68, 69, 70, 71, 72, 73, 74, 75, 76, 77, 78, 79, 80, 81, 82, 83, 84, 85] (fun f w => St NoB w0 w [.vec A9 C9 5 1 (n + 2) ((dl.set ((q + i) / 8) ((bt dl ((q + i) / 8) ^^^ 2 ^ (7 - (q + i) % 8) : Nat) : Int)).map (Value.int .u8))]) (by kernel_rfl) (by kernel_rfl) (by kernel_rfl) (by decide) hS (fun w10 hS => ?mixpre14) ?mixrest14
              case mixpre14 =>
                simp only [List.take_succ_cons, List.take_zero, List.length_cons, List.length_nil, Nat.reduceAdd, Nat.reduceSub]
                refine p_go (fun w hS => s_move) ?_
                try simp only [opv, n1, n2, n3, n4, Value.cells]
                refine p_go (fun w hS => s_move) ?_
                try simp only [opv, n1, n2, n3, n4, Value.cells]
                refine p_go (fun w hS => s_move) ?_
                try simp only [opv, n1, n2, n3, n4, Value.cells]
                refine p_go (fun w hS => s_add (hc := by first | exact wr_i64 (by omega) (by omega) | rfl)) ?_
                try simp only [opv, n1, n2, n3, n4, Value.cells]
                rw [show (q : Int) + (i : Int) = ((q + i : Nat) : Int) by omega]
                refine p_go (fun w hS => s_quo (hc := quo_i64 (r := q + i) (p := 8) (by omega))) ?_
                try simp only [opv, n1, n2, n3, n4, Value.cells]
                refine p_go (fun w hS => s_move) ?_
                try simp only [opv, n1, n2, n3, n4, Value.cells]
                refine p_go (fun w hS => s_move) ?_
                try simp only [opv, n1, n2, n3, n4, Value.cells]
                refine p_go (fun w hS => s_move) ?_
                try simp only [opv, n1, n2, n3, n4, Value.cells]
                refine p_go (fun w hS => s_add (hc := by first | exact wr_i64 (by omega) (by omega) | rfl)) ?_
                try simp only [opv, n1, n2, n3, n4, Value.cells]
                rw [show (q : Int) + (i : Int) = ((q + i : Nat) : Int) by omega]
                refine p_go (fun w hS => s_quo (hc := quo_i64 (r := q + i) (p := 8) (by omega))) ?_
                try simp only [opv, n1, n2, n3, n4, Value.cells]
                first | refine p_go (fun w hS => m_indexAddr_rd Try.underlying42 ti5 (hS := hS)) ?_ | refine p_go (fun w hS => m_indexAddr_vec Try.underlying42 ti5 (hS := hS)) ?_
                try simp only [opv, n1, n2, n3, n4, Value.cells, Nat.mul_one, Nat.zero_add, Int.toNat_natCast]
                first | refine p_go (fun w hS => m_load_obj Try.underlying5 (hS := hS)) ?_ | refine p_go (fun w hS => m_load_rd Try.underlying5 (hS := hS)) ?_ | refine p_go (fun w hS => m_load_vec Try.underlying5 (hS := hS)) ?_
                try simp only [opv, n1, n2, n3, n4, Value.cells]
                rw [hbd.1]
                refine p_go (fun w hS => s_move) ?_
                try simp only [opv, n1, n2, n3, n4, Value.cells]
                refine p_go (fun w hS => s_move) ?_
                try simp only [opv, n1, n2, n3, n4, Value.cells]
                refine p_go (fun w hS => s_add (hc := by first | exact wr_i64 (by omega) (by omega) | rfl)) ?_
                try simp only [opv, n1, n2, n3, n4, Value.cells]
                rw [show (q : Int) + (i : Int) = ((q + i : Nat) : Int) by omega]
                refine p_go (fun w hS => s_rem (hc := rem_nat (r := q + i) (p := 8))) ?_
                try simp only [opv, n1, n2, n3, n4, Value.cells]
                refine p_go (fun w hS => s_shr (hc := shr_u .u8 (r := 128) (p := 2 ^ ((q + i) % 8)) (s := 2 ^ (7 - (q + i) % 8)) (pow7 (by omega)) (by simp [IntKind.bits]; omega) rfl)) ?_
                try simp only [opv, n1, n2, n3, n4, Value.cells]
                refine p_go (fun w hS => s_bits (by simp) (hc := xor_u8 (a := bt dl ((q + i) / 8)) (b := 2 ^ (7 - (q + i) % 8)) hbd.2 pow7_lt)) ?_
                try simp only [opv, n1, n2, n3, n4, Value.cells]
                first | refine p_go (fun w hS => m_indexAddr_rd Try.underlying42 ti5 (hS := hS)) ?_ | refine p_go (fun w hS => m_indexAddr_vec Try.underlying42 ti5 (hS := hS)) ?_
                try simp only [opv, n1, n2, n3, n4, Value.cells, Nat.mul_one, Nat.zero_add, Int.toNat_natCast]
                refine p_nil ?_
                refine any_step [19] (by kernel_rfl) (by decide) (fun w11 hE => ⟨fun _ => (hS.ext hE).sel (by repeat (first | exact Sel.nil | (refine Sel.cons (by repeat (first | exact Del.head | apply Del.tail)) ?_))), ?_⟩)
                replace hS := hS.ext hE
                intro i hi
                simp only [List.mem_cons, List.not_mem_nil, or_false] at hi
                subst hi
                ·
                  refine any_op (by rfl) ?_
                  first | refine m_store_obj ti5 (hS := hS) (h := fun w12 hS => ?_) | refine m_store_vec ti5 (hS := hS) (h := fun w12 hS => ?_)
                  try simp only [opv, n1, n2, n3, n4, Value.cells, Array.toArray_toList] at hS ⊢
                  refine x_nil ?_
                  refine any_nil (by kernel_rfl) (fun w13 hE => ?_)
                  replace hS := hS.ext hE
                  refine ⟨fun hl => absurd (hl 19 (by decide)) (by decide +kernel), ?_⟩
                  refine mix_leaf (by simp only [clob, List.foldl, n1, n2, n3, n4]) ?_
                  try simp only [n1, n2]
                  exact hS
              intro fm1 w14 hM
              replace hS := hM
              simp only [clob, List.foldl, n3, n4]
              refine hK19 _ _ ?_
              refine x_region ?_
              refine s_go (s_move) ?_
              try simp only [opv, n1, n2, n3, n4, Value.cells]
              refine s_go (s_add (hc := by first | exact wr_i64 (by omega) (by omega) | rfl)) ?_
              try simp only [opv, n1, n2, n3, n4, Value.cells]
              refine s_go (s_assign) ?_
              try simp only [opv, n1, n2, n3, n4, Value.cells]
              refine x_nil ?_
              refine loop_back (m' := 16 - (i + 1)) (by simp only [clob, List.foldl, n1, n2, n3, n4]) ?_ ?_
              · try simp only [opv, n1, n2, n3, n4, Value.cells]
                first | (refine ⟨i + 1, dl.set ((q + i) / 8) ((bt dl ((q + i) / 8) ^^^ 2 ^ (7 - (q + i) % 8) : Nat) : Int), by omega, by omega, by rfl, by simp [hdl], byt_set hdb (Nat.xor_lt_two_pow (n := 8) hbd.2 pow7_lt), burst_on hdl hdb (by omega) (by omega) hdc (by exact_mod_cast hc7), hS⟩) | exact ⟨i + 1, dl, by omega, by omega, by rfl, hdl, hdb, by rw [burst_off (by exact_mod_cast hc7)]; exact hdc, hS⟩
              · omega
            ·
              try simp only [decide_eq_true_eq, decide_eq_false_iff_not, Bool.not_eq_true', Bool.not_eq_false', Int.not_lt, Int.not_le, ne_eq, Decidable.not_not] at hc7
              refine x_skip ?_
              refine hK19 _ _ ?_
              refine x_region ?_
              refine s_go (s_move) ?_
              try simp only [opv, n1, n2, n3, n4, Value.cells]
              refine s_go (s_add (hc := by first | exact wr_i64 (by omega) (by omega) | rfl)) ?_
              try simp only [opv, n1, n2, n3, n4, Value.cells]
              refine s_go (s_assign) ?_
              try simp only [opv, n1, n2, n3, n4, Value.cells]
              refine x_nil ?_
              refine loop_back (m' := 16 - (i + 1)) (by simp only [clob, List.foldl, n1, n2, n3, n4]) ?_ ?_
              · try simp only [opv, n1, n2, n3, n4, Value.cells]
                first | (refine ⟨i + 1, dl.set ((q + i) / 8) ((bt dl ((q + i) / 8) ^^^ 2 ^ (7 - (q + i) % 8) : Nat) : Int), by omega, by omega, by rfl, by simp [hdl], byt_set hdb (Nat.xor_lt_two_pow (n := 8) hbd.2 pow7_lt), burst_on hdl hdb (by omega) (by omega) hdc (by exact_mod_cast hc7), hS⟩) | exact ⟨i + 1, dl, by omega, by omega, by rfl, hdl, hdb, by rw [burst_off (by exact_mod_cast hc7)]; exact hdc, hS⟩
              · omega
          ·
            try simp only [decide_eq_true_eq, decide_eq_false_iff_not, Bool.not_eq_true', Bool.not_eq_false', Int.not_lt, Int.not_le, ne_eq, Decidable.not_not] at hc6
            obtain rfl : i = 16 := by omega
            have hne := wk_ne ht (by omega)
            have hz : crcM 65535 dl ≠ 0 := fun e => hne (cstN_inj0 (wk_lt _ _) _ (hdc.symm.trans e))
            obtain ⟨hbE, hbD⟩ := open_burst hdb (by omega) hz
            have hdcap := hS.vec_cap (by exact Has.head)
            refine x_exit (look_here ?_)
            refine hK15 _ _ ?_
            refine x_seq fun K21 hK21 => ?_
            refine x_region ?_
            refine s_go (s_move) ?_
            try simp only [opv, n1, n2, n3, n4, Value.cells]
            refine s_call en47 ?_
            try simp only [opv, n1, n2, n3, n4, Value.cells, List.map_toArray, List.map_cons, List.map_nil, List.append_toArray, List.cons_append, List.nil_append, Array.append_empty]
            refine CallR.mono (c_crcOpen _ A9 (n + 2) C9 dl (hS.vecRd (by repeat (first | exact Has.head | apply Has.tail))) hdl hdb (by omega) hdcap) ?_
            rintro _ w15 ⟨AP, mp, CP, rfl, hmp, hC15⟩
            replace hS := hS.call hC15
            simp only [List.cons_append, List.nil_append] at hS
            rw [hbD] at hmp
            rw [hbE]
            try simp only [opv, n1, n2, n3, n4, Value.cells]
            refine s_go (s_move) ?_
            try simp only [opv, n1, n2, n3, n4, Value.cells]
            refine s_go (s_extract (hv := rfl)) ?_
            try simp only [List.getElem_toArray, List.getElem_cons_zero, List.getElem_cons_succ]
            try simp only [opv, n1, n2, n3, n4, Value.cells]
            refine s_go (s_extract (hv := rfl)) ?_
            try simp only [List.getElem_toArray, List.getElem_cons_zero, List.getElem_cons_succ]
            try simp only [opv, n1, n2, n3, n4, Value.cells]
            refine s_go (s_assign) ?_
            try simp only [opv, n1, n2, n3, n4, Value.cells]
            refine s_go (s_assign) ?_
            try simp only [opv, n1, n2, n3, n4, Value.cells]
            refine x_nil ?_
            refine hK21 _ _ ?_
            refine x_seq fun K22 hK22 => ?_
            refine x_region ?_
            refine s_go (s_move) ?_
            try simp only [opv, n1, n2, n3, n4, Value.cells]
            refine s_go (s_len_sl Try.underlying42) ?_
            try simp only [opv, n1, n2, n3, n4, Value.cells]
            refine s_go (s_eql) ?_
            try simp only [opv, n1, n2, n3, n4, Value.cells]
            rw [show decide ((mp : Int) = 0) = true from by simp [hmp]]
            refine s_go (s_move) ?_
            try simp only [opv, n1, n2, n3, n4, Value.cells]
            refine g_on (yi (t := 94) rfl rfl) ?_
            refine s_go (s_move) ?_
            try simp only [opv, n1, n2, n3, n4, Value.cells]
            refine g_on (yi (t := 94) rfl rfl) ?_
            refine s_go (s_eql) ?_
            try simp only [opv, n1, n2, n3, n4, Value.cells]
            try simp only [ne_eq, not_true_eq_false, decide_false, eq_self, decide_true]
            first | refine s_go (s_pick_t) ?_ | refine s_go (s_pick_f) ?_
            try simp only [opv, n1, n2, n3, n4, Value.cells]
            refine s_go (s_move) ?_
            try simp only [opv, n1, n2, n3, n4, Value.cells]
            refine g_on (yi (t := 98) rfl rfl) ?_
            refine s_call en43 ?_
            try simp only [opv, n1, n2, n3, n4, Value.cells, List.map_toArray, List.map_cons, List.map_nil, List.append_toArray, List.cons_append, List.nil_append, Array.append_empty]
            refine CallR.mono (c_law05alive _) ?_
            rintro _ w16 ⟨rfl, hE16⟩
            replace hS := hS.ext hE16
            try simp only [opv, n1, n2, n3, n4, Value.cells]
            first | refine s_go (s_pick_t) ?_ | refine s_go (s_pick_f) ?_
            try simp only [opv, n1, n2, n3, n4, Value.cells]
            refine s_go (s_assign) ?_
            try simp only [opv, n1, n2, n3, n4, Value.cells]
            refine x_nil ?_
            refine hK22 _ _ ?_
            refine x_ret ?_
            refine r_tmp rfl ?_
            exact ⟨rfl, hS.ext_of⟩
end Go.Proofs.Ytjgbcaegofpggaa
