/- Rules, plain words and walks that the claim leans on: Dyt, Tb, Vj, Tc. -/
import Derived.Test.YtpjpaipkkcengaaZFrameTurned2
set_option linter.unusedSimpArgs false
set_option linter.unusedVariables false
set_option linter.unusedSimpArgs false
set_option linter.unusedVariables false
set_option maxHeartbeats 2000000
set_option maxRecDepth 100000
namespace Go.Proofs.Ytpjpaipkkcengaa
open Go.RowKit
theorem c_FrameTurned (w0 : World) (fm : Fm) (hf : FmOk fm) (A : Option Addr) (cp : Nat) (hA : Rd w0 A 1 fm.d.length (fm.d.map (Value.int .u8))) (z : Int) (hz0 : -9223372036854775808 ≤ z) (hz1 : z ≤ 9223372036854775807) (turn : Nat) (ht : turn < 65536) :
    CallR Try.prog 10 #[.agg (FA fm A cp), .int .i64 z, .int .u16 (turn : Int)] w0 fun v w' => v = .bool true ∧ Ext w0 w' := by
 have hS := St.rd1 (S := NoB) hA
 refine c_enter (l := [.agg (FA fm A cp), .int .i64 z, .int .u16 (turn : Int), undef, undef, undef, undef, undef, undef, undef, undef, undef, undef, undef, undef, undef, undef, undef, undef, undef, undef, undef, undef, undef, undef, undef, undef, undef, undef, undef, undef, undef, undef, undef, undef, undef, undef, undef, undef, undef, undef, undef, undef, undef, undef, undef, undef, undef, undef, undef, undef, undef, undef, undef, undef, undef, undef, undef, undef, undef, undef, undef, undef, undef, undef, undef, undef, undef, undef, undef, undef, undef, undef, undef, undef, undef, undef, undef, undef, undef, undef, undef, undef, undef, undef, undef, undef, undef, undef, undef, undef, undef, undef, undef, undef, undef, undef, undef, undef, undef, undef]) Try.func10 rfl (by simp only [Try.ntmps10, List.size_toArray, List.length_cons, List.length_nil, Nat.reduceAdd, Nat.reduceSub, Array.replicate_succ, Array.replicate_zero, List.push_toArray, List.append_toArray, List.nil_append, List.cons_append]) ?_
 refine x_seq fun K1 hK1 => ?_
 refine x_region ?_
 refine m_box hS (fun w1 g1 hS => ?_)
 try simp only [opv, n1, n2, n3, n4, Value.cells, Array.toArray_toList] at hS ⊢
 refine s_go (s_assign) ?_
 try simp only [opv, n1, n2, n3, n4, Value.cells]
 refine x_nil ?_
 refine hK1 _ _ ?_
 refine x_seq fun K2 hK2 => ?_
 refine x_seq fun K3 hK3 => ?_
 refine x_region ?_
 refine s_go (m_fieldAddr Try.underlying90 (hi := ti43)) ?_
 try simp only [opv, n1, n2, n3, n4, Value.cells, Nat.zero_add, Nat.add_zero, List.getElem_toArray, List.getElem_cons_zero, List.getElem_cons_succ]
 refine s_go (m_load_obj Try.underlying43 (hS := hS)) ?_
 try simp only [opv, n1, n2, n3, n4, Value.cells, List.getElem_toArray, List.getElem_cons_zero, List.getElem_cons_succ]
 refine s_go (s_len_sl Try.underlying43) ?_
 try simp only [opv, n1, n2, n3, n4, Value.cells]
 refine s_go (s_gtr) ?_
 try simp only [opv, n1, n2, n3, n4, Value.cells]
 refine x_nil ?_
 refine hK3 _ _ ?_
 refine x_cond (ht := fun hc1 => ?_) (hf := fun hc1 => ?_)
 ·
  try simp only [decide_eq_true_eq, decide_eq_false_iff_not, Bool.not_eq_true', Bool.not_eq_false', Int.not_lt, Int.not_le, ne_eq, Decidable.not_not, bne_iff_ne, beq_iff_eq, not_true_eq_false, not_false_eq_true] at hc1
  refine x_seq fun K4 hK4 => ?_
  refine x_region ?_
  refine s_call en59 ?_
  try simp only [opv, n1, n2, n3, n4, Value.cells, List.map_toArray, List.map_cons, List.map_nil, List.append_toArray, List.cons_append, List.nil_append, Array.append_empty]
  refine CallR.mono (c_law27alive _) ?_
  rintro _ w2 ⟨rfl, hE2⟩
  replace hS := hS.ext hE2
  try simp only [opv, n1, n2, n3, n4, Value.cells]
  refine s_go (s_assign) ?_
  try simp only [opv, n1, n2, n3, n4, Value.cells]
  refine x_nil ?_
  refine hK4 _ _ ?_
  refine x_ret ?_
  refine r_tmp rfl ?_
  exact ⟨rfl, hS.ext_of⟩
 ·
  try simp only [decide_eq_true_eq, decide_eq_false_iff_not, Bool.not_eq_true', Bool.not_eq_false', Int.not_lt, Int.not_le, ne_eq, Decidable.not_not, bne_iff_ne, beq_iff_eq, not_true_eq_false, not_false_eq_true] at hc1
  have hf2 : fm.d.length ≤ 200 := by omega
  have hel := encF_len hf (by omega)
  refine x_skip ?_
  refine hK2 _ _ ?_
  refine x_seq fun K5 hK5 => ?_
  refine x_region ?_
  refine s_go (m_load_row Try.underlying90 (hi := ti90) (hS := hS)) ?_
  try simp only [opv, n1, n2, n3, n4, Value.cells, List.getElem_toArray, List.getElem_cons_zero, List.getElem_cons_succ]
  refine s_call en63 ?_
  try simp only [opv, n1, n2, n3, n4, Value.cells, List.map_toArray, List.map_cons, List.map_nil, List.append_toArray, List.cons_append, List.nil_append, Array.append_empty]
  refine CallR.mono (c_frEncode _ fm hf A cp (hS.hasRd (by repeat (first | exact Has.head | apply Has.tail))) (by omega)) ?_
  rintro _ w3 ⟨B1, k1, rfl, hkB1, hC3⟩
  replace hS := hS.call hC3
  simp only [List.cons_append, List.nil_append] at hS
  replace hS := hS.vec_rd (by exact Upd.head)
  try simp only [opv, n1, n2, n3, n4, Value.cells]
  refine s_go (s_move) ?_
  try simp only [opv, n1, n2, n3, n4, Value.cells]
  refine s_go (s_extract (hv := rfl)) ?_
  try simp only [List.getElem_toArray, List.getElem_cons_zero, List.getElem_cons_succ]
  try simp only [opv, n1, n2, n3, n4, Value.cells]
  refine s_go (s_extract (hv := rfl)) ?_
  try simp only [List.getElem_toArray, List.getElem_cons_zero, List.getElem_cons_succ]
  try simp only [opv, n1, n2, n3, n4, Value.cells]
  refine s_go (s_assign) ?_
  try simp only [opv, n1, n2, n3, n4, Value.cells]
  refine s_go (s_assign) ?_
  try simp only [opv, n1, n2, n3, n4, Value.cells]
  refine x_nil ?_
  refine hK5 _ _ ?_
  refine x_seq fun K6 hK6 => ?_
  refine x_seq fun K7 hK7 => ?_
  refine x_region ?_
  refine s_go (s_move) ?_
  try simp only [opv, n1, n2, n3, n4, Value.cells]
  refine s_go (s_neq) ?_
  try simp only [opv, n1, n2, n3, n4, Value.cells]
  refine s_go (s_move) ?_
  try simp only [opv, n1, n2, n3, n4, Value.cells]
  refine s_part 27 rfl (fun hp1 => ?_) (fun hp1 => ?_)
  ·
   try simp only [n3, n4]
   try simp only [decide_eq_true_eq, decide_eq_false_iff_not, Bool.not_eq_true', Bool.not_eq_false', Int.not_lt, Int.not_le, ne_eq, Decidable.not_not] at hp1
   refine g_off (yi (t := 27) rfl rfl) ?_
   try simp only [opv, n1, n2, n3, n4, Value.cells]
   refine g_off (yi (t := 27) rfl rfl) ?_
   try simp only [opv, n1, n2, n3, n4, Value.cells]
   refine g_off (yi (t := 27) rfl rfl) ?_
   try simp only [opv, n1, n2, n3, n4, Value.cells]
   refine s_go (s_pick_t) ?_
   try simp only [opv, n1, n2, n3, n4, Value.cells]
   refine s_go (s_move) ?_
   try simp only [opv, n1, n2, n3, n4, Value.cells]
   refine g_off (yi (t := 32) rfl rfl) ?_
   try simp only [opv, n1, n2, n3, n4, Value.cells]
   refine g_off (yi (t := 32) rfl rfl) ?_
   try simp only [opv, n1, n2, n3, n4, Value.cells]
   refine s_go (s_pick_t) ?_
   try simp only [opv, n1, n2, n3, n4, Value.cells]
   refine s_go (s_move) ?_
   try simp only [opv, n1, n2, n3, n4, Value.cells]
   refine g_off (yi (t := 36) rfl rfl) ?_
   try simp only [opv, n1, n2, n3, n4, Value.cells]
   refine g_off (yi (t := 36) rfl rfl) ?_
   try simp only [opv, n1, n2, n3, n4, Value.cells]
   refine g_off (yi (t := 36) rfl rfl) ?_
   try simp only [opv, n1, n2, n3, n4, Value.cells]
   refine g_off (yi (t := 36) rfl rfl) ?_
   try simp only [opv, n1, n2, n3, n4, Value.cells]
   refine g_off (yi (t := 36) rfl rfl) ?_
   try simp only [opv, n1, n2, n3, n4, Value.cells]
   refine g_off (yi (t := 36) rfl rfl) ?_
   try simp only [opv, n1, n2, n3, n4, Value.cells]
   refine s_go (s_pick_t) ?_
   try simp only [opv, n1, n2, n3, n4, Value.cells]
   refine s_go (s_move) ?_
   try simp only [opv, n1, n2, n3, n4, Value.cells]
   refine g_off (yi (t := 44) rfl rfl) ?_
   try simp only [opv, n1, n2, n3, n4, Value.cells]
   refine g_off (yi (t := 44) rfl rfl) ?_
   try simp only [opv, n1, n2, n3, n4, Value.cells]
   refine s_go (s_pick_t) ?_
   try simp only [opv, n1, n2, n3, n4, Value.cells]
   refine x_nil ?_
   refine hK7 _ _ ?_
   refine x_cond_t (h := ?_)
   refine x_seq fun K8 hK8 => ?_
   refine x_region ?_
   refine s_call en59 ?_
   try simp only [opv, n1, n2, n3, n4, Value.cells, List.map_toArray, List.map_cons, List.map_nil, List.append_toArray, List.cons_append, List.nil_append, Array.append_empty]
   refine CallR.mono (c_law27alive _) ?_
   rintro _ w4 ⟨rfl, hE4⟩
   replace hS := hS.ext hE4
   try simp only [opv, n1, n2, n3, n4, Value.cells]
   refine s_go (s_assign) ?_
   try simp only [opv, n1, n2, n3, n4, Value.cells]
   refine x_nil ?_
   refine hK8 _ _ ?_
   refine x_ret ?_
   refine r_tmp rfl ?_
   exact ⟨rfl, hS.ext_of⟩
  ·
   try simp only [n3, n4]
   try simp only [decide_eq_true_eq, decide_eq_false_iff_not, Bool.not_eq_true', Bool.not_eq_false', Int.not_lt, Int.not_le, ne_eq, Decidable.not_not] at hp1
   have hC : checkF fm = 0 := by simpa using hp1
   obtain ⟨N, hN⟩ : ∃ N, (fmBody fm).length = N := ⟨_, rfl⟩
   have hsl := sealed_len (fmBody fm)
   have hxl : (encF fm).length = N + 2 := by rw [encF_yes hC]; omega
   refine g_on (yi (t := 27) rfl rfl) ?_
   refine s_go (s_move) ?_
   try simp only [opv, n1, n2, n3, n4, Value.cells]
   refine g_on (yi (t := 27) rfl rfl) ?_
   refine s_go (s_len_sl Try.underlying43) ?_
   try simp only [opv, n1, n2, n3, n4, Value.cells]
   refine g_on (yi (t := 27) rfl rfl) ?_
   refine s_go (s_lss) ?_
   try simp only [opv, n1, n2, n3, n4, Value.cells]
   refine s_go (s_pick_f) ?_
   try simp only [opv, n1, n2, n3, n4, Value.cells]
   refine s_go (s_move) ?_
   try simp only [opv, n1, n2, n3, n4, Value.cells]
   refine s_part 32 rfl (fun hp2 => ?_) (fun hp2 => ?_)
   ·
    try simp only [n3, n4]
    try simp only [decide_eq_true_eq, decide_eq_false_iff_not, Bool.not_eq_true', Bool.not_eq_false', Int.not_lt, Int.not_le, ne_eq, Decidable.not_not] at hp2
    refine g_off (yi (t := 32) rfl rfl) ?_
    try simp only [opv, n1, n2, n3, n4, Value.cells]
    refine g_off (yi (t := 32) rfl rfl) ?_
    try simp only [opv, n1, n2, n3, n4, Value.cells]
    refine s_go (s_pick_t) ?_
    try simp only [opv, n1, n2, n3, n4, Value.cells]
    refine s_go (s_move) ?_
    try simp only [opv, n1, n2, n3, n4, Value.cells]
    refine g_off (yi (t := 36) rfl rfl) ?_
    try simp only [opv, n1, n2, n3, n4, Value.cells]
    refine g_off (yi (t := 36) rfl rfl) ?_
    try simp only [opv, n1, n2, n3, n4, Value.cells]
    refine g_off (yi (t := 36) rfl rfl) ?_
    try simp only [opv, n1, n2, n3, n4, Value.cells]
    refine g_off (yi (t := 36) rfl rfl) ?_
    try simp only [opv, n1, n2, n3, n4, Value.cells]
    refine g_off (yi (t := 36) rfl rfl) ?_
    try simp only [opv, n1, n2, n3, n4, Value.cells]
    refine g_off (yi (t := 36) rfl rfl) ?_
    try simp only [opv, n1, n2, n3, n4, Value.cells]
    refine s_go (s_pick_t) ?_
    try simp only [opv, n1, n2, n3, n4, Value.cells]
    refine s_go (s_move) ?_
    try simp only [opv, n1, n2, n3, n4, Value.cells]
    refine g_off (yi (t := 44) rfl rfl) ?_
    try simp only [opv, n1, n2, n3, n4, Value.cells]
    refine g_off (yi (t := 44) rfl rfl) ?_
    try simp only [opv, n1, n2, n3, n4, Value.cells]
    refine s_go (s_pick_t) ?_
    try simp only [opv, n1, n2, n3, n4, Value.cells]
    refine x_nil ?_
    refine hK7 _ _ ?_
    refine x_cond_t (h := ?_)
    refine x_seq fun K9 hK9 => ?_
    refine x_region ?_
    refine s_call en59 ?_
    try simp only [opv, n1, n2, n3, n4, Value.cells, List.map_toArray, List.map_cons, List.map_nil, List.append_toArray, List.cons_append, List.nil_append, Array.append_empty]
    refine CallR.mono (c_law27alive _) ?_
    rintro _ w5 ⟨rfl, hE5⟩
    replace hS := hS.ext hE5
    try simp only [opv, n1, n2, n3, n4, Value.cells]
    refine s_go (s_assign) ?_
    try simp only [opv, n1, n2, n3, n4, Value.cells]
    refine x_nil ?_
    refine hK9 _ _ ?_
    refine x_ret ?_
    refine r_tmp rfl ?_
    exact ⟨rfl, hS.ext_of⟩
   ·
    try simp only [n3, n4]
    try simp only [decide_eq_true_eq, decide_eq_false_iff_not, Bool.not_eq_true', Bool.not_eq_false', Int.not_lt, Int.not_le, ne_eq, Decidable.not_not] at hp2
    refine g_on (yi (t := 32) rfl rfl) ?_
    refine s_go (s_move) ?_
    try simp only [opv, n1, n2, n3, n4, Value.cells]
    refine g_on (yi (t := 32) rfl rfl) ?_
    refine s_go (s_lss) ?_
    try simp only [opv, n1, n2, n3, n4, Value.cells]
    refine s_go (s_pick_f) ?_
    try simp only [opv, n1, n2, n3, n4, Value.cells]
    refine s_go (s_move) ?_
    try simp only [opv, n1, n2, n3, n4, Value.cells]
    refine s_part 36 rfl (fun hp3 => ?_) (fun hp3 => ?_)
    ·
     try simp only [n3, n4]
     try simp only [decide_eq_true_eq, decide_eq_false_iff_not, Bool.not_eq_true', Bool.not_eq_false', Int.not_lt, Int.not_le, ne_eq, Decidable.not_not] at hp3
     refine g_off (yi (t := 36) rfl rfl) ?_
     try simp only [opv, n1, n2, n3, n4, Value.cells]
     refine g_off (yi (t := 36) rfl rfl) ?_
     try simp only [opv, n1, n2, n3, n4, Value.cells]
     refine g_off (yi (t := 36) rfl rfl) ?_
     try simp only [opv, n1, n2, n3, n4, Value.cells]
     refine g_off (yi (t := 36) rfl rfl) ?_
     try simp only [opv, n1, n2, n3, n4, Value.cells]
     refine g_off (yi (t := 36) rfl rfl) ?_
     try simp only [opv, n1, n2, n3, n4, Value.cells]
     refine g_off (yi (t := 36) rfl rfl) ?_
     try simp only [opv, n1, n2, n3, n4, Value.cells]
     refine s_go (s_pick_t) ?_
     try simp only [opv, n1, n2, n3, n4, Value.cells]
     refine s_go (s_move) ?_
     try simp only [opv, n1, n2, n3, n4, Value.cells]
     refine g_off (yi (t := 44) rfl rfl) ?_
     try simp only [opv, n1, n2, n3, n4, Value.cells]
     refine g_off (yi (t := 44) rfl rfl) ?_
     try simp only [opv, n1, n2, n3, n4, Value.cells]
     refine s_go (s_pick_t) ?_
     try simp only [opv, n1, n2, n3, n4, Value.cells]
     refine x_nil ?_
     refine hK7 _ _ ?_
     refine x_cond_t (h := ?_)
     refine x_seq fun K10 hK10 => ?_
     refine x_region ?_
     refine s_call en59 ?_
     try simp only [opv, n1, n2, n3, n4, Value.cells, List.map_toArray, List.map_cons, List.map_nil, List.append_toArray, List.cons_append, List.nil_append, Array.append_empty]
     refine CallR.mono (c_law27alive _) ?_
     rintro _ w6 ⟨rfl, hE6⟩
     replace hS := hS.ext hE6
     try simp only [opv, n1, n2, n3, n4, Value.cells]
     refine s_go (s_assign) ?_
     try simp only [opv, n1, n2, n3, n4, Value.cells]
     refine x_nil ?_
     refine hK10 _ _ ?_
     refine x_ret ?_
     refine r_tmp rfl ?_
     exact ⟨rfl, hS.ext_of⟩
    ·
     try simp only [n3, n4]
     try simp only [decide_eq_true_eq, decide_eq_false_iff_not, Bool.not_eq_true', Bool.not_eq_false', Int.not_lt, Int.not_le, ne_eq, Decidable.not_not] at hp3
     refine g_on (yi (t := 36) rfl rfl) ?_
     refine s_go (s_move) ?_
     try simp only [opv, n1, n2, n3, n4, Value.cells]
     refine g_on (yi (t := 36) rfl rfl) ?_
     refine s_go (s_move) ?_
     try simp only [opv, n1, n2, n3, n4, Value.cells]
     refine g_on (yi (t := 36) rfl rfl) ?_
     refine s_go (s_len_sl Try.underlying43) ?_
     try simp only [opv, n1, n2, n3, n4, Value.cells]
     refine g_on (yi (t := 36) rfl rfl) ?_
     refine s_go (s_mul (hc := by exact wr_i64 (by omega) (by omega))) ?_
     try simp only [opv, n1, n2, n3, n4, Value.cells]
     refine g_on (yi (t := 36) rfl rfl) ?_
     refine s_go (s_sub (hc := by exact wr_i64 (by omega) (by omega))) ?_
     try simp only [opv, n1, n2, n3, n4, Value.cells]
     refine g_on (yi (t := 36) rfl rfl) ?_
     refine s_go (s_gtr) ?_
     try simp only [opv, n1, n2, n3, n4, Value.cells]
     refine s_go (s_pick_f) ?_
     try simp only [opv, n1, n2, n3, n4, Value.cells]
     refine s_go (s_move) ?_
     try simp only [opv, n1, n2, n3, n4, Value.cells]
     refine s_part 44 rfl (fun hp4 => ?_) (fun hp4 => ?_)
     ·
      try simp only [n3, n4]
      try simp only [decide_eq_true_eq, decide_eq_false_iff_not, Bool.not_eq_true', Bool.not_eq_false', Int.not_lt, Int.not_le, ne_eq, Decidable.not_not] at hp4
      refine g_off (yi (t := 44) rfl rfl) ?_
      try simp only [opv, n1, n2, n3, n4, Value.cells]
      refine g_off (yi (t := 44) rfl rfl) ?_
      try simp only [opv, n1, n2, n3, n4, Value.cells]
      refine s_go (s_pick_t) ?_
      try simp only [opv, n1, n2, n3, n4, Value.cells]
      refine x_nil ?_
      refine hK7 _ _ ?_
      refine x_cond_t (h := ?_)
      refine x_seq fun K11 hK11 => ?_
      refine x_region ?_
      refine s_call en59 ?_
      try simp only [opv, n1, n2, n3, n4, Value.cells, List.map_toArray, List.map_cons, List.map_nil, List.append_toArray, List.cons_append, List.nil_append, Array.append_empty]
      refine CallR.mono (c_law27alive _) ?_
      rintro _ w7 ⟨rfl, hE7⟩
      replace hS := hS.ext hE7
      try simp only [opv, n1, n2, n3, n4, Value.cells]
      refine s_go (s_assign) ?_
      try simp only [opv, n1, n2, n3, n4, Value.cells]
      refine x_nil ?_
      refine hK11 _ _ ?_
      refine x_ret ?_
      refine r_tmp rfl ?_
      exact ⟨rfl, hS.ext_of⟩
     ·
      try simp only [n3, n4]
      try simp only [decide_eq_true_eq, decide_eq_false_iff_not, Bool.not_eq_true', Bool.not_eq_false', Int.not_lt, Int.not_le, ne_eq, Decidable.not_not] at hp4
      refine g_on (yi (t := 44) rfl rfl) ?_
      refine s_go (s_move) ?_
      try simp only [opv, n1, n2, n3, n4, Value.cells]
      refine g_on (yi (t := 44) rfl rfl) ?_
      refine s_go (s_eql) ?_
      try simp only [opv, n1, n2, n3, n4, Value.cells]
      refine s_go (s_pick_f) ?_
      try simp only [opv, n1, n2, n3, n4, Value.cells]
      refine x_nil ?_
      refine hK7 _ _ ?_
      refine x_cond (ht := fun hc6 => ?_) (hf := fun hc6 => ?_)
      ·
       try simp only [decide_eq_true_eq, decide_eq_false_iff_not, Bool.not_eq_true', Bool.not_eq_false', Int.not_lt, Int.not_le, ne_eq, Decidable.not_not, bne_iff_ne, beq_iff_eq, not_true_eq_false, not_false_eq_true] at hc6
       refine x_seq fun K12 hK12 => ?_
       refine x_region ?_
       refine s_call en59 ?_
       try simp only [opv, n1, n2, n3, n4, Value.cells, List.map_toArray, List.map_cons, List.map_nil, List.append_toArray, List.cons_append, List.nil_append, Array.append_empty]
       refine CallR.mono (c_law27alive _) ?_
       rintro _ w8 ⟨rfl, hE8⟩
       replace hS := hS.ext hE8
       try simp only [opv, n1, n2, n3, n4, Value.cells]
       refine s_go (s_assign) ?_
       try simp only [opv, n1, n2, n3, n4, Value.cells]
       refine x_nil ?_
       refine hK12 _ _ ?_
       refine x_ret ?_
       refine r_tmp rfl ?_
       exact ⟨rfl, hS.ext_of⟩
      ·
       try simp only [decide_eq_true_eq, decide_eq_false_iff_not, Bool.not_eq_true', Bool.not_eq_false', Int.not_lt, Int.not_le, ne_eq, Decidable.not_not, bne_iff_ne, beq_iff_eq, not_true_eq_false, not_false_eq_true] at hc6
       have ht0 : ¬ turn = 0 := by omega
       have hsb := sealed_byt (fmBody_byt hf)
       rw [hxl, encF_yes hC] at hS
       obtain ⟨q, rfl⟩ := Int.eq_ofNat_of_zero_le (show 0 ≤ z by omega)
       refine x_skip ?_
       refine hK6 _ _ ?_
       refine x_seq fun K13 hK13 => ?_
       refine x_region ?_
       refine m_buildRow (cells := #[]) Try.underlying43 ti5 (hc := by simp only [List.map_toArray, List.map_cons, List.map_nil, opv, n1, n2, n3, n4, Value.cells, List.toList_toArray]; (repeat (refine fill_cons rfl rfl (Nat.le_of_ble_eq_true rfl) ?_)); rfl) (hS := hS) (h := fun w9 g9 hS => ?_)
       try simp only [opv, n1, n2, n3, n4, Value.cells, Array.toArray_toList] at hS ⊢
       replace hS := hS.obj_vec (sz := 1) (n := 0) rfl (by decide) .head
       refine s_go (s_move) ?_
       try simp only [opv, n1, n2, n3, n4, Value.cells]
       rw [hxl]
       refine m_append Try.underlying43 ti5 (hS := hS) (h := fun w10 A10 C10 hS => ?_)
       try simp only [← List.map_append, ← List.map_drop, ← List.map_take, Nat.mul_one, Nat.zero_mul, Nat.sub_zero, List.drop_zero, List.nil_append, Nat.zero_add] at hS ⊢
       try simp only [opv, n1, n2, n3, n4, Value.cells, Array.toArray_toList] at hS ⊢
       obtain ⟨A9, hA9⟩ : ∃ z, z = A10 := ⟨_, rfl⟩
       obtain ⟨C9, hC9⟩ : ∃ z, z = C10 := ⟨_, rfl⟩
       rw [← hA9, ← hC9] at hS ⊢
       refine s_go (s_assign) ?_
       try simp only [opv, n1, n2, n3, n4, Value.cells]
       refine x_nil ?_
       refine hK13 _ _ ?_
       refine x_seq fun K14 hK14 => ?_
       refine x_seq fun K15 hK15 => ?_
       refine x_region ?_
       refine s_go (s_assign) ?_
       try simp only [opv, n1, n2, n3, n4, Value.cells]
       refine x_nil ?_
       refine hK15 _ _ ?_
       refine x_block ?_
       refine x_loop [10, 52, 53, 54, 55, 56, 57, 58, 59, 60, 61, 62, 63, 64, 65, 66, 67, 68, 69, 70, 71, 72, 73, 74, 75, 76, 77, 78, 79] (fun m f w => ∃ (i : Nat) (dl : List Int), i ≤ 16 ∧ m = 16 - i ∧ f 10 = .int .i64 (i : Int) ∧ dl.length = N + 2 ∧ Byt dl ∧ crcM 65535 dl = cstN (8 * (N + 2) - q) (wk turn i) ∧ St NoB w0 w [.vec A9 C9 5 1 (N + 2) ((dl).map (Value.int .u8)), .obj g1 (.cells (FA fm A cp) 90 (0, 0)), .rd A 1 fm.d.length (fm.d.map (Value.int .u8))]) (16) ?init1 (fun m1 f1 wl1 hI => ?_)
       case init1 =>
        try simp only [opv, n1, n2, n3, n4, Value.cells]
        try simp only [Nat.zero_add, List.nil_append, List.map_nil] at hS
        exact ⟨0, sealed (fmBody fm), by omega, rfl, rfl, by omega, hsb, by rw [sealed_zero, wk, cstN_zero], hS.sel (by repeat (first | exact Sel.nil | (refine Sel.cons (by repeat (first | exact Del.head | apply Del.tail)) ?_)))⟩
       obtain ⟨i, dl, hi, hm, h10, hdl, hdb, hdc, hS⟩ := hI
       simp only [clob, List.foldl, n3, n4, h10]
       have hbd := hdb.bt ((q + i) / 8)
       refine x_seq fun K16 hK16 => ?_
       refine x_seq fun K17 hK17 => ?_
       refine x_region ?_
       refine s_go (s_move) ?_
       try simp only [opv, n1, n2, n3, n4, Value.cells]
       refine s_go (s_lss) ?_
       try simp only [opv, n1, n2, n3, n4, Value.cells]
       refine x_nil ?_
       refine hK17 _ _ ?_
       refine x_cond (ht := fun hc7 => ?_) (hf := fun hc7 => ?_)
       ·
        try simp only [decide_eq_true_eq, decide_eq_false_iff_not, Bool.not_eq_true', Bool.not_eq_false', Int.not_lt, Int.not_le, ne_eq, Decidable.not_not, bne_iff_ne, beq_iff_eq, not_true_eq_false, not_false_eq_true] at hc7
        refine x_skip ?_
        refine hK16 _ _ ?_
        refine x_seq fun K18 hK18 => ?_
        refine x_block ?_
        refine x_seq fun K19 hK19 => ?_
        refine x_region ?_
        refine s_go (s_move) ?_
        try simp only [opv, n1, n2, n3, n4, Value.cells]
        refine s_go (s_move) ?_
        try simp only [opv, n1, n2, n3, n4, Value.cells]
        refine s_go (s_shr (hc := shr_u .u16 (r := turn) (p := 2 ^ i) (s := turn / 2 ^ i) rfl (by simp [IntKind.bits]; omega) rfl)) ?_
        try simp only [opv, n1, n2, n3, n4, Value.cells]
        refine s_go (s_rem (hc := rem_nat (r := turn / 2 ^ i) (p := 2))) ?_
        try simp only [opv, n1, n2, n3, n4, Value.cells]
        refine s_go (s_eql) ?_
        try simp only [opv, n1, n2, n3, n4, Value.cells]
        refine x_nil ?_
        refine hK19 _ _ ?_
        refine x_cond (ht := fun hc8 => ?_) (hf := fun hc8 => ?_)
        ·
         try simp only [decide_eq_true_eq, decide_eq_false_iff_not, Bool.not_eq_true', Bool.not_eq_false', Int.not_lt, Int.not_le, ne_eq, Decidable.not_not, bne_iff_ne, beq_iff_eq, not_true_eq_false, not_false_eq_true] at hc8
         have hbit := hc8
         refine x_mixed_f [19] 19 [61, 62, 63, 64, 65, 66, 67, 68, 69, 70, 71, 72, 73, 74, 75, 76, 77, 78, 79] (fun f w => St NoB w0 w [.vec A9 C9 5 1 (N + 2) ((dl.set ((q + i) / 8) ((bt dl ((q + i) / 8) ^^^ 2 ^ (7 - (q + i) % 8) : Nat) : Int)).map (Value.int .u8)), .obj g1 (.cells (FA fm A cp) 90 (0, 0)), .rd A 1 fm.d.length (fm.d.map (Value.int .u8))]) (by kernel_rfl) (by kernel_rfl) (by kernel_rfl) (by decide) hS (fun w11 hS => ?mixpre11) ?mixrest11
         case mixpre11 =>
          simp only [List.take_succ_cons, List.take_zero, List.length_cons, List.length_nil, Nat.reduceAdd, Nat.reduceSub]
          refine p_go (fun w hS => s_move) ?_
          try simp only [opv, n1, n2, n3, n4, Value.cells]
          refine p_go (fun w hS => s_move) ?_
          try simp only [opv, n1, n2, n3, n4, Value.cells]
          refine p_go (fun w hS => s_move) ?_
          try simp only [opv, n1, n2, n3, n4, Value.cells]
          refine p_go (fun w hS => s_add (hc := by exact wr_i64 (by omega) (by omega))) ?_
          try simp only [opv, n1, n2, n3, n4, Value.cells]
          rw [show (q : Int) + (i : Int) = ((q + i : Nat) : Int) by omega]
          refine p_go (fun w hS => s_quo (hc := quo_i64 (r := q + i) (p := 8) (by omega))) ?_
          try simp only [opv, n1, n2, n3, n4, Value.cells]
          refine p_go (fun w hS => s_move) ?_
          try simp only [opv, n1, n2, n3, n4, Value.cells]
          refine p_go (fun w hS => s_move) ?_
          try simp only [opv, n1, n2, n3, n4, Value.cells]
          refine p_go (fun w hS => s_move) ?_
          try simp only [opv, n1, n2, n3, n4, Value.cells]
          refine p_go (fun w hS => s_add (hc := by exact wr_i64 (by omega) (by omega))) ?_
          try simp only [opv, n1, n2, n3, n4, Value.cells]
          rw [show (q : Int) + (i : Int) = ((q + i : Nat) : Int) by omega]
          refine p_go (fun w hS => s_quo (hc := quo_i64 (r := q + i) (p := 8) (by omega))) ?_
          try simp only [opv, n1, n2, n3, n4, Value.cells]
          refine p_go (fun w hS => m_indexAddr_vec Try.underlying43 ti5 (hS := hS)) ?_
          try simp only [opv, n1, n2, n3, n4, Value.cells, Nat.mul_one, Nat.zero_add, Int.toNat_natCast, Int.reduceToNat]
          refine p_go (fun w hS => m_load_vec Try.underlying5 (hS := hS)) ?_
          try simp only [opv, n1, n2, n3, n4, Value.cells, List.getElem_toArray, List.getElem_cons_zero, List.getElem_cons_succ]
          rw [hbd.1]
          refine p_go (fun w hS => s_move) ?_
          try simp only [opv, n1, n2, n3, n4, Value.cells]
          refine p_go (fun w hS => s_move) ?_
          try simp only [opv, n1, n2, n3, n4, Value.cells]
          refine p_go (fun w hS => s_add (hc := by exact wr_i64 (by omega) (by omega))) ?_
          try simp only [opv, n1, n2, n3, n4, Value.cells]
          rw [show (q : Int) + (i : Int) = ((q + i : Nat) : Int) by omega]
          refine p_go (fun w hS => s_rem (hc := rem_nat (r := q + i) (p := 8))) ?_
          try simp only [opv, n1, n2, n3, n4, Value.cells]
          refine p_go (fun w hS => s_shr (hc := shr_u .u8 (r := 128) (p := 2 ^ ((q + i) % 8)) (s := 2 ^ (7 - (q + i) % 8)) (pow7 (by omega)) (by simp [IntKind.bits]; omega) rfl)) ?_
          try simp only [opv, n1, n2, n3, n4, Value.cells]
          refine p_go (fun w hS => s_bits (by simp) (hc := xor_u8 (a := bt dl ((q + i) / 8)) (b := 2 ^ (7 - (q + i) % 8)) hbd.2 pow7_lt)) ?_
          try simp only [opv, n1, n2, n3, n4, Value.cells]
          refine p_go (fun w hS => m_indexAddr_vec Try.underlying43 ti5 (hS := hS)) ?_
          try simp only [opv, n1, n2, n3, n4, Value.cells, Nat.mul_one, Nat.zero_add, Int.toNat_natCast, Int.reduceToNat]
          refine p_nil ?_
          refine any_step [19] (by kernel_rfl) (by decide) (fun w12 hE => ⟨fun _ => (hS.ext hE).sel (by repeat (first | exact Sel.nil | (refine Sel.cons (by repeat (exact Del.head)) ?_))), ?_⟩)
          replace hS := hS.ext hE
          intro i hi
          simp only [List.mem_cons, List.not_mem_nil, or_false] at hi
          subst hi
          ·
           refine any_op (by rfl) ?_
           refine m_store_vec ti5 (hS := hS) (h := fun w13 hS => ?_)
           try simp only [opv, n1, n2, n3, n4, Value.cells, Array.toArray_toList] at hS ⊢
           refine x_nil ?_
           refine any_nil (by kernel_rfl) (fun w14 hE => ?_)
           replace hS := hS.ext hE
           refine ⟨fun hl => absurd (hl 19 (by decide)) (by decide +kernel), ?_⟩
           refine mix_leaf (by simp only [clob, List.foldl, n1, n2, n3, n4]) ?_
           try simp only [n1, n2]
           exact hS.sel (by repeat (first | exact Sel.nil | (refine Sel.cons (by repeat (exact Del.head)) ?_)))
         intro fm1 w15 hM
         replace hS := hM
         simp only [clob, List.foldl, n3, n4]
         refine hK18 _ _ ?_
         refine x_region ?_
         refine s_go (s_move) ?_
         try simp only [opv, n1, n2, n3, n4, Value.cells]
         refine s_go (s_add (hc := by exact wr_i64 (by omega) (by omega))) ?_
         try simp only [opv, n1, n2, n3, n4, Value.cells]
         refine s_go (s_assign) ?_
         try simp only [opv, n1, n2, n3, n4, Value.cells]
         refine x_nil ?_
         refine loop_back (m' := 16 - (i + 1)) (by simp only [clob, List.foldl, n1, n2, n3, n4]) ?_ ?_
         · try simp only [opv, n1, n2, n3, n4, Value.cells]
           (refine ⟨i + 1, dl.set ((q + i) / 8) ((bt dl ((q + i) / 8) ^^^ 2 ^ (7 - (q + i) % 8) : Nat) : Int), by omega, by omega, by rfl, by simp [hdl], byt_set hdb (Nat.xor_lt_two_pow (n := 8) hbd.2 pow7_lt), burst_on hdl hdb (by omega) (by omega) hdc (by exact_mod_cast hbit), hS⟩)
         · omega
        ·
         try simp only [decide_eq_true_eq, decide_eq_false_iff_not, Bool.not_eq_true', Bool.not_eq_false', Int.not_lt, Int.not_le, ne_eq, Decidable.not_not, bne_iff_ne, beq_iff_eq, not_true_eq_false, not_false_eq_true] at hc8
         have hbit := hc8
         refine x_skip ?_
         refine hK18 _ _ ?_
         refine x_region ?_
         refine s_go (s_move) ?_
         try simp only [opv, n1, n2, n3, n4, Value.cells]
         refine s_go (s_add (hc := by exact wr_i64 (by omega) (by omega))) ?_
         try simp only [opv, n1, n2, n3, n4, Value.cells]
         refine s_go (s_assign) ?_
         try simp only [opv, n1, n2, n3, n4, Value.cells]
         refine x_nil ?_
         refine loop_back (m' := 16 - (i + 1)) (by simp only [clob, List.foldl, n1, n2, n3, n4]) ?_ ?_
         · try simp only [opv, n1, n2, n3, n4, Value.cells]
           exact ⟨i + 1, dl, by omega, by omega, by rfl, hdl, hdb, by rw [burst_off (by exact_mod_cast hbit)]; exact hdc, hS⟩
         · omega
       ·
        try simp only [decide_eq_true_eq, decide_eq_false_iff_not, Bool.not_eq_true', Bool.not_eq_false', Int.not_lt, Int.not_le, ne_eq, Decidable.not_not, bne_iff_ne, beq_iff_eq, not_true_eq_false, not_false_eq_true] at hc7
        obtain rfl : i = 16 := by omega
        have hne := wk_ne ht (by omega)
        have hz : crcM 65535 dl ≠ 0 := fun e => hne (cstN_inj0 (wk_lt _ _) _ (hdc.symm.trans e))
        obtain ⟨hbE, hbD⟩ := open_burst hdb (by omega) hz
        have hdE : decE dl = 5 := by rw [decE, if_neg (by rw [hbE]; decide), hbE]
        have hdcap := hS.vec_cap (by exact Has.head)
        refine x_exit (look_here ?_)
        refine hK14 _ _ ?_
        refine x_seq fun K20 hK20 => ?_
        refine x_region ?_
        refine s_go (s_move) ?_
        try simp only [opv, n1, n2, n3, n4, Value.cells]
        refine s_call en60 ?_
        try simp only [opv, n1, n2, n3, n4, Value.cells, List.map_toArray, List.map_cons, List.map_nil, List.append_toArray, List.cons_append, List.nil_append, Array.append_empty]
        refine CallR.mono (c_frDecode _ A9 (N + 2) C9 dl (hS.vecRd (by repeat (exact Has.head))) hdl hdb (by omega) hdcap) ?_
        rintro _ w16 ⟨B4, k4, rfl, hC16⟩
        replace hS := hS.call hC16
        simp only [List.cons_append, List.nil_append] at hS
        rw [hdE]
        try simp only [opv, n1, n2, n3, n4, Value.cells]
        refine s_go (s_move) ?_
        try simp only [opv, n1, n2, n3, n4, Value.cells]
        refine s_go (s_extract (hv := rfl)) ?_
        try simp only [List.getElem_toArray, List.getElem_cons_zero, List.getElem_cons_succ]
        try simp only [opv, n1, n2, n3, n4, Value.cells]
        refine s_go (s_extract (hv := rfl)) ?_
        try simp only [List.getElem_toArray, List.getElem_cons_zero, List.getElem_cons_succ]
        try simp only [opv, n1, n2, n3, n4, Value.cells]
        refine m_alloc ti90 hS (fun w17 g17 hS => ?_)
        try simp only [opv, n1, n2, n3, n4, Value.cells, Array.toArray_toList] at hS ⊢
        refine m_store_obj ti90 (hS := hS) (h1 := by simp [opv, Value.cells, FA, fmL, Value.oneCell']) (h := fun w18 hS => ?_)
        try simp only [opv, n1, n2, n3, n4, Value.cells, Array.toArray_toList] at hS ⊢
        refine s_go (s_assign) ?_
        try simp only [opv, n1, n2, n3, n4, Value.cells]
        refine x_nil ?_
        refine hK20 _ _ ?_
        refine x_seq fun K21 hK21 => ?_
        refine x_region ?_
        refine m_make (n := 65537) Try.underlying43 ti5 (hx := rfl) (hy := rfl) (h63 := by (simp only [maxLen]; omega)) (hS := hS) (h := fun w19 A19 hS => ?_)
        try simp only [opv, n1, n2, n3, n4, Value.cells, Array.toArray_toList] at hS ⊢
        obtain ⟨A8, hA8⟩ : ∃ z, z = A19 := ⟨_, rfl⟩
        rw [← hA8] at hS ⊢
        obtain ⟨zs, hzs, hzl, hzb⟩ := zero_row
        replace hS := hS.vec_rd (by exact Upd.head)
        rw [show (madeCells _ _).toList = zs.map (Value.int .u8) from hzs] at hS
        refine s_go (m_fieldAddr Try.underlying90 (hi := ti43)) ?_
        try simp only [opv, n1, n2, n3, n4, Value.cells, Nat.zero_add, Nat.add_zero, List.getElem_toArray, List.getElem_cons_zero, List.getElem_cons_succ]
        simp only [FA, fmL] at hS
        refine m_store_obj ti43 (hS := hS) (h := fun w20 hS => ?_)
        try simp only [opv, n1, n2, n3, n4, Value.cells, Array.toArray_toList] at hS ⊢
        rw [show (65537 : Nat) = zs.length from hzl.symm] at hS
        replace hS : St NoB w0 w20 [.obj g1 (.cells (FA { fm with d := zs } A8 zs.length) 90 (0, 0)), .rd A8 1 zs.length (zs.map (Value.int .u8))] := hS.sel (by repeat (first | exact Sel.nil | (refine Sel.cons (by repeat (first | exact Del.head | apply Del.tail)) ?_)))
        have hck2 := chk_big hC (show 65536 < zs.length by omega)
        have hf3 : FmOk { fm with d := zs } := ⟨hf.k, hf.fr, hf.to, hf.ss, hf.sq, hf.pt, hf.off, hzb⟩
        refine x_nil ?_
        refine hK21 _ _ ?_
        refine x_seq fun K22 hK22 => ?_
        refine x_region ?_
        refine s_go (m_load_row Try.underlying90 (hi := ti90) (hS := hS)) ?_
        try simp only [opv, n1, n2, n3, n4, Value.cells, List.getElem_toArray, List.getElem_cons_zero, List.getElem_cons_succ]
        refine s_call en63 ?_
        try simp only [opv, n1, n2, n3, n4, Value.cells, List.map_toArray, List.map_cons, List.map_nil, List.append_toArray, List.cons_append, List.nil_append, Array.append_empty]
        refine CallR.mono (c_frEncode _ { fm with d := zs } hf3 A8 zs.length (hS.hasRd (by repeat (first | exact Has.head | apply Has.tail))) (by show zs.length ≤ 100000; omega)) ?_
        rintro _ w21 ⟨B5, k5, rfl, hkB5, hC21⟩
        replace hS := hS.call hC21
        simp only [List.cons_append, List.nil_append] at hS
        rw [hck2]
        try simp only [opv, n1, n2, n3, n4, Value.cells]
        refine s_go (s_move) ?_
        try simp only [opv, n1, n2, n3, n4, Value.cells]
        refine s_go (s_extract (hv := rfl)) ?_
        try simp only [List.getElem_toArray, List.getElem_cons_zero, List.getElem_cons_succ]
        try simp only [opv, n1, n2, n3, n4, Value.cells]
        refine s_go (s_extract (hv := rfl)) ?_
        try simp only [List.getElem_toArray, List.getElem_cons_zero, List.getElem_cons_succ]
        try simp only [opv, n1, n2, n3, n4, Value.cells]
        refine s_go (s_assign) ?_
        try simp only [opv, n1, n2, n3, n4, Value.cells]
        refine s_go (s_assign) ?_
        try simp only [opv, n1, n2, n3, n4, Value.cells]
        refine x_nil ?_
        refine hK22 _ _ ?_
        refine x_seq fun K23 hK23 => ?_
        refine x_region ?_
        refine s_go (s_move) ?_
        try simp only [opv, n1, n2, n3, n4, Value.cells]
        refine s_go (s_eql) ?_
        try simp only [opv, n1, n2, n3, n4, Value.cells]
        try simp only [eq_self, decide_true, beq_self_eq_true, Bool.and_self]
        refine s_go (s_move) ?_
        try simp only [opv, n1, n2, n3, n4, Value.cells]
        refine g_on (yi (t := 94) rfl rfl) ?_
        refine s_go (s_move) ?_
        try simp only [opv, n1, n2, n3, n4, Value.cells]
        refine g_on (yi (t := 94) rfl rfl) ?_
        refine s_go (s_eql) ?_
        try simp only [opv, n1, n2, n3, n4, Value.cells]
        try simp only [eq_self, decide_true, beq_self_eq_true, Bool.and_self]
        refine s_go (s_pick_t) ?_
        try simp only [opv, n1, n2, n3, n4, Value.cells]
        refine s_go (s_move) ?_
        try simp only [opv, n1, n2, n3, n4, Value.cells]
        refine g_on (yi (t := 98) rfl rfl) ?_
        refine s_call en59 ?_
        try simp only [opv, n1, n2, n3, n4, Value.cells, List.map_toArray, List.map_cons, List.map_nil, List.append_toArray, List.cons_append, List.nil_append, Array.append_empty]
        refine CallR.mono (c_law27alive _) ?_
        rintro _ w22 ⟨rfl, hE22⟩
        replace hS := hS.ext hE22
        try simp only [opv, n1, n2, n3, n4, Value.cells]
        refine s_go (s_pick_t) ?_
        try simp only [opv, n1, n2, n3, n4, Value.cells]
        refine s_go (s_assign) ?_
        try simp only [opv, n1, n2, n3, n4, Value.cells]
        refine x_nil ?_
        refine hK23 _ _ ?_
        refine x_ret ?_
        refine r_tmp rfl ?_
        exact ⟨rfl, hS.ext_of⟩
end Go.Proofs.Ytpjpaipkkcengaa
namespace Go.Proofs.Ytpjpaipkkcengaa
open Go.ChangeShapes Go.WideShapes Go.ChangeAt Go.RowKit
theorem own0 : ownKnob Try.prog.godebug = none := by kernel_rfl
theorem laidOut0 : laidOutB Try.prog = true := by kernel_rfl
theorem fl5 : Flat Try.prog 5 [LK.int .u8] := flat_int Try.underlying5
theorem fl25 : Flat Try.prog 25 [LK.int .u32] := flat_int Try.underlying25
theorem fl43 : Flat Try.prog 43 [LK.sl 1 [LK.int .u8]] := flat_slice Try.underlying43 fl5 rfl (by kernel_rfl) (by decide)
theorem fl4 : Flat Try.prog 4 [LK.bool] := flat_bool Try.underlying4
theorem fl90 : Flat Try.prog 90 ([LK.int .u8] ++ ([LK.int .u8] ++ ([LK.int .u8] ++ ([LK.int .u32] ++ ([LK.int .u32] ++ ([LK.int .u8] ++ ([LK.int .u32] ++ ([LK.bool] ++ ([LK.sl 1 [LK.int .u8]] ++ ([])))))))))) := flat_struct Try.underlying90 (.cons rfl fl5 rfl (by kernel_rfl) (.cons rfl fl5 rfl (by kernel_rfl) (.cons rfl fl5 rfl (by kernel_rfl) (.cons rfl fl25 rfl (by kernel_rfl) (.cons rfl fl25 rfl (by kernel_rfl) (.cons rfl fl5 rfl (by kernel_rfl) (.cons rfl fl25 rfl (by kernel_rfl) (.cons rfl fl4 rfl (by kernel_rfl) (.cons rfl fl43 rfl (by kernel_rfl) (.nil)))))))))) (by kernel_rfl)
end Go.Proofs.Ytpjpaipkkcengaa
namespace Go.Proofs.Ytpjpaipkkcengaa
theorem ws_cons {c : Char} (h : c ≠ Char.ofNat 32) (x : List Char) : wordsSigns (c :: x) = (match wordsSigns x with | w :: ws => (c :: w) :: ws | [] => [[c]]) := by
  conv => lhs; unfold wordsSigns
  split
  · simp_all
  · next h1 => exact absurd (by simpa using (List.cons.inj h1).1) h
  · next h1 => obtain ⟨rfl, rfl⟩ := List.cons.inj h1; rfl
theorem ws_app (b : List Char) : ∀ (a : List Char), (∀ c ∈ a, c ≠ Char.ofNat 32) → wordsSigns (a ++ Char.ofNat 32 :: b) = a :: wordsSigns b
  | [], _ => rfl
  | c :: r, h => by
    rw [List.cons_append, ws_cons (h c (by simp)), ws_app b r (fun x hx => h x (by simp [hx]))]
/-- the head's words: harness, a sum, cut -/
theorem head_words {P : Program} {s b : List Char} (he : P.initOrder = String.ofList ("harness".toList ++ Char.ofNat 32 :: (s ++ Char.ofNat 32 :: ("cut".toList ++ Char.ofNat 32 :: b)))) (hs : isSumSigns s = true) (hb : ∀ c ∈ s, c ≠ Char.ofNat 32) :
    ∃ R, behindMainWord (wordsSigns P.initOrder.toList) = "cut".toList :: R := by
  refine ⟨wordsSigns b, ?_⟩
  rw [he, String.toList_ofList, ws_app _ _ (by decide), ws_app _ _ hb, ws_app _ _ (by decide)]
  simp only [behindMainWord, hs, beq_self_eq_true, Bool.true_or, Bool.and_self, if_true]
theorem e_gc : ("cut".toList == "gc".toList) = false := by decide
theorem e_spec : ("cut".toList == "spec".toList) = false := by decide
theorem e_car : ("cut".toList == "carried".toList) = false := by decide
theorem e_sl (R : List (List Char)) : stripLifts liftWords ("cut".toList :: R) = ([], "cut".toList :: R) := by
  have h : ∀ (l : List String), (∀ o ∈ l, ("cut".toList == o.toList) = false) → stripLifts l ("cut".toList :: R) = ([], "cut".toList :: R) := by
    intro l
    induction l with
    | nil => intro _; rfl
    | cons o os ih => intro hl; rw [stripLifts, hl o (by simp)]; simp only [Bool.false_eq_true, if_false]; exact ih fun x hx => hl x (by simp [hx])
  exact h liftWords (by decide)
section
variable {P : Program} (h : ∃ R, behindMainWord (wordsSigns P.initOrder.toList) = "cut".toList :: R)
include h
theorem make_of : P.make = some .cut := by
  obtain ⟨R, h⟩ := h
  unfold Program.make
  rw [h]
  simp only [e_gc, e_spec, beq_self_eq_true, Bool.or_self, Bool.true_or, Bool.false_eq_true, if_false, if_true]
theorem lifts_of : P.liftsFinal = false := by
  obtain ⟨R, h⟩ := h
  unfold Program.liftsFinal Program.headLifts
  rw [h, e_sl]
  show (_ || _) = false
  rfl
theorem enter_of (hl : P.laysLater = false) (hr : P.bearsReflect = false) (hd : P.doorFits [] = true) : P.mayEnter = true := by
  obtain ⟨R, h⟩ := h
  unfold Program.mayEnter
  rw [h]
  dsimp only
  rw [e_sl, hl, hr]
  simp only [hd, e_gc, e_spec, e_car, beq_self_eq_true, Bool.or_self, Bool.false_and, Bool.not_false, Bool.or_true, Bool.and_true, List.head?_cons, List.contains_nil]
end
theorem closed_of {P : Program} {f : FuncId} {fn : Func} {s : ChangeSpec} {c : OpenClaim} (hm : P.make = some .cut) (hl : P.liftsFinal = false) (he : P.mayEnter = true) (h2 : laidOutB P = true) (h3 : mapsRowed P = true) (hst : (P.stops == []) = true) (hk : (P.stopKnobs == []) = true)
    (hp : P.plainKeys = c.plainKeys) (hh : P.stopsHeard = true) (i1 : P.inPlace f = c.inPlace) (i2 : P.unfollowed f = c.unfollowed) (i3 : P.recurses f = c.recurses) (i4 : P.varsNamed f = c.named)
    (rest : (c.wf (OpenSpec.ofChange s) && fn.params.all (P.readableRec ·) && namedTie P c.named s.vars && (c.stops == []) && (c.knobs == []) &&
      (c.maps == (fn.params.toList ++ s.plain.varTypes P).any (P.mapsRec ·)) && (c.ifaces == (fn.params.toList ++ s.plain.varTypes P).any (P.ifacesRec ·)) && (c.mapsOut == P.mapsAmong fn.resultTypes.toList) &&
      (c.loops == (fn.params.toList ++ s.plain.varTypes P).any (P.loopsFrom ·)) && (c.wideKeys == (fn.params.toList ++ s.plain.varTypes P ++ fn.resultTypes.toList).any (P.wideKeysFrom ·)) &&
      s.vars.all (P.varReadable ·) && fn.resultTypes.all (fun t => P.readableRec t && decide (t < P.types.size)) && (c.ifacesOut == fn.resultTypes.toList.any (P.ifacesRec ·)) && (c.loopsOut == fn.resultTypes.toList.any (P.loopsFrom ·)) && c.shortTexts.isNone && (c.lifted == false) && (some Make.cut == some c.make) &&
      (c.kinds == (if c.domain.isEmpty then [] else fn.params.toList.map fun t => match P.underlying t with | some (.int k) => some k | _ => none)) && (c.pinned == c.pinnedBy) &&
      (c.veiled == (fn.params.toList ++ s.plain.varTypes P ++ fn.resultTypes.toList).any (P.veiledRec ·)) && c.veiledFits P fn.params.toList (fn.params.toList ++ s.plain.varTypes P ++ fn.resultTypes.toList)) = true) : joinedFacts P f fn s c = true := by
  simp only [Bool.and_eq_true] at rest
  unfold joinedFacts
  rw [hm, hl, he, h2, h3, hst, hk, hp, hh, i1, i2, i3, i4]
  simp only [beq_self_eq_true, Bool.and_eq_true, Bool.and_true]
  have hkd := rest.1.1.1.2
  simp only [rest, and_self]
  exact ⟨⟨⟨⟨trivial, hkd⟩, trivial⟩, trivial⟩, trivial⟩
end Go.Proofs.Ytpjpaipkkcengaa
namespace Go.Proofs.Ytpjpaipkkcengaa
def ioS : List Nat := [100, 48, 57, 50, 100, 97, 48, 97, 54, 97, 55, 100, 53, 57, 52, 54, 49, 55, 55, 54, 97, 100, 97, 57, 51, 55, 57, 99, 56, 99, 48, 52, 48, 49, 53, 50, 101, 49, 49, 53, 100, 53, 101, 56, 49, 97, 53, 50, 100, 101, 51, 52, 101, 102, 50, 102, 52, 51, 97, 56, 49, 98, 97, 56]
def ioB : List Nat := [97, 116, 32, 104, 97, 110, 100, 99, 97, 114, 116, 47, 104, 97, 110, 100, 99, 97, 114, 116, 108, 97, 119, 49, 50, 46, 86, 101, 99, 67, 111, 117, 110, 116, 115, 32, 104, 97, 110, 100, 99, 97, 114, 116, 47, 104, 97, 110, 100, 99, 97, 114, 116, 108, 97, 119, 48, 55, 46, 87, 105, 114, 101, 66, 97, 99, 107, 32, 104, 97, 110, 100, 99, 97, 114, 116, 47, 104, 97, 110, 100, 99, 97, 114, 116, 108, 97, 119, 48, 56, 46, 75, 101, 121, 82, 101, 97, 100, 115, 32, 104, 97, 110, 100, 99, 97, 114, 116, 47, 104, 97, 110, 100, 99, 97, 114, 116, 108, 97, 119, 48, 56, 46, 75, 101, 121, 66, 97, 99, 107, 32, 104, 97, 110, 100, 99, 97, 114, 116, 47, 104, 97, 110, 100, 99, 97, 114, 116, 108, 97, 119, 48, 57, 46, 65, 116, 111, 109, 66, 97, 99, 107, 32, 104, 97, 110, 100, 99, 97, 114, 116, 47, 104, 97, 110, 100, 99, 97, 114, 116, 108, 97, 119, 51, 52, 46, 66, 111, 117, 110, 100, 65, 116, 111, 109, 115, 32, 104, 97, 110, 100, 99, 97, 114, 116, 47, 104, 97, 110, 100, 99, 97, 114, 116, 108, 97, 119, 50, 55, 46, 70, 114, 97, 109, 101, 82, 101, 97, 100, 115, 32, 104, 97, 110, 100, 99, 97, 114, 116, 47, 104, 97, 110, 100, 99, 97, 114, 116, 108, 97, 119, 50, 55, 46, 70, 114, 97, 109, 101, 84, 117, 114, 110, 101, 100, 32, 104, 97, 110, 100, 99, 97, 114, 116, 47, 104, 97, 110, 100, 99, 97, 114, 116, 108, 97, 119, 50, 55, 46, 70, 114, 97, 109, 101, 66, 97, 99, 107, 32, 104, 97, 110, 100, 99, 97, 114, 116, 47, 104, 97, 110, 100, 99, 97, 114, 116, 108, 97, 119, 50, 55, 46, 70, 114, 97, 109, 101, 67, 111, 100, 101, 115, 32, 104, 97, 110, 100, 99, 97, 114, 116, 47, 104, 97, 110, 100, 99, 97, 114, 116, 108, 97, 119, 49, 51, 46, 68, 111, 116, 115, 65, 100, 100, 115, 32, 104, 97, 110, 100, 99, 97, 114, 116, 47, 104, 97, 110, 100, 99, 97, 114, 116, 108, 97, 119, 49, 51, 46, 68, 111, 116, 115, 65, 108, 111, 110, 101, 32, 104, 97, 110, 100, 99, 97, 114, 116, 47, 104, 97, 110, 100, 99, 97, 114, 116, 108, 97, 119, 49, 51, 46, 68, 111, 116, 115, 74, 111, 105, 110, 115, 32, 104, 97, 110, 100, 99, 97, 114, 116, 47, 104, 97, 110, 100, 99, 97, 114, 116, 108, 97, 119, 49, 48, 46, 76, 97, 116, 65, 108, 108, 32, 104, 97, 110, 100, 99, 97, 114, 116, 47, 104, 97, 110, 100, 99, 97, 114, 116, 108, 97, 119, 49, 48, 46, 76, 97, 116, 78, 111, 114, 109, 115, 32, 104, 97, 110, 100, 99, 97, 114, 116, 47, 104, 97, 110, 100, 99, 97, 114, 116, 108, 97, 119, 49, 48, 46, 76, 97, 116, 74, 111, 105, 110, 115, 32, 104, 97, 110, 100, 99, 97, 114, 116, 47, 104, 97, 110, 100, 99, 97, 114, 116, 108, 97, 119, 49, 48, 46, 76, 97, 116, 76, 101, 97, 115, 116]
theorem io_eq : Try.prog.initOrder = String.ofList ("harness".toList ++ Char.ofNat 32 :: (ioS.map Char.ofNat ++ Char.ofNat 32 :: ("cut".toList ++ Char.ofNat 32 :: ioB.map Char.ofNat))) := by kernel_rfl
theorem io_sum : isSumSigns (ioS.map Char.ofNat) = true := by kernel_rfl
theorem io_hd : ∃ R, behindMainWord (wordsSigns Try.prog.initOrder.toList) = "cut".toList :: R := head_words io_eq io_sum (by decide)
theorem p_make : Try.prog.make = some .cut := make_of io_hd
theorem p_lifts : Try.prog.liftsFinal = false := lifts_of io_hd
theorem p_ll : Try.prog.laysLater = false := by kernel_rfl
theorem p_br : Try.prog.bearsReflect = false := by kernel_rfl
theorem p_df : Try.prog.doorFits [] = true := by kernel_rfl
theorem p_enter : Try.prog.mayEnter = true := enter_of io_hd p_ll p_br p_df
theorem p_rowed : mapsRowed Try.prog = true := by kernel_rfl
theorem p_stops : (Try.prog.stops == []) = true := by kernel_rfl
theorem p_knobs : (Try.prog.stopKnobs == []) = true := by kernel_rfl
theorem p_keys : Try.prog.plainKeys = false := by kernel_rfl
theorem p_heard : Try.prog.stopsHeard = true := by kernel_rfl
end Go.Proofs.Ytpjpaipkkcengaa
