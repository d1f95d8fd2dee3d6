/- Rules, plain words and walks that the claim leans on: Cn, Pkey, Ck, Cl, Cp, Patom, Cx, Cy, Cz, Da. -/
import Derived.Test.YtffmanidnlbjjaaZChunkFewest1
set_option linter.unusedSimpArgs false
set_option linter.unusedVariables false
set_option linter.unusedSimpArgs false
set_option linter.unusedVariables false
set_option maxHeartbeats 800000
set_option maxRecDepth 100000
namespace Go.Proofs.Ytffmanidnlbjjaa
open Go.RowKit
theorem c_nameLetter (b : Int) (hb : 0 ≤ b ∧ b ≤ 255)  (w0 : World) :
    CallR Try.prog 90 #[.int .u8 b] w0 fun v w' => v = .bool (isLet b) ∧ Ext w0 w' := by
 have hS : St NoB w0 w0 [] := St.start w0
 refine c_enter (l := [.int .u8 b, undef, undef, undef, undef, undef, undef, undef, undef]) Try.func90 rfl (by simp only [Try.ntmps90, List.size_toArray, List.length_cons, List.length_nil, Nat.reduceAdd, Nat.reduceSub, Array.replicate_succ, Array.replicate_zero, List.push_toArray, List.append_toArray, List.nil_append, List.cons_append]) ?_
 refine x_seq fun K1 hK1 => ?_
 refine x_region ?_
 refine s_go (s_assign) ?_
 try simp only [opv, n1, n2, n3, n4, Value.cells]
 refine x_nil ?_
 refine hK1 _ _ ?_
 refine x_seq fun K2 hK2 => ?_
 refine x_region ?_
 refine s_go (s_move) ?_
 try simp only [opv, n1, n2, n3, n4, Value.cells]
 refine s_go (s_leq) ?_
 try simp only [opv, n1, n2, n3, n4, Value.cells]
 refine s_go (s_move) ?_
 try simp only [opv, n1, n2, n3, n4, Value.cells]
 refine s_part 5 rfl (fun hp1 => ?_) (fun hp1 => ?_)
 ·
  try simp only [n3, n4]
  try simp only [decide_eq_true_eq, decide_eq_false_iff_not, Bool.not_eq_true', Bool.not_eq_false', Int.not_lt, Int.not_le, ne_eq, Decidable.not_not] at hp1
  refine g_on (yi (t := 5) rfl rfl) ?_
  refine s_go (s_move) ?_
  try simp only [opv, n1, n2, n3, n4, Value.cells]
  refine g_on (yi (t := 5) rfl rfl) ?_
  refine s_go (s_leq) ?_
  try simp only [opv, n1, n2, n3, n4, Value.cells]
  refine s_go (s_pick_t) ?_
  try simp only [opv, n1, n2, n3, n4, Value.cells]
  refine s_go (s_assign) ?_
  try simp only [opv, n1, n2, n3, n4, Value.cells]
  refine x_nil ?_
  refine hK2 _ _ ?_
  refine x_ret ?_
  refine r_tmp rfl ?_
  exact ⟨congrArg Value.bool (by unfold isLet; (simp [*]; done)), hS.ext_of⟩
 ·
  try simp only [n3, n4]
  try simp only [decide_eq_true_eq, decide_eq_false_iff_not, Bool.not_eq_true', Bool.not_eq_false', Int.not_lt, Int.not_le, ne_eq, Decidable.not_not] at hp1
  refine g_off (yi (t := 5) rfl rfl) ?_
  try simp only [opv, n1, n2, n3, n4, Value.cells]
  refine g_off (yi (t := 5) rfl rfl) ?_
  try simp only [opv, n1, n2, n3, n4, Value.cells]
  refine s_go (s_pick_f) ?_
  try simp only [opv, n1, n2, n3, n4, Value.cells]
  refine s_go (s_assign) ?_
  try simp only [opv, n1, n2, n3, n4, Value.cells]
  refine x_nil ?_
  refine hK2 _ _ ?_
  refine x_ret ?_
  refine r_tmp rfl ?_
  exact ⟨congrArg Value.bool (by unfold isLet; (simp; omega)), hS.ext_of⟩
theorem c_ref06Letter (b : Int) (hb : 0 ≤ b ∧ b ≤ 255)  (w0 : World) :
    CallR Try.prog 97 #[.int .u8 b] w0 fun v w' => v = .bool (isLet b) ∧ Ext w0 w' := by
 have hS : St NoB w0 w0 [] := St.start w0
 refine c_enter (l := [.int .u8 b, undef, undef, undef, undef, undef, undef, undef, undef]) Try.func97 rfl (by simp only [Try.ntmps97, List.size_toArray, List.length_cons, List.length_nil, Nat.reduceAdd, Nat.reduceSub, Array.replicate_succ, Array.replicate_zero, List.push_toArray, List.append_toArray, List.nil_append, List.cons_append]) ?_
 refine x_seq fun K1 hK1 => ?_
 refine x_region ?_
 refine s_go (s_assign) ?_
 try simp only [opv, n1, n2, n3, n4, Value.cells]
 refine x_nil ?_
 refine hK1 _ _ ?_
 refine x_seq fun K2 hK2 => ?_
 refine x_region ?_
 refine s_go (s_move) ?_
 try simp only [opv, n1, n2, n3, n4, Value.cells]
 refine s_go (s_geq) ?_
 try simp only [opv, n1, n2, n3, n4, Value.cells]
 refine s_go (s_move) ?_
 try simp only [opv, n1, n2, n3, n4, Value.cells]
 refine s_part 5 rfl (fun hp1 => ?_) (fun hp1 => ?_)
 ·
  try simp only [n3, n4]
  try simp only [decide_eq_true_eq, decide_eq_false_iff_not, Bool.not_eq_true', Bool.not_eq_false', Int.not_lt, Int.not_le, ne_eq, Decidable.not_not] at hp1
  refine g_on (yi (t := 5) rfl rfl) ?_
  refine s_go (s_move) ?_
  try simp only [opv, n1, n2, n3, n4, Value.cells]
  refine g_on (yi (t := 5) rfl rfl) ?_
  refine s_go (s_leq) ?_
  try simp only [opv, n1, n2, n3, n4, Value.cells]
  refine s_go (s_pick_t) ?_
  try simp only [opv, n1, n2, n3, n4, Value.cells]
  refine s_go (s_assign) ?_
  try simp only [opv, n1, n2, n3, n4, Value.cells]
  refine x_nil ?_
  refine hK2 _ _ ?_
  refine x_ret ?_
  refine r_tmp rfl ?_
  exact ⟨congrArg Value.bool (by unfold isLet; (simp [*]; done)), hS.ext_of⟩
 ·
  try simp only [n3, n4]
  try simp only [decide_eq_true_eq, decide_eq_false_iff_not, Bool.not_eq_true', Bool.not_eq_false', Int.not_lt, Int.not_le, ne_eq, Decidable.not_not] at hp1
  refine g_off (yi (t := 5) rfl rfl) ?_
  try simp only [opv, n1, n2, n3, n4, Value.cells]
  refine g_off (yi (t := 5) rfl rfl) ?_
  try simp only [opv, n1, n2, n3, n4, Value.cells]
  refine s_go (s_pick_f) ?_
  try simp only [opv, n1, n2, n3, n4, Value.cells]
  refine s_go (s_assign) ?_
  try simp only [opv, n1, n2, n3, n4, Value.cells]
  refine x_nil ?_
  refine hK2 _ _ ?_
  refine x_ret ?_
  refine r_tmp rfl ?_
  exact ⟨congrArg Value.bool (by unfold isLet; (simp; omega)), hS.ext_of⟩
theorem c_nameOther (b : Int) (hb : 0 ≤ b ∧ b ≤ 255)  (w0 : World) :
    CallR Try.prog 92 #[.int .u8 b] w0 fun v w' => v = .bool (isOth b) ∧ Ext w0 w' := by
 have hS : St NoB w0 w0 [] := St.start w0
 refine c_enter (l := [.int .u8 b, undef, undef, undef, undef, undef, undef, undef, undef, undef, undef, undef, undef, undef]) Try.func92 rfl (by simp only [Try.ntmps92, List.size_toArray, List.length_cons, List.length_nil, Nat.reduceAdd, Nat.reduceSub, Array.replicate_succ, Array.replicate_zero, List.push_toArray, List.append_toArray, List.nil_append, List.cons_append]) ?_
 refine x_seq fun K1 hK1 => ?_
 refine x_region ?_
 refine s_go (s_assign) ?_
 try simp only [opv, n1, n2, n3, n4, Value.cells]
 refine x_nil ?_
 refine hK1 _ _ ?_
 refine x_seq fun K2 hK2 => ?_
 refine x_block ?_
 refine x_seq fun K3 hK3 => ?_
 refine x_seq fun K4 hK4 => ?_
 refine x_region ?_
 refine s_go (s_move) ?_
 try simp only [opv, n1, n2, n3, n4, Value.cells]
 refine s_call en90 ?_
 try simp only [opv, n1, n2, n3, n4, Value.cells, List.map_toArray, List.map_cons, List.map_nil, List.append_toArray, List.cons_append, List.nil_append, Array.append_empty]
 refine CallR.mono (c_nameLetter _ (by assumption) _) ?_
 rintro _ w1 ⟨rfl, hE1⟩
 replace hS := hS.ext hE1
 try simp only [opv, n1, n2, n3, n4, Value.cells]
 unfold isLet
 refine s_go (s_assign) ?_
 try simp only [opv, n1, n2, n3, n4, Value.cells]
 refine x_nil ?_
 refine hK4 _ _ ?_
 refine x_cond (ht := fun hc1 => ?_) (hf := fun hc1 => ?_)
 ·
  try simp only [decide_eq_true_eq, decide_eq_false_iff_not, Bool.not_eq_true', Bool.not_eq_false', Int.not_lt, Int.not_le, ne_eq, Decidable.not_not, bne_iff_ne, beq_iff_eq, not_true_eq_false, not_false_eq_true] at hc1
  refine x_skip ?_
  refine hK3 _ _ ?_
  refine x_cond (ht := fun hc2 => ?_) (hf := fun hc2 => ?_)
  ·
   try simp only [decide_eq_true_eq, decide_eq_false_iff_not, Bool.not_eq_true', Bool.not_eq_false', Int.not_lt, Int.not_le, ne_eq, Decidable.not_not, bne_iff_ne, beq_iff_eq, not_true_eq_false, not_false_eq_true] at hc2
   refine x_seq fun K5 hK5 => ?_
   refine x_region ?_
   refine s_go (s_assign) ?_
   try simp only [opv, n1, n2, n3, n4, Value.cells]
   refine x_nil ?_
   refine hK5 _ _ ?_
   refine x_ret ?_
   refine r_tmp rfl ?_
   exact ⟨congrArg Value.bool (by unfold isOth; exact (decide_eq_true (by omega)).symm), hS.ext_of⟩
  ·
   try simp only [decide_eq_true_eq, decide_eq_false_iff_not, Bool.not_eq_true', Bool.not_eq_false', Int.not_lt, Int.not_le, ne_eq, Decidable.not_not, bne_iff_ne, beq_iff_eq, not_true_eq_false, not_false_eq_true] at hc2
   (exfalso; omega)
 ·
  try simp only [decide_eq_true_eq, decide_eq_false_iff_not, Bool.not_eq_true', Bool.not_eq_false', Int.not_lt, Int.not_le, ne_eq, Decidable.not_not, bne_iff_ne, beq_iff_eq, not_true_eq_false, not_false_eq_true] at hc1
  refine x_seq fun K7 hK7 => ?_
  refine x_region ?_
  refine s_go (s_move) ?_
  try simp only [opv, n1, n2, n3, n4, Value.cells]
  refine s_go (s_leq) ?_
  try simp only [opv, n1, n2, n3, n4, Value.cells]
  refine s_go (s_move) ?_
  try simp only [opv, n1, n2, n3, n4, Value.cells]
  refine s_part 8 rfl (fun hp1 => ?_) (fun hp1 => ?_)
  ·
   try simp only [n3, n4]
   try simp only [decide_eq_true_eq, decide_eq_false_iff_not, Bool.not_eq_true', Bool.not_eq_false', Int.not_lt, Int.not_le, ne_eq, Decidable.not_not] at hp1
   refine g_on (yi (t := 8) rfl rfl) ?_
   refine s_go (s_move) ?_
   try simp only [opv, n1, n2, n3, n4, Value.cells]
   refine g_on (yi (t := 8) rfl rfl) ?_
   refine s_go (s_leq) ?_
   try simp only [opv, n1, n2, n3, n4, Value.cells]
   refine s_go (s_pick_t) ?_
   try simp only [opv, n1, n2, n3, n4, Value.cells]
   refine s_go (s_assign) ?_
   try simp only [opv, n1, n2, n3, n4, Value.cells]
   refine x_nil ?_
   refine hK7 _ _ ?_
   refine x_cond (ht := fun hc3 => ?_) (hf := fun hc3 => ?_)
   ·
    try simp only [decide_eq_true_eq, decide_eq_false_iff_not, Bool.not_eq_true', Bool.not_eq_false', Int.not_lt, Int.not_le, ne_eq, Decidable.not_not, bne_iff_ne, beq_iff_eq, not_true_eq_false, not_false_eq_true] at hc3
    refine x_skip ?_
    refine hK3 _ _ ?_
    refine x_cond (ht := fun hc4 => ?_) (hf := fun hc4 => ?_)
    ·
     try simp only [decide_eq_true_eq, decide_eq_false_iff_not, Bool.not_eq_true', Bool.not_eq_false', Int.not_lt, Int.not_le, ne_eq, Decidable.not_not, bne_iff_ne, beq_iff_eq, not_true_eq_false, not_false_eq_true] at hc4
     refine x_seq fun K8 hK8 => ?_
     refine x_region ?_
     refine s_go (s_assign) ?_
     try simp only [opv, n1, n2, n3, n4, Value.cells]
     refine x_nil ?_
     refine hK8 _ _ ?_
     refine x_ret ?_
     refine r_tmp rfl ?_
     exact ⟨congrArg Value.bool (by unfold isOth; exact (decide_eq_true (by omega)).symm), hS.ext_of⟩
    ·
     try simp only [decide_eq_true_eq, decide_eq_false_iff_not, Bool.not_eq_true', Bool.not_eq_false', Int.not_lt, Int.not_le, ne_eq, Decidable.not_not, bne_iff_ne, beq_iff_eq, not_true_eq_false, not_false_eq_true] at hc4
     (exfalso; omega)
   ·
    try simp only [decide_eq_true_eq, decide_eq_false_iff_not, Bool.not_eq_true', Bool.not_eq_false', Int.not_lt, Int.not_le, ne_eq, Decidable.not_not, bne_iff_ne, beq_iff_eq, not_true_eq_false, not_false_eq_true] at hc3
    refine x_region ?_
    refine s_go (s_move) ?_
    try simp only [opv, n1, n2, n3, n4, Value.cells]
    refine s_go (s_eql) ?_
    try simp only [opv, n1, n2, n3, n4, Value.cells]
    refine s_go (s_assign) ?_
    try simp only [opv, n1, n2, n3, n4, Value.cells]
    refine x_nil ?_
    refine hK3 _ _ ?_
    refine x_cond (ht := fun hc5 => ?_) (hf := fun hc5 => ?_)
    ·
     try simp only [decide_eq_true_eq, decide_eq_false_iff_not, Bool.not_eq_true', Bool.not_eq_false', Int.not_lt, Int.not_le, ne_eq, Decidable.not_not, bne_iff_ne, beq_iff_eq, not_true_eq_false, not_false_eq_true] at hc5
     (exfalso; omega)
    ·
     try simp only [decide_eq_true_eq, decide_eq_false_iff_not, Bool.not_eq_true', Bool.not_eq_false', Int.not_lt, Int.not_le, ne_eq, Decidable.not_not, bne_iff_ne, beq_iff_eq, not_true_eq_false, not_false_eq_true] at hc5
     refine x_skip ?_
     refine hK2 _ _ ?_
     refine x_seq fun K11 hK11 => ?_
     refine x_region ?_
     refine s_go (s_assign) ?_
     try simp only [opv, n1, n2, n3, n4, Value.cells]
     refine x_nil ?_
     refine hK11 _ _ ?_
     refine x_ret ?_
     refine r_tmp rfl ?_
     exact ⟨congrArg Value.bool (by unfold isOth; exact (decide_eq_false (by omega)).symm), hS.ext_of⟩
  ·
   try simp only [n3, n4]
   try simp only [decide_eq_true_eq, decide_eq_false_iff_not, Bool.not_eq_true', Bool.not_eq_false', Int.not_lt, Int.not_le, ne_eq, Decidable.not_not] at hp1
   refine g_off (yi (t := 8) rfl rfl) ?_
   try simp only [opv, n1, n2, n3, n4, Value.cells]
   refine g_off (yi (t := 8) rfl rfl) ?_
   try simp only [opv, n1, n2, n3, n4, Value.cells]
   refine s_go (s_pick_f) ?_
   try simp only [opv, n1, n2, n3, n4, Value.cells]
   refine s_go (s_assign) ?_
   try simp only [opv, n1, n2, n3, n4, Value.cells]
   refine x_nil ?_
   refine hK7 _ _ ?_
   refine x_cond_f (h := ?_)
   refine x_region ?_
   refine s_go (s_move) ?_
   try simp only [opv, n1, n2, n3, n4, Value.cells]
   refine s_go (s_eql) ?_
   try simp only [opv, n1, n2, n3, n4, Value.cells]
   refine s_go (s_assign) ?_
   try simp only [opv, n1, n2, n3, n4, Value.cells]
   refine x_nil ?_
   refine hK3 _ _ ?_
   refine x_cond (ht := fun hc7 => ?_) (hf := fun hc7 => ?_)
   ·
    try simp only [decide_eq_true_eq, decide_eq_false_iff_not, Bool.not_eq_true', Bool.not_eq_false', Int.not_lt, Int.not_le, ne_eq, Decidable.not_not, bne_iff_ne, beq_iff_eq, not_true_eq_false, not_false_eq_true] at hc7
    refine x_seq fun K12 hK12 => ?_
    refine x_region ?_
    refine s_go (s_assign) ?_
    try simp only [opv, n1, n2, n3, n4, Value.cells]
    refine x_nil ?_
    refine hK12 _ _ ?_
    refine x_ret ?_
    refine r_tmp rfl ?_
    exact ⟨congrArg Value.bool (by unfold isOth; exact (decide_eq_true (by omega)).symm), hS.ext_of⟩
   ·
    try simp only [decide_eq_true_eq, decide_eq_false_iff_not, Bool.not_eq_true', Bool.not_eq_false', Int.not_lt, Int.not_le, ne_eq, Decidable.not_not, bne_iff_ne, beq_iff_eq, not_true_eq_false, not_false_eq_true] at hc7
    refine x_skip ?_
    refine hK2 _ _ ?_
    refine x_seq fun K13 hK13 => ?_
    refine x_region ?_
    refine s_go (s_assign) ?_
    try simp only [opv, n1, n2, n3, n4, Value.cells]
    refine x_nil ?_
    refine hK13 _ _ ?_
    refine x_ret ?_
    refine r_tmp rfl ?_
    exact ⟨congrArg Value.bool (by unfold isOth; exact (decide_eq_false (by omega)).symm), hS.ext_of⟩
theorem c_nameZero (b : Int) (hb : 0 ≤ b ∧ b ≤ 255)  (w0 : World) :
    CallR Try.prog 93 #[.int .u8 b] w0 fun v w' => v = .bool (isZer b) ∧ Ext w0 w' := by
 have hS : St NoB w0 w0 [] := St.start w0
 refine c_enter (l := [.int .u8 b, undef, undef, undef, undef]) Try.func93 rfl (by simp only [Try.ntmps93, List.size_toArray, List.length_cons, List.length_nil, Nat.reduceAdd, Nat.reduceSub, Array.replicate_succ, Array.replicate_zero, List.push_toArray, List.append_toArray, List.nil_append, List.cons_append]) ?_
 refine x_seq fun K1 hK1 => ?_
 refine x_region ?_
 refine s_go (s_assign) ?_
 try simp only [opv, n1, n2, n3, n4, Value.cells]
 refine x_nil ?_
 refine hK1 _ _ ?_
 refine x_seq fun K2 hK2 => ?_
 refine x_region ?_
 refine s_go (s_move) ?_
 try simp only [opv, n1, n2, n3, n4, Value.cells]
 refine s_go (s_eql) ?_
 try simp only [opv, n1, n2, n3, n4, Value.cells]
 refine s_go (s_assign) ?_
 try simp only [opv, n1, n2, n3, n4, Value.cells]
 refine x_nil ?_
 refine hK2 _ _ ?_
 refine x_ret ?_
 refine r_tmp rfl ?_
 exact ⟨rfl, hS.ext_of⟩
theorem c_ref06Other (b : Int) (hb : 0 ≤ b ∧ b ≤ 255)  (w0 : World) :
    CallR Try.prog 98 #[.int .u8 b] w0 fun v w' => v = .bool (isOth b) ∧ Ext w0 w' := by
 have hS : St NoB w0 w0 [] := St.start w0
 refine c_enter (l := [.int .u8 b, undef, undef, undef, undef, undef, undef, undef, undef, undef, undef, undef, undef, undef, undef, undef, undef]) Try.func98 rfl (by simp only [Try.ntmps98, List.size_toArray, List.length_cons, List.length_nil, Nat.reduceAdd, Nat.reduceSub, Array.replicate_succ, Array.replicate_zero, List.push_toArray, List.append_toArray, List.nil_append, List.cons_append]) ?_
 refine x_seq fun K1 hK1 => ?_
 refine x_region ?_
 refine s_go (s_assign) ?_
 try simp only [opv, n1, n2, n3, n4, Value.cells]
 refine x_nil ?_
 refine hK1 _ _ ?_
 refine x_seq fun K2 hK2 => ?_
 refine x_region ?_
 refine s_go (s_move) ?_
 try simp only [opv, n1, n2, n3, n4, Value.cells]
 refine s_call en97 ?_
 try simp only [opv, n1, n2, n3, n4, Value.cells, List.map_toArray, List.map_cons, List.map_nil, List.append_toArray, List.cons_append, List.nil_append, Array.append_empty]
 refine CallR.mono (c_ref06Letter _ (by assumption) _) ?_
 rintro _ w1 ⟨rfl, hE1⟩
 replace hS := hS.ext hE1
 try simp only [opv, n1, n2, n3, n4, Value.cells]
 unfold isLet
 refine s_go (s_move) ?_
 try simp only [opv, n1, n2, n3, n4, Value.cells]
 refine s_part 5 rfl (fun hp1 => ?_) (fun hp1 => ?_)
 ·
  try simp only [n3, n4]
  try simp only [decide_eq_true_eq, decide_eq_false_iff_not, Bool.not_eq_true', Bool.not_eq_false', Int.not_lt, Int.not_le, ne_eq, Decidable.not_not] at hp1
  refine g_off (yi (t := 5) rfl rfl) ?_
  try simp only [opv, n1, n2, n3, n4, Value.cells]
  refine g_off (yi (t := 5) rfl rfl) ?_
  try simp only [opv, n1, n2, n3, n4, Value.cells]
  refine g_off (yi (t := 5) rfl rfl) ?_
  try simp only [opv, n1, n2, n3, n4, Value.cells]
  refine g_un (yn (t := 8) rfl rfl) ?_
  try simp only [opv, n1, n2, n3, n4, Value.cells]
  refine g_un (yn (t := 8) rfl rfl) ?_
  try simp only [opv, n1, n2, n3, n4, Value.cells]
  refine g_off (yi (t := 5) rfl rfl) ?_
  try simp only [opv, n1, n2, n3, n4, Value.cells]
  refine s_go (s_pick_t) ?_
  try simp only [opv, n1, n2, n3, n4, Value.cells]
  refine s_go (s_move) ?_
  try simp only [opv, n1, n2, n3, n4, Value.cells]
  refine g_off (yi (t := 13) rfl rfl) ?_
  try simp only [opv, n1, n2, n3, n4, Value.cells]
  refine g_off (yi (t := 13) rfl rfl) ?_
  try simp only [opv, n1, n2, n3, n4, Value.cells]
  refine s_go (s_pick_t) ?_
  try simp only [opv, n1, n2, n3, n4, Value.cells]
  refine s_go (s_assign) ?_
  try simp only [opv, n1, n2, n3, n4, Value.cells]
  refine x_nil ?_
  refine hK2 _ _ ?_
  refine x_ret ?_
  refine r_tmp rfl ?_
  exact ⟨congrArg Value.bool (by unfold isOth; exact (decide_eq_true (by omega)).symm), hS.ext_of⟩
 ·
  try simp only [n3, n4]
  try simp only [decide_eq_true_eq, decide_eq_false_iff_not, Bool.not_eq_true', Bool.not_eq_false', Int.not_lt, Int.not_le, ne_eq, Decidable.not_not] at hp1
  refine g_on (yi (t := 5) rfl rfl) ?_
  refine s_go (s_move) ?_
  try simp only [opv, n1, n2, n3, n4, Value.cells]
  refine g_on (yi (t := 5) rfl rfl) ?_
  refine s_go (s_geq) ?_
  try simp only [opv, n1, n2, n3, n4, Value.cells]
  refine g_on (yi (t := 5) rfl rfl) ?_
  refine s_go (s_move) ?_
  try simp only [opv, n1, n2, n3, n4, Value.cells]
  refine s_part 8 rfl (fun hp2 => ?_) (fun hp2 => ?_)
  ·
   try simp only [n3, n4]
   try simp only [decide_eq_true_eq, decide_eq_false_iff_not, Bool.not_eq_true', Bool.not_eq_false', Int.not_lt, Int.not_le, ne_eq, Decidable.not_not] at hp2
   refine g_on (yi (t := 8) rfl rfl) ?_
   refine s_go (s_move) ?_
   try simp only [opv, n1, n2, n3, n4, Value.cells]
   refine g_on (yi (t := 8) rfl rfl) ?_
   refine s_go (s_leq) ?_
   try simp only [opv, n1, n2, n3, n4, Value.cells]
   refine g_on (yi (t := 5) rfl rfl) ?_
   refine s_go (s_pick_t) ?_
   try simp only [opv, n1, n2, n3, n4, Value.cells]
   refine s_go (s_pick_f) ?_
   try simp only [opv, n1, n2, n3, n4, Value.cells]
   refine s_go (s_move) ?_
   try simp only [opv, n1, n2, n3, n4, Value.cells]
   refine s_part 13 rfl (fun hp3 => ?_) (fun hp3 => ?_)
   ·
    try simp only [n3, n4]
    try simp only [decide_eq_true_eq, decide_eq_false_iff_not, Bool.not_eq_true', Bool.not_eq_false', Int.not_lt, Int.not_le, ne_eq, Decidable.not_not] at hp3
    refine g_off (yi (t := 13) rfl rfl) ?_
    try simp only [opv, n1, n2, n3, n4, Value.cells]
    refine g_off (yi (t := 13) rfl rfl) ?_
    try simp only [opv, n1, n2, n3, n4, Value.cells]
    refine s_go (s_pick_t) ?_
    try simp only [opv, n1, n2, n3, n4, Value.cells]
    refine s_go (s_assign) ?_
    try simp only [opv, n1, n2, n3, n4, Value.cells]
    refine x_nil ?_
    refine hK2 _ _ ?_
    refine x_ret ?_
    refine r_tmp rfl ?_
    exact ⟨congrArg Value.bool (by unfold isOth; exact (decide_eq_true (by omega)).symm), hS.ext_of⟩
   ·
    try simp only [n3, n4]
    try simp only [decide_eq_true_eq, decide_eq_false_iff_not, Bool.not_eq_true', Bool.not_eq_false', Int.not_lt, Int.not_le, ne_eq, Decidable.not_not] at hp3
    refine g_on (yi (t := 13) rfl rfl) ?_
    refine s_go (s_move) ?_
    try simp only [opv, n1, n2, n3, n4, Value.cells]
    refine g_on (yi (t := 13) rfl rfl) ?_
    refine s_go (s_eql) ?_
    try simp only [opv, n1, n2, n3, n4, Value.cells]
    refine s_go (s_pick_f) ?_
    try simp only [opv, n1, n2, n3, n4, Value.cells]
    refine s_go (s_assign) ?_
    try simp only [opv, n1, n2, n3, n4, Value.cells]
    refine x_nil ?_
    refine hK2 _ _ ?_
    refine x_ret ?_
    refine r_tmp rfl ?_
    exact ⟨congrArg Value.bool (by unfold isOth; exact decide_eq_decide.2 (by omega)), hS.ext_of⟩
  ·
   try simp only [n3, n4]
   try simp only [decide_eq_true_eq, decide_eq_false_iff_not, Bool.not_eq_true', Bool.not_eq_false', Int.not_lt, Int.not_le, ne_eq, Decidable.not_not] at hp2
   refine g_off (yi (t := 8) rfl rfl) ?_
   try simp only [opv, n1, n2, n3, n4, Value.cells]
   refine g_off (yi (t := 8) rfl rfl) ?_
   try simp only [opv, n1, n2, n3, n4, Value.cells]
   refine g_on (yi (t := 5) rfl rfl) ?_
   refine s_go (s_pick_f) ?_
   try simp only [opv, n1, n2, n3, n4, Value.cells]
   refine s_go (s_pick_f) ?_
   try simp only [opv, n1, n2, n3, n4, Value.cells]
   refine s_go (s_move) ?_
   try simp only [opv, n1, n2, n3, n4, Value.cells]
   refine g_on (yi (t := 13) rfl rfl) ?_
   refine s_go (s_move) ?_
   try simp only [opv, n1, n2, n3, n4, Value.cells]
   refine g_on (yi (t := 13) rfl rfl) ?_
   refine s_go (s_eql) ?_
   try simp only [opv, n1, n2, n3, n4, Value.cells]
   refine s_go (s_pick_f) ?_
   try simp only [opv, n1, n2, n3, n4, Value.cells]
   refine s_go (s_assign) ?_
   try simp only [opv, n1, n2, n3, n4, Value.cells]
   refine x_nil ?_
   refine hK2 _ _ ?_
   refine x_ret ?_
   refine r_tmp rfl ?_
   exact ⟨congrArg Value.bool (by unfold isOth; exact decide_eq_decide.2 (by omega)), hS.ext_of⟩
theorem c_nameSize (l : List Int) (hl : l.length = 8) (hw : Byt l)  (w0 : World) :
    CallR Try.prog 89 #[.agg (ic .u8 l)] w0 fun v w' => v = .int .i64 (nsz l : Int) ∧ Ext w0 w' := by
 have hS : St NoB w0 w0 [] := St.start w0
 refine c_enter (l := [.agg (ic .u8 l), undef, undef, undef, undef, undef, undef, undef, undef, undef, undef, undef, undef, undef]) Try.func89 rfl (by simp only [Try.ntmps89, List.size_toArray, List.length_cons, List.length_nil, Nat.reduceAdd, Nat.reduceSub, Array.replicate_succ, Array.replicate_zero, List.push_toArray, List.append_toArray, List.nil_append, List.cons_append]) ?_
 refine x_seq fun K1 hK1 => ?_
 refine x_region ?_
 refine m_box hS (fun w1 g1 hS => ?_)
 try simp only [opv, n1, n2, n3, n4, Value.cells, Array.toArray_toList] at hS ⊢
 refine s_go (s_assign) ?_
 try simp only [opv, n1, n2, n3, n4, Value.cells]
 refine x_nil ?_
 refine hK1 _ _ ?_
 refine x_seq fun K2 hK2 => ?_
 refine x_seq fun K3 hK3 => ?_
 refine x_region ?_
 refine s_go (m_load_row Try.underlying25 (hi := ti25) (hS := hS)) ?_
 try simp only [opv, n1, n2, n3, n4, Value.cells, List.getElem_toArray, List.getElem_cons_zero, List.getElem_cons_succ]
 refine s_go (s_move) ?_
 try simp only [opv, n1, n2, n3, n4, Value.cells]
 refine x_nil ?_
 refine hK3 _ _ ?_
 refine x_block ?_
 refine x_loop [2, 3, 4, 6, 7, 8, 9, 10, 11, 12, 13] (fun m f w => ∃ k : Nat, k ≤ 8 ∧ m = 8 - k ∧ f 6 = .int .i64 (k : Int) ∧ (∀ j, j < k → l.getD j 0 ≠ 0) ∧ St NoB w0 w []) (8) ?init1 (fun m1 f1 wl1 hI => ?_)
 case init1 =>
  try simp only [opv, n1, n2, n3, n4, Value.cells]
  exact ⟨0, by omega, rfl, rfl, fun j hj => absurd hj (by omega), hS.sel .nil⟩
 obtain ⟨k, hk, hm, h6, hz, hS⟩ := hI
 simp only [clob, List.foldl, n3, n4, h6]
 refine x_seq fun K4 hK4 => ?_
 refine x_region ?_
 refine s_go (s_lss) ?_
 try simp only [opv, n1, n2, n3, n4, Value.cells]
 refine x_nil ?_
 refine hK4 _ _ ?_
 refine x_seq fun K5 hK5 => ?_
 refine x_cond (ht := fun hc1 => ?_) (hf := fun hc1 => ?_)
 ·
  try simp only [decide_eq_true_eq, decide_eq_false_iff_not, Bool.not_eq_true', Bool.not_eq_false', Int.not_lt, Int.not_le, ne_eq, Decidable.not_not, bne_iff_ne, beq_iff_eq, not_true_eq_false, not_false_eq_true] at hc1
  refine x_skip ?_
  refine hK5 _ _ ?_
  refine x_seq fun K6 hK6 => ?_
  refine x_block ?_
  refine x_seq fun K7 hK7 => ?_
  refine x_region ?_
  refine s_go (s_move) ?_
  try simp only [opv, n1, n2, n3, n4, Value.cells]
  refine s_go (s_index_one Try.underlying25 ti5 Try.underlying5) ?_
  try simp only [opv, n1, n2, n3, n4, Value.cells, Nat.mul_one, Nat.zero_add, Int.toNat_natCast, Int.reduceToNat]
  refine s_go (s_assign) ?_
  try simp only [opv, n1, n2, n3, n4, Value.cells]
  refine s_go (s_assign) ?_
  try simp only [opv, n1, n2, n3, n4, Value.cells]
  refine x_nil ?_
  refine hK7 _ _ ?_
  refine x_seq fun K8 hK8 => ?_
  refine x_region ?_
  refine s_go (s_move) ?_
  try simp only [opv, n1, n2, n3, n4, Value.cells]
  refine s_go (s_eql) ?_
  try simp only [opv, n1, n2, n3, n4, Value.cells]
  refine x_nil ?_
  refine hK8 _ _ ?_
  refine x_cond (ht := fun hc2 => ?_) (hf := fun hc2 => ?_)
  ·
   try simp only [decide_eq_true_eq, decide_eq_false_iff_not, Bool.not_eq_true', Bool.not_eq_false', Int.not_lt, Int.not_le, ne_eq, Decidable.not_not, bne_iff_ne, beq_iff_eq, not_true_eq_false, not_false_eq_true] at hc2
   refine x_seq fun K9 hK9 => ?_
   refine x_region ?_
   refine s_go (s_move) ?_
   try simp only [opv, n1, n2, n3, n4, Value.cells]
   refine s_go (s_assign) ?_
   try simp only [opv, n1, n2, n3, n4, Value.cells]
   refine x_nil ?_
   refine hK9 _ _ ?_
   refine x_ret ?_
   refine r_tmp rfl ?_
   exact ⟨NU (nsz_of (by omega) hz (.inr hc2)).symm, hS.ext_of⟩
  ·
   try simp only [decide_eq_true_eq, decide_eq_false_iff_not, Bool.not_eq_true', Bool.not_eq_false', Int.not_lt, Int.not_le, ne_eq, Decidable.not_not, bne_iff_ne, beq_iff_eq, not_true_eq_false, not_false_eq_true] at hc2
   refine x_skip ?_
   refine hK6 _ _ ?_
   refine x_region ?_
   refine s_go (s_add (hc := by exact wr_i64 (by omega) (by omega))) ?_
   try simp only [opv, n1, n2, n3, n4, Value.cells]
   refine s_go (s_move) ?_
   try simp only [opv, n1, n2, n3, n4, Value.cells]
   refine x_nil ?_
   refine loop_back (m' := 8 - (k + 1)) (by simp only [clob, List.foldl, n1, n2, n3, n4]) ?_ ?_
   · try simp only [opv, n1, n2, n3, n4, Value.cells]
     exact ⟨k + 1, by omega, by omega, by rfl, fun j hj => by rcases Nat.lt_or_eq_of_le (Nat.le_of_lt_succ hj) with h | h; exact hz j h; subst h; exact hc2, hS⟩
   · omega
 ·
  try simp only [decide_eq_true_eq, decide_eq_false_iff_not, Bool.not_eq_true', Bool.not_eq_false', Int.not_lt, Int.not_le, ne_eq, Decidable.not_not, bne_iff_ne, beq_iff_eq, not_true_eq_false, not_false_eq_true] at hc1
  obtain rfl : k = 8 := by omega
  refine x_exit (look_here ?_)
  refine hK2 _ _ ?_
  refine x_seq fun K10 hK10 => ?_
  refine x_region ?_
  refine s_go (s_assign) ?_
  try simp only [opv, n1, n2, n3, n4, Value.cells]
  refine x_nil ?_
  refine hK10 _ _ ?_
  refine x_ret ?_
  refine r_tmp rfl ?_
  exact ⟨NU (nsz_of (l := l) (k := 8) (by omega) hz (.inl hl.symm)).symm, hS.ext_of⟩
theorem c_nameAll (w0 : World) (A : Option Addr) (n c : Nat) (l : List Int) (hr : Rd w0 A 1 n (l.map (Value.int .u8))) (hl : l.length = n) (hw : Byt l) (hn : n ≤ 1000) (p : Int → Bool) (f : FuncId) (he : Enters Try.prog f) (H : ∀ (w : World) (b : Int), 0 ≤ b ∧ b ≤ 255 → CallR Try.prog f #[.int .u8 b] w fun v w' => v = .bool (p b) ∧ Ext w w') :
    CallR Try.prog 91 #[.slice A n c, .func (.func f) #[] #[]] w0 fun v w' => v = .bool (l.all p) ∧ Ext w0 w' := by
 have hS := St.rd1 (S := NoB) hr
 refine c_enter (l := [.slice A n c, .func (.func f) #[] #[], undef, undef, undef, undef, undef, undef, undef, undef, undef, undef, undef, undef, undef, undef, undef, undef]) Try.func91 rfl (by simp only [Try.ntmps91, List.size_toArray, List.length_cons, List.length_nil, Nat.reduceAdd, Nat.reduceSub, Array.replicate_succ, Array.replicate_zero, List.push_toArray, List.append_toArray, List.nil_append, List.cons_append]) ?_
 refine x_seq fun K1 hK1 => ?_
 refine x_region ?_
 refine s_go (s_assign) ?_
 try simp only [opv, n1, n2, n3, n4, Value.cells]
 refine x_nil ?_
 refine hK1 _ _ ?_
 refine x_seq fun K2 hK2 => ?_
 refine x_seq fun K3 hK3 => ?_
 refine x_region ?_
 refine s_go (s_move) ?_
 try simp only [opv, n1, n2, n3, n4, Value.cells]
 refine s_go (s_len_sl Try.underlying56) ?_
 try simp only [opv, n1, n2, n3, n4, Value.cells]
 refine s_go (s_move) ?_
 try simp only [opv, n1, n2, n3, n4, Value.cells]
 refine x_nil ?_
 refine hK3 _ _ ?_
 refine x_block ?_
 refine x_loop [4, 6, 9, 10, 11, 12, 13, 14, 15, 16, 17] (fun m f w => ∃ k : Nat, k ≤ n ∧ m = n - k ∧ f 9 = .int .i64 (k : Int) ∧ (l.take k).all p = true ∧ St NoB w0 w [.rd A 1 n (l.map (Value.int .u8))]) (n) ?init1 (fun m1 f1 wl1 hI => ?_)
 case init1 =>
  try simp only [opv, n1, n2, n3, n4, Value.cells]
  exact ⟨0, by omega, rfl, rfl, rfl, hS⟩
 obtain ⟨k, hk, hm, h9, hz, hS⟩ := hI
 simp only [clob, List.foldl, n3, n4, h9]
 refine x_seq fun K4 hK4 => ?_
 refine x_region ?_
 refine s_go (s_lss) ?_
 try simp only [opv, n1, n2, n3, n4, Value.cells]
 refine x_nil ?_
 refine hK4 _ _ ?_
 refine x_seq fun K5 hK5 => ?_
 refine x_cond (ht := fun hc1 => ?_) (hf := fun hc1 => ?_)
 ·
  try simp only [decide_eq_true_eq, decide_eq_false_iff_not, Bool.not_eq_true', Bool.not_eq_false', Int.not_lt, Int.not_le, ne_eq, Decidable.not_not, bne_iff_ne, beq_iff_eq, not_true_eq_false, not_false_eq_true] at hc1
  refine x_skip ?_
  refine hK5 _ _ ?_
  refine x_seq fun K6 hK6 => ?_
  refine x_block ?_
  refine x_seq fun K7 hK7 => ?_
  refine x_region ?_
  refine s_go (m_indexAddr_rd Try.underlying56 ti5 (hS := hS)) ?_
  try simp only [opv, n1, n2, n3, n4, Value.cells, Nat.mul_one, Nat.zero_add, Int.toNat_natCast, Int.reduceToNat]
  refine s_go (m_load_rd Try.underlying5 (hS := hS)) ?_
  try simp only [opv, n1, n2, n3, n4, Value.cells, List.getElem_toArray, List.getElem_cons_zero, List.getElem_cons_succ]
  refine s_go (s_assign) ?_
  try simp only [opv, n1, n2, n3, n4, Value.cells]
  refine x_nil ?_
  refine hK7 _ _ ?_
  refine x_seq fun K8 hK8 => ?_
  refine x_region ?_
  refine s_go (s_move) ?_
  try simp only [opv, n1, n2, n3, n4, Value.cells]
  refine s_go (s_move) ?_
  try simp only [opv, n1, n2, n3, n4, Value.cells]
  refine s_callv (hv := rfl) he ?_
  try simp only [opv, n1, n2, n3, n4, Value.cells, List.map_toArray, List.map_cons, List.map_nil, List.append_toArray, List.cons_append, List.nil_append, Array.append_empty]
  refine CallR.mono (H _ _ (hw.get k)) ?_
  rintro _ w1 ⟨rfl, hE1⟩
  replace hS := hS.ext hE1
  try simp only [opv, n1, n2, n3, n4, Value.cells]
  refine s_go (s_not) ?_
  try simp only [opv, n1, n2, n3, n4, Value.cells]
  refine x_nil ?_
  refine hK8 _ _ ?_
  refine x_cond (ht := fun hc2 => ?_) (hf := fun hc2 => ?_)
  ·
   try simp only [decide_eq_true_eq, decide_eq_false_iff_not, Bool.not_eq_true', Bool.not_eq_false', Int.not_lt, Int.not_le, ne_eq, Decidable.not_not, bne_iff_ne, beq_iff_eq, not_true_eq_false, not_false_eq_true] at hc2
   refine x_seq fun K9 hK9 => ?_
   refine x_region ?_
   refine s_go (s_assign) ?_
   try simp only [opv, n1, n2, n3, n4, Value.cells]
   refine x_nil ?_
   refine hK9 _ _ ?_
   refine x_ret ?_
   refine r_tmp rfl ?_
   exact ⟨congrArg Value.bool (all_not hc2 (by omega)).symm, hS.ext_of⟩
  ·
   try simp only [decide_eq_true_eq, decide_eq_false_iff_not, Bool.not_eq_true', Bool.not_eq_false', Int.not_lt, Int.not_le, ne_eq, Decidable.not_not, bne_iff_ne, beq_iff_eq, not_true_eq_false, not_false_eq_true] at hc2
   refine x_skip ?_
   refine hK6 _ _ ?_
   refine x_region ?_
   refine s_go (s_add (hc := by exact wr_i64 (by omega) (by omega))) ?_
   try simp only [opv, n1, n2, n3, n4, Value.cells]
   refine s_go (s_move) ?_
   try simp only [opv, n1, n2, n3, n4, Value.cells]
   refine x_nil ?_
   refine loop_back (m' := n - (k + 1)) (by simp only [clob, List.foldl, n1, n2, n3, n4]) ?_ ?_
   · try simp only [opv, n1, n2, n3, n4, Value.cells]
     exact ⟨k + 1, by omega, by omega, by rfl, by rw [take_succ_getD (by omega), List.all_append, hz]; simpa using hc2, hS⟩
   · omega
 ·
  try simp only [decide_eq_true_eq, decide_eq_false_iff_not, Bool.not_eq_true', Bool.not_eq_false', Int.not_lt, Int.not_le, ne_eq, Decidable.not_not, bne_iff_ne, beq_iff_eq, not_true_eq_false, not_false_eq_true] at hc1
  obtain rfl : k = n := by omega
  rw [← hl, List.take_length] at hz
  refine x_exit (look_here ?_)
  refine hK2 _ _ ?_
  refine x_seq fun K10 hK10 => ?_
  refine x_region ?_
  refine s_go (s_assign) ?_
  try simp only [opv, n1, n2, n3, n4, Value.cells]
  refine x_nil ?_
  refine hK10 _ _ ?_
  refine x_ret ?_
  refine r_tmp rfl ?_
  exact ⟨by rw [hz]; rfl, hS.ext_of⟩

theorem c_nameRight (l : List Int) (hl : l.length = 8) (hw : Byt l)  (w0 : World) :
    CallR Try.prog 54 #[.agg (ic .u8 l)] w0 fun v w' => v = .bool (nright l) ∧ Ext w0 w' := by
 have hS : St NoB w0 w0 [] := St.start w0
 refine c_enter (l := [.agg (ic .u8 l), undef, undef, undef, undef, undef, undef, undef, undef, undef, undef, undef, undef, undef, undef, undef, undef, undef, undef]) Try.func54 rfl (by simp only [Try.ntmps54, List.size_toArray, List.length_cons, List.length_nil, Nat.reduceAdd, Nat.reduceSub, Array.replicate_succ, Array.replicate_zero, List.push_toArray, List.append_toArray, List.nil_append, List.cons_append]) ?_
 refine x_seq fun K1 hK1 => ?_
 refine x_region ?_
 refine m_box hS (fun w1 g1 hS => ?_)
 try simp only [opv, n1, n2, n3, n4, Value.cells, Array.toArray_toList] at hS ⊢
 refine s_go (s_assign) ?_
 try simp only [opv, n1, n2, n3, n4, Value.cells]
 refine x_nil ?_
 refine hK1 _ _ ?_
 refine x_seq fun K2 hK2 => ?_
 refine x_region ?_
 refine s_go (m_load_row Try.underlying25 (hi := ti25) (hS := hS)) ?_
 try simp only [opv, n1, n2, n3, n4, Value.cells, List.getElem_toArray, List.getElem_cons_zero, List.getElem_cons_succ]
 refine s_call en89 ?_
 try simp only [opv, n1, n2, n3, n4, Value.cells, List.map_toArray, List.map_cons, List.map_nil, List.append_toArray, List.cons_append, List.nil_append, Array.append_empty]
 refine CallR.mono (c_nameSize _ (by assumption) (by assumption) _) ?_
 rintro _ w2 ⟨rfl, hE2⟩
 replace hS := hS.ext hE2
 try simp only [opv, n1, n2, n3, n4, Value.cells]
 refine s_go (s_assign) ?_
 try simp only [opv, n1, n2, n3, n4, Value.cells]
 refine x_nil ?_
 refine hK2 _ _ ?_
 refine x_seq fun K3 hK3 => ?_
 refine x_region ?_
 have hs := nsz_le l
 refine s_go (m_indexAddr_arr Try.underlying25 ti5) ?_
 try simp only [opv, n1, n2, n3, n4, Value.cells, Nat.mul_one, Nat.zero_add, Int.toNat_natCast, Int.reduceToNat]
 refine s_go (m_load_obj Try.underlying5 (hS := hS)) ?_
 try simp only [opv, n1, n2, n3, n4, Value.cells, List.getElem_toArray, List.getElem_cons_zero, List.getElem_cons_succ]
 have hb0 := hw.get 0
 refine s_call en90 ?_
 try simp only [opv, n1, n2, n3, n4, Value.cells, List.map_toArray, List.map_cons, List.map_nil, List.append_toArray, List.cons_append, List.nil_append, Array.append_empty]
 refine CallR.mono (c_nameLetter _ (by assumption) _) ?_
 rintro _ w3 ⟨rfl, hE3⟩
 replace hS := hS.ext hE3
 try simp only [opv, n1, n2, n3, n4, Value.cells]
 refine s_go (s_move) ?_
 try simp only [opv, n1, n2, n3, n4, Value.cells]
 refine s_part 9 rfl (fun hp1 => ?_) (fun hp1 => ?_)
 ·
  try simp only [n3, n4]
  try simp only [decide_eq_true_eq, decide_eq_false_iff_not, Bool.not_eq_true', Bool.not_eq_false', Int.not_lt, Int.not_le, ne_eq, Decidable.not_not] at hp1
  refine g_on (yi (t := 9) rfl rfl) ?_
  refine s_go (s_move) ?_
  try simp only [opv, n1, n2, n3, n4, Value.cells]
  refine g_on (yi (t := 9) rfl rfl) ?_
  refine m_slice_arr (lo := 0) (hi := nsz l) Try.underlying25 ti5 (hlo := rfl) (hhi := ⟨_, rfl⟩) (hS := hS) (h := fun A1 hS => ?_)
  try simp only [← List.map_append, ← List.map_drop, ← List.map_take, Nat.mul_one, Nat.zero_mul, Nat.sub_zero, List.drop_zero, List.nil_append, Nat.zero_add] at hS ⊢
  try simp only [opv, n1, n2, n3, n4, Value.cells, Array.toArray_toList] at hS ⊢
  try simp only [ic, List.toList_toArray, ← List.map_take, ← List.map_drop] at hS
  refine g_on (yi (t := 9) rfl rfl) ?_
  refine s_call en91 ?_
  try simp only [opv, n1, n2, n3, n4, Value.cells, List.map_toArray, List.map_cons, List.map_nil, List.append_toArray, List.cons_append, List.nil_append, Array.append_empty]
  refine CallR.mono (c_nameAll _ _ _ _ (l.take (nsz l)) (hS.hasRd (by repeat (exact Has.head))) (by simp; omega) (hw.take _) (by omega) isOth _ en92 (fun w b hb => c_nameOther b hb w)) ?_
  rintro _ w4 ⟨rfl, hE4⟩
  replace hS := hS.ext hE4
  try simp only [opv, n1, n2, n3, n4, Value.cells]
  refine s_go (s_pick_t) ?_
  try simp only [opv, n1, n2, n3, n4, Value.cells]
  refine s_go (s_move) ?_
  try simp only [opv, n1, n2, n3, n4, Value.cells]
  refine s_part 14 rfl (fun hp2 => ?_) (fun hp2 => ?_)
  ·
   try simp only [n3, n4]
   try simp only [decide_eq_true_eq, decide_eq_false_iff_not, Bool.not_eq_true', Bool.not_eq_false', Int.not_lt, Int.not_le, ne_eq, Decidable.not_not] at hp2
   refine g_on (yi (t := 14) rfl rfl) ?_
   refine s_go (s_move) ?_
   try simp only [opv, n1, n2, n3, n4, Value.cells]
   refine g_on (yi (t := 14) rfl rfl) ?_
   refine m_slice_bx (lo := nsz l) (hi := 8) Try.underlying25 ti5 (hlo := ⟨_, rfl⟩) (hhi := rfl) (hS := hS) (h := fun A2 hS => ?_)
   try simp only [← List.map_append, ← List.map_drop, ← List.map_take, Nat.mul_one, Nat.zero_mul, Nat.sub_zero, List.drop_zero, List.nil_append, Nat.zero_add] at hS ⊢
   try simp only [opv, n1, n2, n3, n4, Value.cells, Array.toArray_toList] at hS ⊢
   try simp only [ic, List.toList_toArray, ← List.map_take, ← List.map_drop] at hS
   rw [show List.take (8 - nsz l) (List.drop (nsz l) l) = List.drop (nsz l) l from List.take_of_length_le (by simp; omega)] at hS
   refine g_on (yi (t := 14) rfl rfl) ?_
   refine s_call en91 ?_
   try simp only [opv, n1, n2, n3, n4, Value.cells, List.map_toArray, List.map_cons, List.map_nil, List.append_toArray, List.cons_append, List.nil_append, Array.append_empty]
   refine CallR.mono (c_nameAll _ _ _ _ (l.drop (nsz l)) (hS.hasRd (by repeat (exact Has.head))) (by simp; omega) (hw.drop _) (by omega) isZer _ en93 (fun w b hb => c_nameZero b hb w)) ?_
   rintro _ w5 ⟨rfl, hE5⟩
   replace hS := hS.ext hE5
   try simp only [opv, n1, n2, n3, n4, Value.cells]
   refine s_go (s_pick_t) ?_
   try simp only [opv, n1, n2, n3, n4, Value.cells]
   refine s_go (s_assign) ?_
   try simp only [opv, n1, n2, n3, n4, Value.cells]
   refine x_nil ?_
   refine hK3 _ _ ?_
   refine x_ret ?_
   refine r_tmp rfl ?_
   exact ⟨congrArg Value.bool (by simp only [nright, *, Bool.false_and, Bool.true_and]), hS.ext_of⟩
  ·
   try simp only [n3, n4]
   try simp only [decide_eq_true_eq, decide_eq_false_iff_not, Bool.not_eq_true', Bool.not_eq_false', Int.not_lt, Int.not_le, ne_eq, Decidable.not_not] at hp2
   refine g_off (yi (t := 14) rfl rfl) ?_
   try simp only [opv, n1, n2, n3, n4, Value.cells]
   refine g_off (yi (t := 14) rfl rfl) ?_
   try simp only [opv, n1, n2, n3, n4, Value.cells]
   refine g_off (yi (t := 14) rfl rfl) ?_
   try simp only [opv, n1, n2, n3, n4, Value.cells]
   refine s_go (s_pick_f) ?_
   try simp only [opv, n1, n2, n3, n4, Value.cells]
   refine s_go (s_assign) ?_
   try simp only [opv, n1, n2, n3, n4, Value.cells]
   refine x_nil ?_
   refine hK3 _ _ ?_
   refine x_ret ?_
   refine r_tmp rfl ?_
   exact ⟨congrArg Value.bool (by simp only [nright, *, Bool.false_and, Bool.true_and]), hS.ext_of⟩
 ·
  try simp only [n3, n4]
  try simp only [decide_eq_true_eq, decide_eq_false_iff_not, Bool.not_eq_true', Bool.not_eq_false', Int.not_lt, Int.not_le, ne_eq, Decidable.not_not] at hp1
  refine g_off (yi (t := 9) rfl rfl) ?_
  try simp only [opv, n1, n2, n3, n4, Value.cells]
  refine g_off (yi (t := 9) rfl rfl) ?_
  try simp only [opv, n1, n2, n3, n4, Value.cells]
  refine g_off (yi (t := 9) rfl rfl) ?_
  try simp only [opv, n1, n2, n3, n4, Value.cells]
  refine s_go (s_pick_f) ?_
  try simp only [opv, n1, n2, n3, n4, Value.cells]
  refine s_go (s_move) ?_
  try simp only [opv, n1, n2, n3, n4, Value.cells]
  refine g_off (yi (t := 14) rfl rfl) ?_
  try simp only [opv, n1, n2, n3, n4, Value.cells]
  refine g_off (yi (t := 14) rfl rfl) ?_
  try simp only [opv, n1, n2, n3, n4, Value.cells]
  refine g_off (yi (t := 14) rfl rfl) ?_
  try simp only [opv, n1, n2, n3, n4, Value.cells]
  refine s_go (s_pick_f) ?_
  try simp only [opv, n1, n2, n3, n4, Value.cells]
  refine s_go (s_assign) ?_
  try simp only [opv, n1, n2, n3, n4, Value.cells]
  refine x_nil ?_
  refine hK3 _ _ ?_
  refine x_ret ?_
  refine r_tmp rfl ?_
  exact ⟨congrArg Value.bool (by simp only [nright, *, Bool.false_and, Bool.true_and]), hS.ext_of⟩
theorem c_nameText (l : List Int) (hl : l.length = 8) (hw : Byt l)  (w0 : World) :
    CallR Try.prog 144 #[.agg (ic .u8 l)] w0 fun v w' => v = .string (strOf (nmTxt l)) ∧ Ext w0 w' := by
 have hS : St NoB w0 w0 [] := St.start w0
 refine c_enter (l := [.agg (ic .u8 l), undef, undef, undef, undef, undef, undef]) Try.func144 rfl (by simp only [Try.ntmps144, List.size_toArray, List.length_cons, List.length_nil, Nat.reduceAdd, Nat.reduceSub, Array.replicate_succ, Array.replicate_zero, List.push_toArray, List.append_toArray, List.nil_append, List.cons_append]) ?_
 refine x_seq fun K1 hK1 => ?_
 refine x_region ?_
 refine m_box hS (fun w1 g1 hS => ?_)
 try simp only [opv, n1, n2, n3, n4, Value.cells, Array.toArray_toList] at hS ⊢
 refine s_go (s_assign) ?_
 try simp only [opv, n1, n2, n3, n4, Value.cells]
 refine x_nil ?_
 refine hK1 _ _ ?_
 refine x_seq fun K2 hK2 => ?_
 refine x_region ?_
 refine s_go (m_load_row Try.underlying25 (hi := ti25) (hS := hS)) ?_
 try simp only [opv, n1, n2, n3, n4, Value.cells, List.getElem_toArray, List.getElem_cons_zero, List.getElem_cons_succ]
 refine s_call en89 ?_
 try simp only [opv, n1, n2, n3, n4, Value.cells, List.map_toArray, List.map_cons, List.map_nil, List.append_toArray, List.cons_append, List.nil_append, Array.append_empty]
 refine CallR.mono (c_nameSize _ (by assumption) (by assumption) _) ?_
 rintro _ w2 ⟨rfl, hE2⟩
 replace hS := hS.ext hE2
 try simp only [opv, n1, n2, n3, n4, Value.cells]
 have hs := nsz_le l
 refine m_slice_arr (lo := 0) (hi := nsz l) Try.underlying25 ti5 (hlo := rfl) (hhi := ⟨_, rfl⟩) (hS := hS) (h := fun A1 hS => ?_)
 try simp only [← List.map_append, ← List.map_drop, ← List.map_take, Nat.mul_one, Nat.zero_mul, Nat.sub_zero, List.drop_zero, List.nil_append, Nat.zero_add] at hS ⊢
 try simp only [opv, n1, n2, n3, n4, Value.cells, Array.toArray_toList] at hS ⊢
 try simp only [ic, List.toList_toArray, ← List.map_take, ← List.map_drop] at hS
 refine s_go (m_bytes_str Try.underlying56 Try.underlying9 Try.underlying5 (hS := hS)) ?_
 try simp only [opv, n1, n2, n3, n4, Value.cells]
 refine s_go (s_assign) ?_
 try simp only [opv, n1, n2, n3, n4, Value.cells]
 refine x_nil ?_
 refine hK2 _ _ ?_
 refine x_ret ?_
 refine r_tmp rfl ?_
 exact ⟨rfl, hS.ext_of⟩
theorem c_nameSome (l : List Int) (hl : l.length = 8) (hw : Byt l)  (w0 : World) :
    CallR Try.prog 132 #[.agg (ic .u8 l)] w0 fun v w' => v = .bool (!decide (l = nm0)) ∧ Ext w0 w' := by
 have hS : St NoB w0 w0 [] := St.start w0
 refine c_enter (l := [.agg (ic .u8 l), undef, undef, undef, undef, undef]) Try.func132 rfl (by simp only [Try.ntmps132, List.size_toArray, List.length_cons, List.length_nil, Nat.reduceAdd, Nat.reduceSub, Array.replicate_succ, Array.replicate_zero, List.push_toArray, List.append_toArray, List.nil_append, List.cons_append]) ?_
 refine x_seq fun K1 hK1 => ?_
 refine x_region ?_
 refine m_box hS (fun w1 g1 hS => ?_)
 try simp only [opv, n1, n2, n3, n4, Value.cells, Array.toArray_toList] at hS ⊢
 refine s_go (s_assign) ?_
 try simp only [opv, n1, n2, n3, n4, Value.cells]
 refine x_nil ?_
 refine hK1 _ _ ?_
 refine x_seq fun K2 hK2 => ?_
 refine x_region ?_
 refine s_go (m_load_row Try.underlying25 (hi := ti25) (hS := hS)) ?_
 try simp only [opv, n1, n2, n3, n4, Value.cells, List.getElem_toArray, List.getElem_cons_zero, List.getElem_cons_succ]
 refine s_go (s_build_arr (cells := #[.int .u8 0, .int .u8 0, .int .u8 0, .int .u8 0, .int .u8 0, .int .u8 0, .int .u8 0, .int .u8 0]) Try.underlying25 ti25 ti5 (hc := by simp only [List.map_toArray, List.map_cons, List.map_nil, opv, n1, n2, n3, n4, Value.cells, List.toList_toArray]; (repeat (refine fill_cons rfl rfl (Nat.le_of_ble_eq_true rfl) ?_)); rfl)) ?_
 try simp only [opv, n1, n2, n3, n4, Value.cells]
 rw [show (#[.int .u8 0, .int .u8 0, .int .u8 0, .int .u8 0, .int .u8 0, .int .u8 0, .int .u8 0, .int .u8 0] : Array Value) = ic .u8 nm0 from rfl]
 refine s_go (s_neq_agg eqv25 (hg := eg25) (hX := zi_ic (by assumption)) (hY := zi_ic (by rfl)) (h1 := by assumption) (h2 := by rfl)) ?_
 try simp only [opv, n1, n2, n3, n4, Value.cells]
 refine s_go (s_assign) ?_
 try simp only [opv, n1, n2, n3, n4, Value.cells]
 refine x_nil ?_
 refine hK2 _ _ ?_
 refine x_ret ?_
 refine r_tmp rfl ?_
 exact ⟨rfl, hS.ext_of⟩
theorem c_nameNumber (l : List Int) (hl : l.length = 8) (hw : Byt l)  (w0 : World) :
    CallR Try.prog 146 #[.agg (ic .u8 l)] w0 fun v w' => v = .int .u64 (numN l : Int) ∧ Ext w0 w' := by
 have hS : St NoB w0 w0 [] := St.start w0
 refine c_enter (l := [.agg (ic .u8 l), undef, undef, undef, undef, undef, undef, undef, undef, undef, undef, undef, undef, undef, undef, undef]) Try.func146 rfl (by simp only [Try.ntmps146, List.size_toArray, List.length_cons, List.length_nil, Nat.reduceAdd, Nat.reduceSub, Array.replicate_succ, Array.replicate_zero, List.push_toArray, List.append_toArray, List.nil_append, List.cons_append]) ?_
 refine x_seq fun K1 hK1 => ?_
 refine x_region ?_
 refine m_box hS (fun w1 g1 hS => ?_)
 try simp only [opv, n1, n2, n3, n4, Value.cells, Array.toArray_toList] at hS ⊢
 refine s_go (s_assign) ?_
 try simp only [opv, n1, n2, n3, n4, Value.cells]
 refine x_nil ?_
 refine hK1 _ _ ?_
 refine x_seq fun K2 hK2 => ?_
 refine x_seq fun K3 hK3 => ?_
 refine x_region ?_
 refine s_go (m_load_row Try.underlying25 (hi := ti25) (hS := hS)) ?_
 try simp only [opv, n1, n2, n3, n4, Value.cells, List.getElem_toArray, List.getElem_cons_zero, List.getElem_cons_succ]
 refine s_go (s_move) ?_
 try simp only [opv, n1, n2, n3, n4, Value.cells]
 refine x_nil ?_
 refine hK3 _ _ ?_
 refine x_block ?_
 refine x_loop [2, 4, 6, 7, 8, 9, 10, 11, 12, 13, 14] (fun m f w => ∃ k : Nat, k ≤ 8 ∧ m = 8 - k ∧ f 6 = .int .i64 (k : Int) ∧ f 2 = .int .u64 (numN (l.take k) : Int) ∧ St NoB w0 w []) (8) ?init1 (fun m1 f1 wl1 hI => ?_)
 case init1 =>
  try simp only [opv, n1, n2, n3, n4, Value.cells]
  exact ⟨0, by omega, rfl, rfl, rfl, hS.sel .nil⟩
 obtain ⟨k, hk, hm, h6, h2, hS⟩ := hI
 simp only [clob, List.foldl, n3, n4, h6, h2]
 have hby := hw.bt k
 have hnl := numN_lt hw k
 refine x_seq fun K4 hK4 => ?_
 refine x_region ?_
 refine s_go (s_lss) ?_
 try simp only [opv, n1, n2, n3, n4, Value.cells]
 refine x_nil ?_
 refine hK4 _ _ ?_
 refine x_seq fun K5 hK5 => ?_
 refine x_cond (ht := fun hc1 => ?_) (hf := fun hc1 => ?_)
 ·
  try simp only [decide_eq_true_eq, decide_eq_false_iff_not, Bool.not_eq_true', Bool.not_eq_false', Int.not_lt, Int.not_le, ne_eq, Decidable.not_not, bne_iff_ne, beq_iff_eq, not_true_eq_false, not_false_eq_true] at hc1
  refine x_skip ?_
  refine hK5 _ _ ?_
  refine x_seq fun K6 hK6 => ?_
  refine x_block ?_
  refine x_seq fun K7 hK7 => ?_
  refine x_region ?_
  refine s_go (s_index_one Try.underlying25 ti5 Try.underlying5) ?_
  try simp only [opv, n1, n2, n3, n4, Value.cells, Nat.mul_one, Nat.zero_add, Int.toNat_natCast, Int.reduceToNat]
  rw [hby.1]
  refine s_go (s_assign) ?_
  try simp only [opv, n1, n2, n3, n4, Value.cells]
  refine x_nil ?_
  refine hK7 _ _ ?_
  refine x_region ?_
  refine s_go (s_move) ?_
  try simp only [opv, n1, n2, n3, n4, Value.cells]
  refine s_go (s_shl (hc := shl_u64 (r := numN (l.take k)) (p := 256) (s := 256 * numN (l.take k)) (num_shl hnl (by omega)))) ?_
  try simp only [opv, n1, n2, n3, n4, Value.cells]
  refine s_go (s_move) ?_
  try simp only [opv, n1, n2, n3, n4, Value.cells]
  refine s_go (s_conv Try.underlying5 Try.underlying48 (hc := by exact wr_u64 (by omega) (by omega))) ?_
  try simp only [opv, n1, n2, n3, n4, Value.cells]
  refine s_go (s_bits (by simp) (hc := or_hi64 (n := 8) hby.2 (num_sum hnl hby.2 (by omega)))) ?_
  try simp only [opv, n1, n2, n3, n4, Value.cells]
  refine s_go (s_assign) ?_
  try simp only [opv, n1, n2, n3, n4, Value.cells]
  refine x_nil ?_
  refine hK6 _ _ ?_
  refine x_region ?_
  refine s_go (s_add (hc := by exact wr_i64 (by omega) (by omega))) ?_
  try simp only [opv, n1, n2, n3, n4, Value.cells]
  refine s_go (s_move) ?_
  try simp only [opv, n1, n2, n3, n4, Value.cells]
  refine x_nil ?_
  refine loop_back (m' := 8 - (k + 1)) (by simp only [clob, List.foldl, n1, n2, n3, n4]) ?_ ?_
  · try simp only [opv, n1, n2, n3, n4, Value.cells]
    exact ⟨k + 1, by omega, by omega, by rfl, by rw [numN_take (by omega)], hS⟩
  · omega
 ·
  try simp only [decide_eq_true_eq, decide_eq_false_iff_not, Bool.not_eq_true', Bool.not_eq_false', Int.not_lt, Int.not_le, ne_eq, Decidable.not_not, bne_iff_ne, beq_iff_eq, not_true_eq_false, not_false_eq_true] at hc1
  obtain rfl : k = 8 := by omega
  rw [show l.take 8 = l by rw [← hl]; exact List.take_length]
  refine x_exit (look_here ?_)
  refine hK2 _ _ ?_
  refine x_seq fun K8 hK8 => ?_
  refine x_region ?_
  refine s_go (s_move) ?_
  try simp only [opv, n1, n2, n3, n4, Value.cells]
  refine s_go (s_assign) ?_
  try simp only [opv, n1, n2, n3, n4, Value.cells]
  refine x_nil ?_
  refine hK8 _ _ ?_
  refine x_ret ?_
  refine r_tmp rfl ?_
  exact ⟨rfl, hS.ext_of⟩
theorem c_ref06Number (l : List Int) (hl : l.length = 8) (hw : Byt l)  (w0 : World) :
    CallR Try.prog 111 #[.agg (ic .u8 l)] w0 fun v w' => v = .int .u64 (numN l : Int) ∧ Ext w0 w' := by
 have hS : St NoB w0 w0 [] := St.start w0
 refine c_enter (l := [.agg (ic .u8 l), undef, undef, undef, undef, undef, undef, undef, undef, undef, undef, undef, undef, undef, undef, undef, undef]) Try.func111 rfl (by simp only [Try.ntmps111, List.size_toArray, List.length_cons, List.length_nil, Nat.reduceAdd, Nat.reduceSub, Array.replicate_succ, Array.replicate_zero, List.push_toArray, List.append_toArray, List.nil_append, List.cons_append]) ?_
 refine x_seq fun K1 hK1 => ?_
 refine x_region ?_
 refine m_box hS (fun w1 g1 hS => ?_)
 try simp only [opv, n1, n2, n3, n4, Value.cells, Array.toArray_toList] at hS ⊢
 refine s_go (s_assign) ?_
 try simp only [opv, n1, n2, n3, n4, Value.cells]
 refine x_nil ?_
 refine hK1 _ _ ?_
 refine x_seq fun K2 hK2 => ?_
 refine x_region ?_
 refine s_go (s_assign) ?_
 try simp only [opv, n1, n2, n3, n4, Value.cells]
 refine x_nil ?_
 refine hK2 _ _ ?_
 refine x_seq fun K3 hK3 => ?_
 refine x_seq fun K4 hK4 => ?_
 refine x_region ?_
 refine s_go (s_assign) ?_
 try simp only [opv, n1, n2, n3, n4, Value.cells]
 refine x_nil ?_
 refine hK4 _ _ ?_
 refine x_block ?_
 refine x_loop [3, 4, 5, 6, 7, 8, 9, 10, 11, 12, 13, 14, 15] (fun m f w => ∃ k : Nat, k ≤ 8 ∧ m = 8 - k ∧ f 4 = .int .i64 (k : Int) ∧ f 3 = .int .u64 (numN (l.take k) : Int) ∧ St NoB w0 w [.obj g1 (.cells (ic .u8 l) 25 (0, 0))]) (8) ?init1 (fun m1 f1 wl1 hI => ?_)
 case init1 =>
  try simp only [opv, n1, n2, n3, n4, Value.cells]
  exact ⟨0, by omega, rfl, rfl, rfl, hS⟩
 obtain ⟨k, hk, hm, h4, h3, hS⟩ := hI
 simp only [clob, List.foldl, n3, n4, h4, h3]
 have hby := hw.bt k
 have hnl := numN_lt hw k
 refine x_seq fun K5 hK5 => ?_
 refine x_seq fun K6 hK6 => ?_
 refine x_region ?_
 refine s_go (s_move) ?_
 try simp only [opv, n1, n2, n3, n4, Value.cells]
 refine s_go (s_lss) ?_
 try simp only [opv, n1, n2, n3, n4, Value.cells]
 refine x_nil ?_
 refine hK6 _ _ ?_
 refine x_cond (ht := fun hc1 => ?_) (hf := fun hc1 => ?_)
 ·
  try simp only [decide_eq_true_eq, decide_eq_false_iff_not, Bool.not_eq_true', Bool.not_eq_false', Int.not_lt, Int.not_le, ne_eq, Decidable.not_not, bne_iff_ne, beq_iff_eq, not_true_eq_false, not_false_eq_true] at hc1
  refine x_skip ?_
  refine hK5 _ _ ?_
  refine x_seq fun K7 hK7 => ?_
  refine x_block ?_
  refine x_region ?_
  refine s_go (s_move) ?_
  try simp only [opv, n1, n2, n3, n4, Value.cells]
  have hns := num_sum hnl hby.2 (by omega)
  refine s_go (s_mul (hc := mul_u64 (a := 256) (by omega))) ?_
  try simp only [opv, n1, n2, n3, n4, Value.cells]
  refine s_go (s_move) ?_
  try simp only [opv, n1, n2, n3, n4, Value.cells]
  refine s_go (m_indexAddr_arr Try.underlying25 ti5) ?_
  try simp only [opv, n1, n2, n3, n4, Value.cells, Nat.mul_one, Nat.zero_add, Int.toNat_natCast, Int.reduceToNat]
  refine s_go (m_load_obj Try.underlying5 (hS := hS)) ?_
  try simp only [opv, n1, n2, n3, n4, Value.cells, List.getElem_toArray, List.getElem_cons_zero, List.getElem_cons_succ]
  rw [hby.1]
  refine s_go (s_conv Try.underlying5 Try.underlying48 (hc := by exact wr_u64 (by omega) (by omega))) ?_
  try simp only [opv, n1, n2, n3, n4, Value.cells]
  refine s_go (s_add (hc := add_u64 (by omega))) ?_
  try simp only [opv, n1, n2, n3, n4, Value.cells]
  refine s_go (s_assign) ?_
  try simp only [opv, n1, n2, n3, n4, Value.cells]
  refine x_nil ?_
  refine hK7 _ _ ?_
  refine x_region ?_
  refine s_go (s_move) ?_
  try simp only [opv, n1, n2, n3, n4, Value.cells]
  refine s_go (s_add (hc := by exact wr_i64 (by omega) (by omega))) ?_
  try simp only [opv, n1, n2, n3, n4, Value.cells]
  refine s_go (s_assign) ?_
  try simp only [opv, n1, n2, n3, n4, Value.cells]
  refine x_nil ?_
  refine loop_back (m' := 8 - (k + 1)) (by simp only [clob, List.foldl, n1, n2, n3, n4]) ?_ ?_
  · try simp only [opv, n1, n2, n3, n4, Value.cells]
    exact ⟨k + 1, by omega, by omega, by rfl, by rw [numN_take (by omega)], hS⟩
  · omega
 ·
  try simp only [decide_eq_true_eq, decide_eq_false_iff_not, Bool.not_eq_true', Bool.not_eq_false', Int.not_lt, Int.not_le, ne_eq, Decidable.not_not, bne_iff_ne, beq_iff_eq, not_true_eq_false, not_false_eq_true] at hc1
  obtain rfl : k = 8 := by omega
  rw [show l.take 8 = l by rw [← hl]; exact List.take_length]
  refine x_exit (look_here ?_)
  refine hK3 _ _ ?_
  refine x_seq fun K8 hK8 => ?_
  refine x_region ?_
  refine s_go (s_move) ?_
  try simp only [opv, n1, n2, n3, n4, Value.cells]
  refine s_go (s_assign) ?_
  try simp only [opv, n1, n2, n3, n4, Value.cells]
  refine x_nil ?_
  refine hK8 _ _ ?_
  refine x_ret ?_
  refine r_tmp rfl ?_
  exact ⟨rfl, hS.ext_of⟩
theorem c_ref06Is (ns : List Int) (hw : Byt ns) (hn : ns.length ≤ 1000)  (w0 : World) :
    CallR Try.prog 64 #[.string (strOf ns)] w0 fun v w' => v = .bool (isN ns) ∧ Ext w0 w' := by
 have hS : St NoB w0 w0 [] := St.start w0
 refine c_enter (l := [.string (strOf ns), undef, undef, undef, undef, undef, undef, undef, undef, undef, undef, undef, undef, undef, undef, undef, undef, undef, undef, undef, undef, undef, undef, undef, undef, undef, undef, undef, undef]) Try.func64 rfl (by simp only [Try.ntmps64, List.size_toArray, List.length_cons, List.length_nil, Nat.reduceAdd, Nat.reduceSub, Array.replicate_succ, Array.replicate_zero, List.push_toArray, List.append_toArray, List.nil_append, List.cons_append]) ?_
 refine x_seq fun K1 hK1 => ?_
 refine x_region ?_
 refine s_go (s_assign) ?_
 try simp only [opv, n1, n2, n3, n4, Value.cells]
 refine x_nil ?_
 refine hK1 _ _ ?_
 refine x_seq fun K2 hK2 => ?_
 refine x_seq fun K3 hK3 => ?_
 refine x_region ?_
 refine s_go (s_move) ?_
 try simp only [opv, n1, n2, n3, n4, Value.cells]
 refine s_go (s_len_str Try.underlying9) ?_
 try simp only [opv, n1, n2, n3, n4, Value.cells]
 rw [strOf_size]
 refine s_go (s_lss) ?_
 try simp only [opv, n1, n2, n3, n4, Value.cells]
 refine s_go (s_move) ?_
 try simp only [opv, n1, n2, n3, n4, Value.cells]
 refine s_part 7 rfl (fun hp1 => ?_) (fun hp1 => ?_)
 ·
  try simp only [n3, n4]
  try simp only [decide_eq_true_eq, decide_eq_false_iff_not, Bool.not_eq_true', Bool.not_eq_false', Int.not_lt, Int.not_le, ne_eq, Decidable.not_not] at hp1
  refine g_off (yi (t := 7) rfl rfl) ?_
  try simp only [opv, n1, n2, n3, n4, Value.cells]
  refine g_off (yi (t := 7) rfl rfl) ?_
  try simp only [opv, n1, n2, n3, n4, Value.cells]
  refine g_off (yi (t := 7) rfl rfl) ?_
  try simp only [opv, n1, n2, n3, n4, Value.cells]
  refine s_go (s_pick_t) ?_
  try simp only [opv, n1, n2, n3, n4, Value.cells]
  refine s_go (s_move) ?_
  try simp only [opv, n1, n2, n3, n4, Value.cells]
  refine g_off (yi (t := 12) rfl rfl) ?_
  try simp only [opv, n1, n2, n3, n4, Value.cells]
  refine g_off (yi (t := 12) rfl rfl) ?_
  try simp only [opv, n1, n2, n3, n4, Value.cells]
  refine g_off (yi (t := 12) rfl rfl) ?_
  try simp only [opv, n1, n2, n3, n4, Value.cells]
  refine g_off (yi (t := 12) rfl rfl) ?_
  try simp only [opv, n1, n2, n3, n4, Value.cells]
  refine s_go (s_pick_t) ?_
  try simp only [opv, n1, n2, n3, n4, Value.cells]
  refine x_nil ?_
  refine hK3 _ _ ?_
  refine x_cond_t (h := ?_)
  have hI : isN ns = false := by simp only [isN, Bool.and_eq_false_iff, decide_eq_false_iff_not]; exact .inl (.inl (by omega))
  refine x_seq fun K4 hK4 => ?_
  refine x_region ?_
  refine s_go (s_assign) ?_
  try simp only [opv, n1, n2, n3, n4, Value.cells]
  refine x_nil ?_
  refine hK4 _ _ ?_
  refine x_ret ?_
  refine r_tmp rfl ?_
  exact ⟨by rw [hI]; rfl, hS.ext_of⟩
 ·
  try simp only [n3, n4]
  try simp only [decide_eq_true_eq, decide_eq_false_iff_not, Bool.not_eq_true', Bool.not_eq_false', Int.not_lt, Int.not_le, ne_eq, Decidable.not_not] at hp1
  refine g_on (yi (t := 7) rfl rfl) ?_
  refine s_go (s_move) ?_
  try simp only [opv, n1, n2, n3, n4, Value.cells]
  refine g_on (yi (t := 7) rfl rfl) ?_
  refine s_go (s_len_str Try.underlying9) ?_
  try simp only [opv, n1, n2, n3, n4, Value.cells]
  rw [strOf_size]
  refine g_on (yi (t := 7) rfl rfl) ?_
  refine s_go (s_gtr) ?_
  try simp only [opv, n1, n2, n3, n4, Value.cells]
  refine s_go (s_pick_f) ?_
  try simp only [opv, n1, n2, n3, n4, Value.cells]
  refine s_go (s_move) ?_
  try simp only [opv, n1, n2, n3, n4, Value.cells]
  refine s_part 12 rfl (fun hp2 => ?_) (fun hp2 => ?_)
  ·
   try simp only [n3, n4]
   try simp only [decide_eq_true_eq, decide_eq_false_iff_not, Bool.not_eq_true', Bool.not_eq_false', Int.not_lt, Int.not_le, ne_eq, Decidable.not_not] at hp2
   refine g_off (yi (t := 12) rfl rfl) ?_
   try simp only [opv, n1, n2, n3, n4, Value.cells]
   refine g_off (yi (t := 12) rfl rfl) ?_
   try simp only [opv, n1, n2, n3, n4, Value.cells]
   refine g_off (yi (t := 12) rfl rfl) ?_
   try simp only [opv, n1, n2, n3, n4, Value.cells]
   refine g_off (yi (t := 12) rfl rfl) ?_
   try simp only [opv, n1, n2, n3, n4, Value.cells]
   refine s_go (s_pick_t) ?_
   try simp only [opv, n1, n2, n3, n4, Value.cells]
   refine x_nil ?_
   refine hK3 _ _ ?_
   refine x_cond_t (h := ?_)
   have hI : isN ns = false := by simp only [isN, Bool.and_eq_false_iff, decide_eq_false_iff_not]; exact .inl (.inl (by omega))
   refine x_seq fun K5 hK5 => ?_
   refine x_region ?_
   refine s_go (s_assign) ?_
   try simp only [opv, n1, n2, n3, n4, Value.cells]
   refine x_nil ?_
   refine hK5 _ _ ?_
   refine x_ret ?_
   refine r_tmp rfl ?_
   exact ⟨by rw [hI]; rfl, hS.ext_of⟩
  ·
   try simp only [n3, n4]
   try simp only [decide_eq_true_eq, decide_eq_false_iff_not, Bool.not_eq_true', Bool.not_eq_false', Int.not_lt, Int.not_le, ne_eq, Decidable.not_not] at hp2
   refine g_on (yi (t := 12) rfl rfl) ?_
   refine s_go (s_move) ?_
   try simp only [opv, n1, n2, n3, n4, Value.cells]
   have hb0 := hw.get 0
   refine g_on (yi (t := 12) rfl rfl) ?_
   refine s_go (s_index_str Try.underlying9 (hb := strOf_get (a := ns) (i := 0) (by omega))) ?_
   try simp only [opv, n1, n2, n3, n4, Value.cells, Nat.mul_one, Nat.zero_add, Int.toNat_natCast, Int.reduceToNat]
   rw [u8_back hb0]
   refine g_on (yi (t := 12) rfl rfl) ?_
   refine s_call en97 ?_
   try simp only [opv, n1, n2, n3, n4, Value.cells, List.map_toArray, List.map_cons, List.map_nil, List.append_toArray, List.cons_append, List.nil_append, Array.append_empty]
   refine CallR.mono (c_ref06Letter _ (by assumption) _) ?_
   rintro _ w1 ⟨rfl, hE1⟩
   replace hS := hS.ext hE1
   try simp only [opv, n1, n2, n3, n4, Value.cells]
   refine g_on (yi (t := 12) rfl rfl) ?_
   refine s_go (s_not) ?_
   try simp only [opv, n1, n2, n3, n4, Value.cells]
   refine s_go (s_pick_f) ?_
   try simp only [opv, n1, n2, n3, n4, Value.cells]
   refine x_nil ?_
   refine hK3 _ _ ?_
   refine x_cond (ht := fun hc3 => ?_) (hf := fun hc3 => ?_)
   ·
    try simp only [decide_eq_true_eq, decide_eq_false_iff_not, Bool.not_eq_true', Bool.not_eq_false', Int.not_lt, Int.not_le, ne_eq, Decidable.not_not, bne_iff_ne, beq_iff_eq, not_true_eq_false, not_false_eq_true] at hc3
    have hI : isN ns = false := by simp only [isN, Bool.and_eq_false_iff, decide_eq_false_iff_not]; exact .inl (.inr hc3)
    refine x_seq fun K6 hK6 => ?_
    refine x_region ?_
    refine s_go (s_assign) ?_
    try simp only [opv, n1, n2, n3, n4, Value.cells]
    refine x_nil ?_
    refine hK6 _ _ ?_
    refine x_ret ?_
    refine r_tmp rfl ?_
    exact ⟨by rw [hI]; rfl, hS.ext_of⟩
   ·
    try simp only [decide_eq_true_eq, decide_eq_false_iff_not, Bool.not_eq_true', Bool.not_eq_false', Int.not_lt, Int.not_le, ne_eq, Decidable.not_not, bne_iff_ne, beq_iff_eq, not_true_eq_false, not_false_eq_true] at hc3
    have h0 : isLet (ns.getD 0 0) = true := by simpa only [Bool.not_eq_false] using hc3
    refine x_skip ?_
    refine hK2 _ _ ?_
    refine x_seq fun K7 hK7 => ?_
    refine x_seq fun K8 hK8 => ?_
    refine x_region ?_
    refine s_go (s_assign) ?_
    try simp only [opv, n1, n2, n3, n4, Value.cells]
    refine x_nil ?_
    refine hK8 _ _ ?_
    refine x_block ?_
    refine x_loop [2, 3, 18, 19, 20, 21, 22, 23, 24, 25, 26, 27, 28] (fun m f w => ∃ k : Nat, k ≤ ns.length ∧ m = ns.length - k ∧ f 3 = .int .i64 (k : Int) ∧ (ns.take k).all isOth = true ∧ St NoB w0 w []) (ns.length) ?init1 (fun m1 f1 wl1 hI => ?_)
    case init1 =>
     try simp only [opv, n1, n2, n3, n4, Value.cells]
     exact ⟨0, by omega, rfl, rfl, rfl, hS⟩
    obtain ⟨k, hk, hm, h3, hz, hS⟩ := hI
    simp only [clob, List.foldl, n3, n4, h3]
    have hbk := hw.get k
    refine x_seq fun K9 hK9 => ?_
    refine x_seq fun K10 hK10 => ?_
    refine x_region ?_
    refine s_go (s_move) ?_
    try simp only [opv, n1, n2, n3, n4, Value.cells]
    refine s_go (s_move) ?_
    try simp only [opv, n1, n2, n3, n4, Value.cells]
    refine s_go (s_len_str Try.underlying9) ?_
    try simp only [opv, n1, n2, n3, n4, Value.cells]
    rw [strOf_size]
    refine s_go (s_lss) ?_
    try simp only [opv, n1, n2, n3, n4, Value.cells]
    refine x_nil ?_
    refine hK10 _ _ ?_
    refine x_cond (ht := fun hc4 => ?_) (hf := fun hc4 => ?_)
    ·
     try simp only [decide_eq_true_eq, decide_eq_false_iff_not, Bool.not_eq_true', Bool.not_eq_false', Int.not_lt, Int.not_le, ne_eq, Decidable.not_not, bne_iff_ne, beq_iff_eq, not_true_eq_false, not_false_eq_true] at hc4
     refine x_skip ?_
     refine hK9 _ _ ?_
     refine x_seq fun K11 hK11 => ?_
     refine x_block ?_
     refine x_seq fun K12 hK12 => ?_
     refine x_region ?_
     refine s_go (s_move) ?_
     try simp only [opv, n1, n2, n3, n4, Value.cells]
     refine s_go (s_move) ?_
     try simp only [opv, n1, n2, n3, n4, Value.cells]
     refine s_go (s_index_str Try.underlying9 (hb := strOf_get (a := ns) (i := k) (by omega))) ?_
     try simp only [opv, n1, n2, n3, n4, Value.cells, Nat.mul_one, Nat.zero_add, Int.toNat_natCast, Int.reduceToNat]
     rw [u8_back hbk]
     refine s_call en98 ?_
     try simp only [opv, n1, n2, n3, n4, Value.cells, List.map_toArray, List.map_cons, List.map_nil, List.append_toArray, List.cons_append, List.nil_append, Array.append_empty]
     refine CallR.mono (c_ref06Other _ (by assumption) _) ?_
     rintro _ w2 ⟨rfl, hE2⟩
     replace hS := hS.ext hE2
     try simp only [opv, n1, n2, n3, n4, Value.cells]
     refine s_go (s_not) ?_
     try simp only [opv, n1, n2, n3, n4, Value.cells]
     refine x_nil ?_
     refine hK12 _ _ ?_
     refine x_cond (ht := fun hc5 => ?_) (hf := fun hc5 => ?_)
     ·
      try simp only [decide_eq_true_eq, decide_eq_false_iff_not, Bool.not_eq_true', Bool.not_eq_false', Int.not_lt, Int.not_le, ne_eq, Decidable.not_not, bne_iff_ne, beq_iff_eq, not_true_eq_false, not_false_eq_true] at hc5
      have hI : isN ns = false := by simp only [isN, Bool.and_eq_false_iff]; exact .inr (all_not (by simpa using hc5) (by omega))
      refine x_seq fun K13 hK13 => ?_
      refine x_region ?_
      refine s_go (s_assign) ?_
      try simp only [opv, n1, n2, n3, n4, Value.cells]
      refine x_nil ?_
      refine hK13 _ _ ?_
      refine x_ret ?_
      refine r_tmp rfl ?_
      exact ⟨by rw [hI]; rfl, hS.ext_of⟩
     ·
      try simp only [decide_eq_true_eq, decide_eq_false_iff_not, Bool.not_eq_true', Bool.not_eq_false', Int.not_lt, Int.not_le, ne_eq, Decidable.not_not, bne_iff_ne, beq_iff_eq, not_true_eq_false, not_false_eq_true] at hc5
      have hO : isOth (ns.getD k 0) = true := by simpa using hc5
      refine x_skip ?_
      refine hK11 _ _ ?_
      refine x_region ?_
      refine s_go (s_move) ?_
      try simp only [opv, n1, n2, n3, n4, Value.cells]
      refine s_go (s_add (hc := by exact wr_i64 (by omega) (by omega))) ?_
      try simp only [opv, n1, n2, n3, n4, Value.cells]
      refine s_go (s_assign) ?_
      try simp only [opv, n1, n2, n3, n4, Value.cells]
      refine x_nil ?_
      refine loop_back (m' := ns.length - (k + 1)) (by simp only [clob, List.foldl, n1, n2, n3, n4]) ?_ ?_
      · try simp only [opv, n1, n2, n3, n4, Value.cells]
        exact ⟨k + 1, by omega, by omega, by rfl, by rw [take_succ_getD (by omega), List.all_append, hz]; simpa using hO, hS⟩
      · omega
    ·
     try simp only [decide_eq_true_eq, decide_eq_false_iff_not, Bool.not_eq_true', Bool.not_eq_false', Int.not_lt, Int.not_le, ne_eq, Decidable.not_not, bne_iff_ne, beq_iff_eq, not_true_eq_false, not_false_eq_true] at hc4
     obtain rfl : k = ns.length := by omega
     rw [List.take_length] at hz
     have hI : isN ns = true := by simp only [isN, Bool.and_eq_true, decide_eq_true_eq]; exact ⟨⟨by omega, h0⟩, hz⟩
     refine x_exit (look_here ?_)
     refine hK7 _ _ ?_
     refine x_seq fun K14 hK14 => ?_
     refine x_region ?_
     refine s_go (s_assign) ?_
     try simp only [opv, n1, n2, n3, n4, Value.cells]
     refine x_nil ?_
     refine hK14 _ _ ?_
     refine x_ret ?_
     refine r_tmp rfl ?_
     exact ⟨by rw [hI]; rfl, hS.ext_of⟩
theorem c_ref06Text (l : List Int) (hl : l.length = 8) (hw : Byt l)  (w0 : World) :
    CallR Try.prog 65 #[.agg (ic .u8 l)] w0 fun v w' => v = .string (strOf (nmTxt l)) ∧ Ext w0 w' := by
 have hS : St NoB w0 w0 [] := St.start w0
 refine c_enter (l := [.agg (ic .u8 l), undef, undef, undef, undef, undef, undef, undef, undef, undef, undef, undef, undef, undef, undef, undef, undef, undef, undef, undef, undef, undef, undef]) Try.func65 rfl (by simp only [Try.ntmps65, List.size_toArray, List.length_cons, List.length_nil, Nat.reduceAdd, Nat.reduceSub, Array.replicate_succ, Array.replicate_zero, List.push_toArray, List.append_toArray, List.nil_append, List.cons_append]) ?_
 refine x_seq fun K1 hK1 => ?_
 refine x_region ?_
 refine m_box hS (fun w1 g1 hS => ?_)
 try simp only [opv, n1, n2, n3, n4, Value.cells, Array.toArray_toList] at hS ⊢
 refine s_go (s_assign) ?_
 try simp only [opv, n1, n2, n3, n4, Value.cells]
 refine x_nil ?_
 refine hK1 _ _ ?_
 refine x_seq fun K2 hK2 => ?_
 refine x_region ?_
 refine s_go (s_assign) ?_
 try simp only [opv, n1, n2, n3, n4, Value.cells]
 refine x_nil ?_
 refine hK2 _ _ ?_
 refine x_seq fun K3 hK3 => ?_
 refine x_seq fun K4 hK4 => ?_
 refine x_region ?_
 refine s_go (s_assign) ?_
 try simp only [opv, n1, n2, n3, n4, Value.cells]
 refine x_nil ?_
 refine hK4 _ _ ?_
 refine x_block ?_
 refine x_loop [3, 4, 5, 6, 7, 8, 9, 10, 11, 12, 13, 14, 15, 16, 17, 18, 19, 20, 21] (fun m f w => ∃ k : Nat, k ≤ 8 ∧ m = 8 - k ∧ f 4 = .int .i64 (k : Int) ∧ f 3 = .string (strOf (l.take k)) ∧ (∀ j, j < k → l.getD j 0 ≠ 0) ∧ St NoB w0 w [.obj g1 (.cells (ic .u8 l) 25 (0, 0))]) (8) ?init1 (fun m1 f1 wl1 hI => ?_)
 case init1 =>
  try simp only [opv, n1, n2, n3, n4, Value.cells]
  exact ⟨0, by omega, rfl, rfl, rfl, fun j hj => absurd hj (by omega), hS⟩
 obtain ⟨k, hk, hm, h4, h3, hz, hS⟩ := hI
 simp only [clob, List.foldl, n3, n4, h4, h3]
 refine x_seq fun K5 hK5 => ?_
 refine x_seq fun K6 hK6 => ?_
 refine x_region ?_
 refine s_go (s_move) ?_
 try simp only [opv, n1, n2, n3, n4, Value.cells]
 refine s_go (s_lss) ?_
 try simp only [opv, n1, n2, n3, n4, Value.cells]
 refine s_go (s_move) ?_
 try simp only [opv, n1, n2, n3, n4, Value.cells]
 refine s_part 7 rfl (fun hp1 => ?_) (fun hp1 => ?_)
 ·
  try simp only [n3, n4]
  try simp only [decide_eq_true_eq, decide_eq_false_iff_not, Bool.not_eq_true', Bool.not_eq_false', Int.not_lt, Int.not_le, ne_eq, Decidable.not_not] at hp1
  refine g_on (yi (t := 7) rfl rfl) ?_
  refine s_go (s_move) ?_
  try simp only [opv, n1, n2, n3, n4, Value.cells]
  refine g_on (yi (t := 7) rfl rfl) ?_
  refine s_go (m_indexAddr_arr Try.underlying25 ti5) ?_
  try simp only [opv, n1, n2, n3, n4, Value.cells, Nat.mul_one, Nat.zero_add, Int.toNat_natCast, Int.reduceToNat]
  refine g_on (yi (t := 7) rfl rfl) ?_
  refine s_go (m_load_obj Try.underlying5 (hS := hS)) ?_
  try simp only [opv, n1, n2, n3, n4, Value.cells, List.getElem_toArray, List.getElem_cons_zero, List.getElem_cons_succ]
  refine g_on (yi (t := 7) rfl rfl) ?_
  refine s_go (s_neq) ?_
  try simp only [opv, n1, n2, n3, n4, Value.cells]
  refine s_go (s_pick_t) ?_
  try simp only [opv, n1, n2, n3, n4, Value.cells]
  refine x_nil ?_
  refine hK6 _ _ ?_
  refine x_cond (ht := fun hc1 => ?_) (hf := fun hc1 => ?_)
  ·
   try simp only [decide_eq_true_eq, decide_eq_false_iff_not, Bool.not_eq_true', Bool.not_eq_false', Int.not_lt, Int.not_le, ne_eq, Decidable.not_not, bne_iff_ne, beq_iff_eq, not_true_eq_false, not_false_eq_true] at hc1
   refine x_skip ?_
   refine hK5 _ _ ?_
   refine x_seq fun K7 hK7 => ?_
   refine x_block ?_
   refine x_region ?_
   refine s_go (s_move) ?_
   try simp only [opv, n1, n2, n3, n4, Value.cells]
   refine s_go (s_move) ?_
   try simp only [opv, n1, n2, n3, n4, Value.cells]
   refine s_go (m_indexAddr_arr Try.underlying25 ti5) ?_
   try simp only [opv, n1, n2, n3, n4, Value.cells, Nat.mul_one, Nat.zero_add, Int.toNat_natCast, Int.reduceToNat]
   refine s_go (m_load_obj Try.underlying5 (hS := hS)) ?_
   try simp only [opv, n1, n2, n3, n4, Value.cells, List.getElem_toArray, List.getElem_cons_zero, List.getElem_cons_succ]
   refine m_buildRow (cells := #[_]) Try.underlying56 ti5 (hc := by simp only [List.map_toArray, List.map_cons, List.map_nil, opv, n1, n2, n3, n4, Value.cells, List.toList_toArray]; (repeat (refine fill_cons rfl rfl (Nat.le_of_ble_eq_true rfl) ?_)); rfl) (hS := hS) (h := fun w2 g2 hS => ?_)
   try simp only [opv, n1, n2, n3, n4, Value.cells, Array.toArray_toList] at hS ⊢
   replace hS := hS.obj_rd (sz := 1) (n := 1) rfl .head
   have hS : St NoB w0 w2 [.rd (some ⟨g2, 0, none⟩) 1 1 ([l.getD k 0].map (Value.int .u8)), .obj g1 (.cells (ic .u8 l) 25 (0, 0))] := hS
   refine s_go (m_bytes_str Try.underlying56 Try.underlying9 Try.underlying5 (hS := hS)) ?_
   try simp only [opv, n1, n2, n3, n4, Value.cells]
   refine s_go (s_add_str Try.underlying9 (hn := by rw [strOf_size, strOf_size]; simp; omega)) ?_
   try simp only [opv, n1, n2, n3, n4, Value.cells]
   rw [strOf_app]
   refine s_go (s_assign) ?_
   try simp only [opv, n1, n2, n3, n4, Value.cells]
   refine x_nil ?_
   refine hK7 _ _ ?_
   refine x_region ?_
   refine s_go (s_move) ?_
   try simp only [opv, n1, n2, n3, n4, Value.cells]
   refine s_go (s_add (hc := by exact wr_i64 (by omega) (by omega))) ?_
   try simp only [opv, n1, n2, n3, n4, Value.cells]
   refine s_go (s_assign) ?_
   try simp only [opv, n1, n2, n3, n4, Value.cells]
   refine x_nil ?_
   refine loop_back (m' := 8 - (k + 1)) (by simp only [clob, List.foldl, n1, n2, n3, n4]) ?_ ?_
   · try simp only [opv, n1, n2, n3, n4, Value.cells]
     exact ⟨k + 1, by omega, by omega, by rfl, by rw [take_succ_getD (by omega)], fun j hj => by rcases Nat.lt_or_eq_of_le (Nat.le_of_lt_succ hj) with h | h; exact hz j h; subst h; assumption, hS.sel (by repeat (first | exact Sel.nil | (refine Sel.cons (by repeat (first | exact Del.head | apply Del.tail)) ?_)))⟩
   · omega
  ·
   try simp only [decide_eq_true_eq, decide_eq_false_iff_not, Bool.not_eq_true', Bool.not_eq_false', Int.not_lt, Int.not_le, ne_eq, Decidable.not_not, bne_iff_ne, beq_iff_eq, not_true_eq_false, not_false_eq_true] at hc1
   have hT := nmTxt_of (l := l) (k := k) (by omega) hz (by exact .inr hc1)
   refine x_exit (look_here ?_)
   refine hK3 _ _ ?_
   refine x_seq fun K8 hK8 => ?_
   refine x_region ?_
   refine s_go (s_move) ?_
   try simp only [opv, n1, n2, n3, n4, Value.cells]
   refine s_go (s_assign) ?_
   try simp only [opv, n1, n2, n3, n4, Value.cells]
   refine x_nil ?_
   refine hK8 _ _ ?_
   refine x_ret ?_
   refine r_tmp rfl ?_
   exact ⟨by rw [← hT]; rfl, hS.ext_of⟩
 ·
  try simp only [n3, n4]
  try simp only [decide_eq_true_eq, decide_eq_false_iff_not, Bool.not_eq_true', Bool.not_eq_false', Int.not_lt, Int.not_le, ne_eq, Decidable.not_not] at hp1
  refine g_off (yi (t := 7) rfl rfl) ?_
  try simp only [opv, n1, n2, n3, n4, Value.cells]
  refine g_off (yi (t := 7) rfl rfl) ?_
  try simp only [opv, n1, n2, n3, n4, Value.cells]
  refine g_off (yi (t := 7) rfl rfl) ?_
  try simp only [opv, n1, n2, n3, n4, Value.cells]
  refine g_off (yi (t := 7) rfl rfl) ?_
  try simp only [opv, n1, n2, n3, n4, Value.cells]
  refine s_go (s_pick_f) ?_
  try simp only [opv, n1, n2, n3, n4, Value.cells]
  refine x_nil ?_
  refine hK6 _ _ ?_
  refine x_cond_f (h := ?_)
  have hT := nmTxt_of (l := l) (k := k) (by omega) hz (by exact .inl (by omega))
  refine x_exit (look_here ?_)
  refine hK3 _ _ ?_
  refine x_seq fun K9 hK9 => ?_
  refine x_region ?_
  refine s_go (s_move) ?_
  try simp only [opv, n1, n2, n3, n4, Value.cells]
  refine s_go (s_assign) ?_
  try simp only [opv, n1, n2, n3, n4, Value.cells]
  refine x_nil ?_
  refine hK9 _ _ ?_
  refine x_ret ?_
  refine r_tmp rfl ?_
  exact ⟨by rw [← hT]; rfl, hS.ext_of⟩
theorem c_ref06Pad (ns : List Int) (hw : Byt ns) (hn : ns.length ≤ 1000)  (w0 : World) :
    CallR Try.prog 66 #[.string (strOf ns)] w0 fun v w' => v = .agg (ic .u8 (padN ns)) ∧ Ext w0 w' := by
 have hS : St NoB w0 w0 [] := St.start w0
 refine c_enter (l := [.string (strOf ns), undef, undef, undef, undef, undef, undef, undef, undef, undef, undef, undef, undef, undef, undef, undef, undef, undef, undef, undef, undef]) Try.func66 rfl (by simp only [Try.ntmps66, List.size_toArray, List.length_cons, List.length_nil, Nat.reduceAdd, Nat.reduceSub, Array.replicate_succ, Array.replicate_zero, List.push_toArray, List.append_toArray, List.nil_append, List.cons_append]) ?_
 refine x_seq fun K1 hK1 => ?_
 refine x_region ?_
 refine m_alloc ti25 hS (fun w1 g1 hS => ?_)
 try simp only [opv, n1, n2, n3, n4, Value.cells, Array.toArray_toList] at hS ⊢
 refine x_nil ?_
 refine hK1 _ _ ?_
 refine x_seq fun K2 hK2 => ?_
 refine x_region ?_
 refine m_alloc ti25 hS (fun w2 g2 hS => ?_)
 try simp only [opv, n1, n2, n3, n4, Value.cells, Array.toArray_toList] at hS ⊢
 have hS : St NoB w0 w2 [.obj g2 (.cells (ic .u8 nm0) 25 (0, 0)), .obj g1 (.cells (ic .u8 nm0) 25 (0, 0))] := hS
 refine x_nil ?_
 refine hK2 _ _ ?_
 refine x_seq fun K3 hK3 => ?_
 refine x_seq fun K4 hK4 => ?_
 refine x_region ?_
 refine s_go (s_assign) ?_
 try simp only [opv, n1, n2, n3, n4, Value.cells]
 refine x_nil ?_
 refine hK4 _ _ ?_
 refine x_block ?_
 refine x_loop [4, 5, 6, 7, 8, 9, 10, 11, 12, 13, 14, 15, 16, 17, 18, 19] (fun m f w => ∃ k : Nat, k ≤ ns.length ∧ k ≤ 8 ∧ m = 8 - k ∧ f 4 = .int .i64 (k : Int) ∧ St NoB w0 w [.obj g2 (.cells (ic .u8 (padT ns k)) 25 (0, 0)), .obj g1 (.cells (ic .u8 nm0) 25 (0, 0))]) (8) ?init1 (fun m1 f1 wl1 hI => ?_)
 case init1 =>
  try simp only [opv, n1, n2, n3, n4, Value.cells]
  exact ⟨0, by omega, by omega, rfl, rfl, by rw [padT_zero]; exact hS⟩
 obtain ⟨k, hk, hk8, hm, h4, hS⟩ := hI
 simp only [clob, List.foldl, n3, n4, h4]
 have hpl := padT_len hk hk8
 have hbk := hw.get k
 have h0l : nm0.length = 8 := rfl
 refine x_seq fun K5 hK5 => ?_
 refine x_seq fun K6 hK6 => ?_
 refine x_region ?_
 refine s_go (s_move) ?_
 try simp only [opv, n1, n2, n3, n4, Value.cells]
 refine s_go (s_move) ?_
 try simp only [opv, n1, n2, n3, n4, Value.cells]
 refine s_go (s_len_str Try.underlying9) ?_
 try simp only [opv, n1, n2, n3, n4, Value.cells]
 rw [strOf_size]
 refine s_go (s_lss) ?_
 try simp only [opv, n1, n2, n3, n4, Value.cells]
 refine s_go (s_move) ?_
 try simp only [opv, n1, n2, n3, n4, Value.cells]
 refine s_part 9 rfl (fun hp1 => ?_) (fun hp1 => ?_)
 ·
  try simp only [n3, n4]
  try simp only [decide_eq_true_eq, decide_eq_false_iff_not, Bool.not_eq_true', Bool.not_eq_false', Int.not_lt, Int.not_le, ne_eq, Decidable.not_not] at hp1
  refine g_on (yi (t := 9) rfl rfl) ?_
  refine s_go (s_move) ?_
  try simp only [opv, n1, n2, n3, n4, Value.cells]
  refine g_on (yi (t := 9) rfl rfl) ?_
  refine s_go (s_lss) ?_
  try simp only [opv, n1, n2, n3, n4, Value.cells]
  refine s_go (s_pick_t) ?_
  try simp only [opv, n1, n2, n3, n4, Value.cells]
  refine x_nil ?_
  refine hK6 _ _ ?_
  refine x_cond (ht := fun hc1 => ?_) (hf := fun hc1 => ?_)
  ·
   try simp only [decide_eq_true_eq, decide_eq_false_iff_not, Bool.not_eq_true', Bool.not_eq_false', Int.not_lt, Int.not_le, ne_eq, Decidable.not_not, bne_iff_ne, beq_iff_eq, not_true_eq_false, not_false_eq_true] at hc1
   refine x_skip ?_
   refine hK5 _ _ ?_
   refine x_seq fun K7 hK7 => ?_
   refine x_block ?_
   refine x_region ?_
   refine s_go (s_move) ?_
   try simp only [opv, n1, n2, n3, n4, Value.cells]
   refine s_go (s_move) ?_
   try simp only [opv, n1, n2, n3, n4, Value.cells]
   refine s_go (s_move) ?_
   try simp only [opv, n1, n2, n3, n4, Value.cells]
   refine s_go (s_index_str Try.underlying9 (hb := strOf_get (a := ns) (i := k) (by omega))) ?_
   try simp only [opv, n1, n2, n3, n4, Value.cells, Nat.mul_one, Nat.zero_add, Int.toNat_natCast, Int.reduceToNat]
   rw [u8_back hbk]
   refine s_go (m_indexAddr_arr Try.underlying25 ti5) ?_
   try simp only [opv, n1, n2, n3, n4, Value.cells, Nat.mul_one, Nat.zero_add, Int.toNat_natCast, Int.reduceToNat]
   refine m_store_obj ti5 (hS := hS) (h := fun w3 hS => ?_)
   try simp only [opv, n1, n2, n3, n4, Value.cells, Array.toArray_toList] at hS ⊢
   refine x_nil ?_
   refine hK7 _ _ ?_
   refine x_region ?_
   refine s_go (s_move) ?_
   try simp only [opv, n1, n2, n3, n4, Value.cells]
   refine s_go (s_add (hc := by exact wr_i64 (by omega) (by omega))) ?_
   try simp only [opv, n1, n2, n3, n4, Value.cells]
   refine s_go (s_assign) ?_
   try simp only [opv, n1, n2, n3, n4, Value.cells]
   refine x_nil ?_
   refine loop_back (m' := 8 - (k + 1)) (by simp only [clob, List.foldl, n1, n2, n3, n4]) ?_ ?_
   · try simp only [opv, n1, n2, n3, n4, Value.cells]
     exact ⟨k + 1, by omega, by omega, by omega, by rfl, by rw [← padT_set (by omega) (by omega)]; exact hS⟩
   · omega
  ·
   try simp only [decide_eq_true_eq, decide_eq_false_iff_not, Bool.not_eq_true', Bool.not_eq_false', Int.not_lt, Int.not_le, ne_eq, Decidable.not_not, bne_iff_ne, beq_iff_eq, not_true_eq_false, not_false_eq_true] at hc1
   have hP := padT_all hk hk8 (by omega)
   rw [hP] at hS hpl
   refine x_exit (look_here ?_)
   refine hK3 _ _ ?_
   refine x_seq fun K8 hK8 => ?_
   refine x_region ?_
   refine s_go (m_load_row Try.underlying25 (hi := ti25) (hS := hS)) ?_
   try simp only [opv, n1, n2, n3, n4, Value.cells, List.getElem_toArray, List.getElem_cons_zero, List.getElem_cons_succ]
   refine m_store_obj ti25 (hS := hS) (h := fun w4 hS => ?_)
   try simp only [opv, n1, n2, n3, n4, Value.cells, Array.toArray_toList] at hS ⊢
   refine x_nil ?_
   refine hK8 _ _ ?_
   refine x_ret ?_
   refine r_cell_agg rfl Try.underlying25 ti25 (hS := hS) (hR := ?_)
   exact ⟨rfl, hS.ext_of⟩
 ·
  try simp only [n3, n4]
  try simp only [decide_eq_true_eq, decide_eq_false_iff_not, Bool.not_eq_true', Bool.not_eq_false', Int.not_lt, Int.not_le, ne_eq, Decidable.not_not] at hp1
  refine g_off (yi (t := 9) rfl rfl) ?_
  try simp only [opv, n1, n2, n3, n4, Value.cells]
  refine g_off (yi (t := 9) rfl rfl) ?_
  try simp only [opv, n1, n2, n3, n4, Value.cells]
  refine s_go (s_pick_f) ?_
  try simp only [opv, n1, n2, n3, n4, Value.cells]
  refine x_nil ?_
  refine hK6 _ _ ?_
  refine x_cond_f (h := ?_)
  have hP := padT_all hk hk8 (by omega)
  rw [hP] at hS hpl
  refine x_exit (look_here ?_)
  refine hK3 _ _ ?_
  refine x_seq fun K9 hK9 => ?_
  refine x_region ?_
  refine s_go (m_load_row Try.underlying25 (hi := ti25) (hS := hS)) ?_
  try simp only [opv, n1, n2, n3, n4, Value.cells, List.getElem_toArray, List.getElem_cons_zero, List.getElem_cons_succ]
  refine m_store_obj ti25 (hS := hS) (h := fun w5 hS => ?_)
  try simp only [opv, n1, n2, n3, n4, Value.cells, Array.toArray_toList] at hS ⊢
  refine x_nil ?_
  refine hK9 _ _ ?_
  refine x_ret ?_
  refine r_cell_agg rfl Try.underlying25 ti25 (hS := hS) (hR := ?_)
  exact ⟨rfl, hS.ext_of⟩
theorem c_ref06Right (l : List Int) (hl : l.length = 8) (hw : Byt l)  (w0 : World) :
    CallR Try.prog 23 #[.agg (ic .u8 l)] w0 fun v w' => v = .bool (nright l) ∧ Ext w0 w' := by
 have hS : St NoB w0 w0 [] := St.start w0
 refine c_enter (l := [.agg (ic .u8 l), undef, undef, undef, undef, undef, undef, undef, undef, undef, undef, undef, undef]) Try.func23 rfl (by simp only [Try.ntmps23, List.size_toArray, List.length_cons, List.length_nil, Nat.reduceAdd, Nat.reduceSub, Array.replicate_succ, Array.replicate_zero, List.push_toArray, List.append_toArray, List.nil_append, List.cons_append]) ?_
 refine x_seq fun K1 hK1 => ?_
 refine x_region ?_
 refine m_box hS (fun w1 g1 hS => ?_)
 try simp only [opv, n1, n2, n3, n4, Value.cells, Array.toArray_toList] at hS ⊢
 refine s_go (s_assign) ?_
 try simp only [opv, n1, n2, n3, n4, Value.cells]
 refine x_nil ?_
 refine hK1 _ _ ?_
 refine x_seq fun K2 hK2 => ?_
 refine x_quiet (by kernel_rfl) (by kernel_rfl) hS ?_
 have hs := nsz_le l
 have htl := nmTxt_len l
 have htb := nmTxt_byt hw
 have hpl := padN_len (nmTxt l)
 refine q_go (fun w hS => m_load_row Try.underlying25 (hi := ti25) (hS := hS)) ?_
 try simp only [opv, n1, n2, n3, n4, Value.cells, List.getElem_toArray, List.getElem_cons_zero, List.getElem_cons_succ]
 apply q_call en65
 case H =>
   intro w hS
   try simp only [opv, n1, n2, n3, n4, List.map_toArray, List.map_cons, List.map_nil, List.append_toArray, List.cons_append, List.nil_append, Array.append_empty]
   refine CallR.mono (c_ref06Text _ (by assumption) (by assumption) _) ?_
   rintro _ w1 ⟨rfl, hE⟩; exact ⟨rfl, hS.ext hE⟩
 try simp only [opv, n1, n2, n3, n4, Value.cells]
 apply q_call en64
 case H =>
   intro w hS
   try simp only [opv, n1, n2, n3, n4, List.map_toArray, List.map_cons, List.map_nil, List.append_toArray, List.cons_append, List.nil_append, Array.append_empty]
   refine CallR.mono (c_ref06Is _ htb (by omega) _) ?_
   rintro _ w1 ⟨rfl, hE⟩; exact ⟨rfl, hS.ext hE⟩
 try simp only [opv, n1, n2, n3, n4, Value.cells]
 refine q_go (fun w hS => s_move) ?_
 try simp only [opv, n1, n2, n3, n4, Value.cells]
 refine q_part 6 rfl (fun hp1 => ?_) (fun hp1 => ?_)
 ·
  try simp only [n3, n4]
  try simp only [decide_eq_true_eq, decide_eq_false_iff_not, Bool.not_eq_true', Bool.not_eq_false', Int.not_lt, Int.not_le, ne_eq, Decidable.not_not] at hp1
  refine q_on (yi (t := 6) rfl rfl) ?_
  refine q_go (fun w hS => m_load_row Try.underlying25 (hi := ti25) (hS := hS)) ?_
  try simp only [opv, n1, n2, n3, n4, Value.cells, List.getElem_toArray, List.getElem_cons_zero, List.getElem_cons_succ]
  refine q_on (yi (t := 6) rfl rfl) ?_
  apply q_call en65
  case H =>
    intro w hS
    try simp only [opv, n1, n2, n3, n4, List.map_toArray, List.map_cons, List.map_nil, List.append_toArray, List.cons_append, List.nil_append, Array.append_empty]
    refine CallR.mono (c_ref06Text _ (by assumption) (by assumption) _) ?_
    rintro _ w1 ⟨rfl, hE⟩; exact ⟨rfl, hS.ext hE⟩
  try simp only [opv, n1, n2, n3, n4, Value.cells]
  refine q_on (yi (t := 6) rfl rfl) ?_
  apply q_call en66
  case H =>
    intro w hS
    try simp only [opv, n1, n2, n3, n4, List.map_toArray, List.map_cons, List.map_nil, List.append_toArray, List.cons_append, List.nil_append, Array.append_empty]
    refine CallR.mono (c_ref06Pad _ htb (by omega) _) ?_
    rintro _ w1 ⟨rfl, hE⟩; exact ⟨rfl, hS.ext hE⟩
  try simp only [opv, n1, n2, n3, n4, Value.cells]
  refine q_on (yi (t := 6) rfl rfl) ?_
  refine q_go (fun w hS => m_load_row Try.underlying25 (hi := ti25) (hS := hS)) ?_
  try simp only [opv, n1, n2, n3, n4, Value.cells, List.getElem_toArray, List.getElem_cons_zero, List.getElem_cons_succ]
  refine q_on (yi (t := 6) rfl rfl) ?_
  refine q_go (fun w hS => s_eql_agg eqv25 (hg := eg25) (hX := zi_ic (by assumption)) (hY := zi_ic (by assumption)) (h1 := by assumption) (h2 := by assumption)) ?_
  try simp only [opv, n1, n2, n3, n4, Value.cells]
  refine q_go (fun w hS => s_pick_t) ?_
  try simp only [opv, n1, n2, n3, n4, Value.cells]
  refine q_go (fun w hS => s_assign) ?_
  try simp only [opv, n1, n2, n3, n4, Value.cells]
  clear hS
  refine q_nil fun w2 hS => ?_
  refine hK2 _ _ ?_
  refine x_ret ?_
  refine r_tmp rfl ?_
  exact ⟨congrArg Value.bool (by simp only [nright_eq hl, *, Bool.true_and, Bool.false_and]), hS.ext_of⟩
 ·
  try simp only [n3, n4]
  try simp only [decide_eq_true_eq, decide_eq_false_iff_not, Bool.not_eq_true', Bool.not_eq_false', Int.not_lt, Int.not_le, ne_eq, Decidable.not_not] at hp1
  refine q_off (yi (t := 6) rfl rfl) ?_
  try simp only [opv, n1, n2, n3, n4, Value.cells]
  refine q_off (yi (t := 6) rfl rfl) ?_
  try simp only [opv, n1, n2, n3, n4, Value.cells]
  refine q_off (yi (t := 6) rfl rfl) ?_
  try simp only [opv, n1, n2, n3, n4, Value.cells]
  refine q_off (yi (t := 6) rfl rfl) ?_
  try simp only [opv, n1, n2, n3, n4, Value.cells]
  refine q_off (yi (t := 6) rfl rfl) ?_
  try simp only [opv, n1, n2, n3, n4, Value.cells]
  refine q_go (fun w hS => s_pick_f) ?_
  try simp only [opv, n1, n2, n3, n4, Value.cells]
  refine q_go (fun w hS => s_assign) ?_
  try simp only [opv, n1, n2, n3, n4, Value.cells]
  clear hS
  refine q_nil fun w3 hS => ?_
  refine hK2 _ _ ?_
  refine x_ret ?_
  refine r_tmp rfl ?_
  exact ⟨congrArg Value.bool (by simp only [nright_eq hl, *, Bool.true_and, Bool.false_and]), hS.ext_of⟩
theorem c_nameLess (a b : List Int) (ha : a.length = 8) (hb : b.length = 8) (hwa : Byt a) (hwb : Byt b)  (w0 : World) :
    CallR Try.prog 138 #[.agg (ic .u8 a), .agg (ic .u8 b)] w0 fun v w' => v = .bool (decide (numN a < numN b)) ∧ Ext w0 w' := by
 have hS : St NoB w0 w0 [] := St.start w0
 refine c_enter (l := [.agg (ic .u8 a), .agg (ic .u8 b), undef, undef, undef, undef, undef, undef, undef, undef]) Try.func138 rfl (by simp only [Try.ntmps138, List.size_toArray, List.length_cons, List.length_nil, Nat.reduceAdd, Nat.reduceSub, Array.replicate_succ, Array.replicate_zero, List.push_toArray, List.append_toArray, List.nil_append, List.cons_append]) ?_
 refine x_seq fun K1 hK1 => ?_
 refine x_region ?_
 refine m_box hS (fun w1 g1 hS => ?_)
 try simp only [opv, n1, n2, n3, n4, Value.cells, Array.toArray_toList] at hS ⊢
 refine m_box hS (fun w2 g2 hS => ?_)
 try simp only [opv, n1, n2, n3, n4, Value.cells, Array.toArray_toList] at hS ⊢
 refine s_go (s_assign) ?_
 try simp only [opv, n1, n2, n3, n4, Value.cells]
 refine x_nil ?_
 refine hK1 _ _ ?_
 refine x_seq fun K2 hK2 => ?_
 refine x_quiet (by kernel_rfl) (by kernel_rfl) hS ?_
 refine q_go (fun w hS => m_load_row Try.underlying25 (hi := ti25) (hS := hS)) ?_
 try simp only [opv, n1, n2, n3, n4, Value.cells, List.getElem_toArray, List.getElem_cons_zero, List.getElem_cons_succ]
 apply q_call en146
 case H =>
   intro w hS
   try simp only [opv, n1, n2, n3, n4, List.map_toArray, List.map_cons, List.map_nil, List.append_toArray, List.cons_append, List.nil_append, Array.append_empty]
   refine CallR.mono (c_nameNumber a ha hwa _) ?_
   rintro _ w1 ⟨rfl, hE⟩; exact ⟨rfl, hS.ext hE⟩
 try simp only [opv, n1, n2, n3, n4, Value.cells]
 refine q_go (fun w hS => m_load_row Try.underlying25 (hi := ti25) (hS := hS)) ?_
 try simp only [opv, n1, n2, n3, n4, Value.cells, List.getElem_toArray, List.getElem_cons_zero, List.getElem_cons_succ]
 apply q_call en146
 case H =>
   intro w hS
   try simp only [opv, n1, n2, n3, n4, List.map_toArray, List.map_cons, List.map_nil, List.append_toArray, List.cons_append, List.nil_append, Array.append_empty]
   refine CallR.mono (c_nameNumber b hb hwb _) ?_
   rintro _ w1 ⟨rfl, hE⟩; exact ⟨rfl, hS.ext hE⟩
 try simp only [opv, n1, n2, n3, n4, Value.cells]
 refine q_go (fun w hS => s_lss) ?_
 try simp only [opv, n1, n2, n3, n4, Value.cells]
 refine q_go (fun w hS => s_assign) ?_
 try simp only [opv, n1, n2, n3, n4, Value.cells]
 clear hS
 refine q_nil fun w3 hS => ?_
 refine hK2 _ _ ?_
 refine x_ret ?_
 refine r_tmp rfl ?_
 exact ⟨congrArg Value.bool (by rw [Bool.eq_iff_iff]; simp only [decide_eq_true_eq]; omega), hS.ext_of⟩
end Go.Proofs.Ytffmanidnlbjjaa
namespace Go.Proofs.Ytffmanidnlbjjaa
abbrev keyKs : List IntKind := [.u8, .u16, .u8, .u8, .u8, .u8, .u8, .u8, .u8, .u8, .u8, .u32]
abbrev KA (x : List Int) : Array Value := (zi keyKs x).toArray
def kn (x : List Int) (i : Nat) : Nat := (x.getD i 0).toNat
def kitem (x : List Int) : List Int := (x.drop 2).take 8
structure KeyOk (x : List Int) : Prop where
  len : x.length = 12
  e0 : x.getD 0 0 = (kn x 0 : Int)
  b0 : kn x 0 < 256
  e1 : x.getD 1 0 = (kn x 1 : Int)
  b1 : kn x 1 < 65536
  item : Byt (kitem x)
  e10 : x.getD 10 0 = (kn x 10 : Int)
  b10 : kn x 10 < 256
  e11 : x.getD 11 0 = (kn x 11 : Int)
  b11 : kn x 11 < 4294967296
theorem kitem_len {x : List Int} (h : x.length = 12) : (kitem x).length = 8 := by simp [kitem, h]
theorem key_cut {x : List Int} (h : x.length = 12) : x = [x.getD 0 0, x.getD 1 0] ++ kitem x ++ [x.getD 10 0, x.getD 11 0] := by
  obtain ⟨a, b, c, d, e, f, g, i, j, k, l, m, rfl⟩ : ∃ a b c d e f g i j k l m, x = [a, b, c, d, e, f, g, i, j, k, l, m] := by
    match x, h with
    | [a, b, c, d, e, f, g, i, j, k, l, m], _ => exact ⟨a, b, c, d, e, f, g, i, j, k, l, m, rfl⟩
  rfl
theorem key_item {x : List Int} (h : x.length = 12) : (((KA x).toList.drop 2).take 8).toArray = ic .u8 (kitem x) := by
  obtain ⟨a, b, c, d, e, f, g, i, j, k, l, m, rfl⟩ : ∃ a b c d e f g i j k l m, x = [a, b, c, d, e, f, g, i, j, k, l, m] := by
    match x, h with
    | [a, b, c, d, e, f, g, i, j, k, l, m], _ => exact ⟨a, b, c, d, e, f, g, i, j, k, l, m, rfl⟩
  rfl
def mkKey (s c : Nat) (l : List Int) (r q : Nat) : List Int := [(s : Int), (c : Int)] ++ l ++ [(r : Int), (q : Int)]
theorem mkKey_len {s c r q : Nat} {l : List Int} (h : l.length = 8) : (mkKey s c l r q).length = 12 := by simp [mkKey, h]
theorem mkKey_ok {s c r q : Nat} {l : List Int} (h : l.length = 8) (hl : Byt l) (hs : s < 256) (hc : c < 65536) (hr : r < 256) (hq : q < 4294967296) : KeyOk (mkKey s c l r q) := by
  match l, h with
  | [_, _, _, _, _, _, _, _], _ => exact ⟨rfl, rfl, hs, rfl, hc, hl, rfl, hr, rfl, hq⟩
section
variable {s c r q : Nat} {l : List Int}
end
theorem key_mk {x : List Int} (h : KeyOk x) : x = mkKey (kn x 0) (kn x 1) (kitem x) (kn x 10) (kn x 11) := by
  have := key_cut h.len
  rw [h.e0, h.e1, h.e10, h.e11] at this
  exact this
def dotN (x : List Int) : Nat := 4294967296 * kn x 10 + kn x 11
def headN (x : List Int) : Nat := 65536 * kn x 0 + kn x 1
theorem dotN_lt {x : List Int} (h : KeyOk x) : dotN x < 1099511627776 := by have := h.b10; have := h.b11; unfold dotN; omega
def wordsL (x : List Int) : List Int := [(headN x : Int), (numN (kitem x) : Int), (dotN x : Int)]
def bareK (x : List Int) : List Int := mkKey (kn x 0) (kn x 1) nm0 0 0
def keyR (x : List Int) : Bool :=
  if kn x 0 = 4 then decide (x = bareK x) else
  if kn x 0 = 1 then decide (kn x 11 ≠ 0) && nright (kitem x) && decide (kn x 10 < 16) else
  if kn x 0 = 2 ∨ kn x 0 = 3 then decide (kn x 11 = 0) && nright (kitem x) && decide (kn x 10 < 16) else false
def lexLt : List Int → List Int → Bool
  | a :: x, b :: y => if a = b then lexLt x y else decide (a < b)
  | _, _ => false
theorem lexLt_at : ∀ {a b : List Int} {k : Nat}, k < a.length → k < b.length → (∀ j, j < k → a.getD j 0 = b.getD j 0) → a.getD k 0 ≠ b.getD k 0 → lexLt a b = decide (a.getD k 0 < b.getD k 0)
  | [], _, k, h, _, _, _ => by simp at h
  | _ :: _, [], k, _, h, _, _ => by simp at h
  | a :: x, b :: y, 0, _, _, _, hne => by simp at hne; simp [lexLt, hne]
  | a :: x, b :: y, k + 1, h1, h2, he, hne => by
    have e0 : a = b := by simpa using he 0 (by omega)
    rw [lexLt, if_pos e0]
    have := lexLt_at (a := x) (b := y) (k := k) (by simpa using h1) (by simpa using h2) (fun j hj => by simpa using he (j + 1) (by omega)) (by simpa using hne)
    simpa using this
theorem lexLt_same : ∀ (a : List Int), lexLt a a = false
  | [] => rfl
  | _ :: a => by rw [lexLt, if_pos rfl, lexLt_same a]
theorem w3_ext {a b : List Int} (ha : a.length = 3) (hb : b.length = 3) (h : ∀ j, j < 3 → a.getD j 0 = b.getD j 0) : a = b := by
  match a, b, ha, hb with
  | [_, _, _], [_, _, _], _, _ =>
    have h0 := h 0 (by omega); have h1 := h 1 (by omega); have h2 := h 2 (by omega)
    simp at h0 h1 h2; rw [h0, h1, h2]
theorem lexLt_eq {a b : List Int} (h : a.length = b.length) (he : ∀ j, j < a.length → a.getD j 0 = b.getD j 0) : lexLt a b = false := by
  have : a = b := by
    refine List.ext_getElem h fun i h1 h2 => ?_
    have := he i h1
    simpa [List.getD_eq_getElem?_getD, List.getElem?_eq_getElem h1, List.getElem?_eq_getElem h2] using this
  rw [this, lexLt_same]
def key0 : List Int := mkKey 0 0 nm0 0 0
def keyLt (x y : List Int) : Bool := lexLt (wordsL x) (wordsL y)
end Go.Proofs.Ytffmanidnlbjjaa
set_option linter.unusedSimpArgs false
set_option linter.unusedVariables false
set_option maxHeartbeats 800000
set_option maxRecDepth 100000
namespace Go.Proofs.Ytffmanidnlbjjaa
open Go.RowKit
theorem c_keyDot (x : List Int) (hk : KeyOk x)  (w0 : World) :
    CallR Try.prog 166 #[.agg (KA x)] w0 fun v w' => v = .int .u64 (dotN x : Int) ∧ Ext w0 w' := by
 have hS : St NoB w0 w0 [] := St.start w0
 refine c_enter (l := [.agg (KA x), undef, undef, undef, undef, undef, undef, undef, undef, undef, undef]) Try.func166 rfl (by simp only [Try.ntmps166, List.size_toArray, List.length_cons, List.length_nil, Nat.reduceAdd, Nat.reduceSub, Array.replicate_succ, Array.replicate_zero, List.push_toArray, List.append_toArray, List.nil_append, List.cons_append]) ?_
 refine x_seq fun K1 hK1 => ?_
 refine x_region ?_
 refine m_box hS (fun w1 g1 hS => ?_)
 try simp only [opv, n1, n2, n3, n4, Value.cells, Array.toArray_toList] at hS ⊢
 refine s_go (s_assign) ?_
 try simp only [opv, n1, n2, n3, n4, Value.cells]
 refine x_nil ?_
 refine hK1 _ _ ?_
 refine x_seq fun K2 hK2 => ?_
 refine x_region ?_
 have hkl := hk.len
 have hb10 := hk.b10
 have hb11 := hk.b11
 refine s_go (m_fieldAddr Try.underlying43 (hi := ti5)) ?_
 try simp only [opv, n1, n2, n3, n4, Value.cells, Nat.zero_add, Nat.add_zero, List.getElem_toArray, List.getElem_cons_zero, List.getElem_cons_succ]
 refine s_go (m_load_obj Try.underlying5 (hS := hS) (hv := by exact zi_get rfl (by omega))) ?_
 try simp only [opv, n1, n2, n3, n4, Value.cells, List.getElem_toArray, List.getElem_cons_zero, List.getElem_cons_succ]
 rw [hk.e10]
 refine s_go (s_conv Try.underlying5 Try.underlying48 (hc := by exact wr_u64 (by omega) (by omega))) ?_
 try simp only [opv, n1, n2, n3, n4, Value.cells]
 refine s_go (s_shl (hc := shl_lt64 (r := kn x 10) (n := 32) rfl (by omega))) ?_
 try simp only [opv, n1, n2, n3, n4, Value.cells]
 refine s_go (m_fieldAddr Try.underlying43 (hi := ti29)) ?_
 try simp only [opv, n1, n2, n3, n4, Value.cells, Nat.zero_add, Nat.add_zero, List.getElem_toArray, List.getElem_cons_zero, List.getElem_cons_succ]
 refine s_go (m_load_obj Try.underlying29 (hS := hS) (hv := by exact zi_get rfl (by omega))) ?_
 try simp only [opv, n1, n2, n3, n4, Value.cells, List.getElem_toArray, List.getElem_cons_zero, List.getElem_cons_succ]
 rw [hk.e11]
 refine s_go (s_conv Try.underlying29 Try.underlying48 (hc := by exact wr_u64 (by omega) (by omega))) ?_
 try simp only [opv, n1, n2, n3, n4, Value.cells]
 refine s_go (s_bits (by simp) (hc := or_hi64 (n := 32) hb11 (by omega))) ?_
 try simp only [opv, n1, n2, n3, n4, Value.cells]
 refine s_go (s_assign) ?_
 try simp only [opv, n1, n2, n3, n4, Value.cells]
 refine x_nil ?_
 refine hK2 _ _ ?_
 refine x_ret ?_
 refine r_tmp rfl ?_
 exact ⟨rfl, hS.ext_of⟩
end Go.Proofs.Ytffmanidnlbjjaa
set_option linter.unusedSimpArgs false
set_option linter.unusedVariables false
set_option maxHeartbeats 800000
set_option maxRecDepth 100000
namespace Go.Proofs.Ytffmanidnlbjjaa
open Go.RowKit
theorem c_keyWords (x : List Int) (hk : KeyOk x)  (w0 : World) :
    CallR Try.prog 157 #[.agg (KA x)] w0 fun v w' => v = .agg (ic .u64 (wordsL x)) ∧ Ext w0 w' := by
 have hS : St NoB w0 w0 [] := St.start w0
 refine c_enter (l := [.agg (KA x), undef, undef, undef, undef, undef, undef, undef, undef, undef, undef, undef, undef, undef, undef, undef, undef]) Try.func157 rfl (by simp only [Try.ntmps157, List.size_toArray, List.length_cons, List.length_nil, Nat.reduceAdd, Nat.reduceSub, Array.replicate_succ, Array.replicate_zero, List.push_toArray, List.append_toArray, List.nil_append, List.cons_append]) ?_
 refine x_seq fun K1 hK1 => ?_
 refine x_region ?_
 have hkl := hk.len
 have hb0 := hk.b0
 have hb1 := hk.b1
 have hb10 := hk.b10
 have hb11 := hk.b11
 have hil := kitem_len hk.len
 have hib := hk.item
 refine m_box hS (fun w1 g1 hS => ?_)
 try simp only [opv, n1, n2, n3, n4, Value.cells, Array.toArray_toList] at hS ⊢
 refine m_alloc ti133 hS (fun w2 g2 hS => ?_)
 try simp only [opv, n1, n2, n3, n4, Value.cells, Array.toArray_toList] at hS ⊢
 have hS : St NoB w0 w2 [.obj g2 (.cells (ic .u64 [0, 0, 0]) 133 (0, 0)), .obj g1 (.cells (KA x) 43 (0, 0))] := hS
 refine x_nil ?_
 refine hK1 _ _ ?_
 refine x_seq fun K2 hK2 => ?_
 refine x_mixed_f [14] 0 [3, 4, 5, 6, 7, 8, 9, 10, 11, 12, 13, 14, 15, 16] (fun f w => St NoB w0 w [.obj g2 (.cells (ic .u64 (wordsL x)) 133 (0, 0)), .obj g1 (.cells (KA x) 43 (0, 0))]) (by kernel_rfl) (by kernel_rfl) (by kernel_rfl) (by decide) hS (fun w3 hS => ?mixpre101) ?mixrest101
 case mixpre101 =>
  refine p_nil ?_
  simp only [List.length_cons, List.length_nil, Nat.reduceAdd, Nat.reduceSub]
  refine any_go (i := 0) (by rfl) (by decide +kernel) (by decide +kernel) (by unfold noLate; decide) (go_yields w_none (fun w hS => m_fieldAddr Try.underlying43 (hi := ti5))) ?_
  try simp only [opv, n1, n2, n3, n4, Value.cells, Nat.zero_add, Nat.add_zero, List.getElem_toArray, List.getElem_cons_zero, List.getElem_cons_succ]
  refine any_go (i := 1) (by rfl) (by decide +kernel) (by decide +kernel) (by unfold noLate; decide) (go_yields w_none (fun w hS => m_load_obj Try.underlying5 (hS := hS) (hv := by exact zi_get rfl (by omega)))) ?_
  try simp only [opv, n1, n2, n3, n4, Value.cells, List.getElem_toArray, List.getElem_cons_zero, List.getElem_cons_succ]
  rw [hk.e0]
  refine any_go (i := 2) (by rfl) (by decide +kernel) (by decide +kernel) (by unfold noLate; decide) (go_yields w_none (fun w hS => s_conv Try.underlying5 Try.underlying48 (hc := by exact wr_u64 (by omega) (by omega)))) ?_
  try simp only [opv, n1, n2, n3, n4, Value.cells]
  refine any_go (i := 3) (by rfl) (by decide +kernel) (by decide +kernel) (by unfold noLate; decide) (go_yields w_none (fun w hS => s_shl (hc := shl_lt64 (r := kn x 0) (n := 16) rfl (by omega)))) ?_
  try simp only [opv, n1, n2, n3, n4, Value.cells]
  refine any_go (i := 4) (by rfl) (by decide +kernel) (by decide +kernel) (by unfold noLate; decide) (go_yields w_none (fun w hS => m_fieldAddr Try.underlying43 (hi := ti23))) ?_
  try simp only [opv, n1, n2, n3, n4, Value.cells, Nat.zero_add, Nat.add_zero, List.getElem_toArray, List.getElem_cons_zero, List.getElem_cons_succ]
  refine any_go (i := 5) (by rfl) (by decide +kernel) (by decide +kernel) (by unfold noLate; decide) (go_yields w_none (fun w hS => m_load_obj Try.underlying23 (hS := hS) (hv := by exact zi_get rfl (by omega)))) ?_
  try simp only [opv, n1, n2, n3, n4, Value.cells, List.getElem_toArray, List.getElem_cons_zero, List.getElem_cons_succ]
  rw [hk.e1]
  refine any_go (i := 6) (by rfl) (by decide +kernel) (by decide +kernel) (by unfold noLate; decide) (go_yields w_none (fun w hS => s_conv Try.underlying23 Try.underlying48 (hc := by exact wr_u64 (by omega) (by omega)))) ?_
  try simp only [opv, n1, n2, n3, n4, Value.cells]
  refine any_go (i := 7) (by rfl) (by decide +kernel) (by decide +kernel) (by unfold noLate; decide) (go_yields w_none (fun w hS => s_bits (by simp) (hc := or_hi64 (n := 16) (show kn x 1 < 2 ^ 16 from hb1) (by omega)))) ?_
  try simp only [opv, n1, n2, n3, n4, Value.cells]
  refine any_go (i := 8) (by rfl) (by decide +kernel) (by decide +kernel) (by unfold noLate; decide) (go_yields w_none (fun w hS => m_fieldAddr Try.underlying43 (hi := ti25))) ?_
  try simp only [opv, n1, n2, n3, n4, Value.cells, Nat.zero_add, Nat.add_zero, List.getElem_toArray, List.getElem_cons_zero, List.getElem_cons_succ]
  refine any_go (i := 9) (by rfl) (by decide +kernel) (by decide +kernel) (by unfold noLate; decide) (go_yields w_none (fun w hS => m_loada_obj Try.underlying25 (hi := ti25) (hS := hS) (hfit := by (rw [zi_size (by omega)]; decide)))) ?_
  try simp only [opv, n1, n2, n3, n4, Value.cells, List.getElem_toArray, List.getElem_cons_zero, List.getElem_cons_succ]
  rw [key_item hkl]
  apply any_go (i := 10) (by rfl) (by decide +kernel) (by decide +kernel) (by unfold noLate; decide) (call_yields w_none en146 ?H1) ?K1
  case H1 =>
    intro w hS
    try simp only [opv, n1, n2, n3, n4, List.map_toArray, List.map_cons, List.map_nil, List.append_toArray, List.cons_append, List.nil_append, Array.append_empty]
    refine CallR.mono (c_nameNumber _ hil hib _) ?_
    rintro _ w1 ⟨rfl, hE⟩; exact ⟨rfl, hE⟩
  try simp only [opv, n1, n2, n3, n4, Value.cells]
  refine any_go (i := 11) (by rfl) (by decide +kernel) (by decide +kernel) (by unfold noLate; decide) (go_yields w_none (fun w hS => m_load_row Try.underlying43 (hi := ti43) (hS := hS) (hfit := by (rw [zi_size (by omega)]; rfl)))) ?_
  try simp only [opv, n1, n2, n3, n4, Value.cells, List.getElem_toArray, List.getElem_cons_zero, List.getElem_cons_succ]
  apply any_go (i := 12) (by rfl) (by decide +kernel) (by decide +kernel) (by unfold noLate; decide) (call_yields w_none en166 ?H2) ?K2
  case H2 =>
    intro w hS
    try simp only [opv, n1, n2, n3, n4, List.map_toArray, List.map_cons, List.map_nil, List.append_toArray, List.cons_append, List.nil_append, Array.append_empty]
    refine CallR.mono (c_keyDot x hk _) ?_
    rintro _ w1 ⟨rfl, hE⟩; exact ⟨rfl, hE⟩
  try simp only [opv, n1, n2, n3, n4, Value.cells]
  refine any_go (i := 13) (by rfl) (by decide +kernel) (by decide +kernel) (by unfold noLate; decide) (go_yields w_none (fun w hS => s_build_arr (cells := #[_, _, _]) Try.underlying133 ti133 ti48 (hc := by simp only [List.map_toArray, List.map_cons, List.map_nil, opv, n1, n2, n3, n4, Value.cells, List.toList_toArray]; (repeat (refine fill_cons rfl rfl (Nat.le_of_ble_eq_true rfl) ?_)); rfl))) ?_
  try simp only [opv, n1, n2, n3, n4, Value.cells]
  rw [show (#[.int .u64 ((2 ^ 16 * kn x 0 + kn x 1 : Nat) : Int), .int .u64 (numN (kitem x) : Int), .int .u64 (dotN x : Int)] : Array Value) = ic .u64 (wordsL x) from rfl]
  refine any_step [14] (by kernel_rfl) (by decide) (fun w4 hE => ⟨fun _ => (hS.ext hE).sel (by repeat (first | exact Sel.nil | (refine Sel.cons (by repeat (exact Del.head)) ?_))), ?_⟩)
  replace hS := hS.ext hE
  intro i hi
  simp only [List.mem_cons, List.not_mem_nil, or_false] at hi
  subst hi
  ·
   refine any_op (by rfl) ?_
   refine m_store_obj ti133 (hS := hS) (hc := by (exact splice_whole (by rfl))) (hv := by rfl) (hfit := by (simp only [ic_size, List.length_map, List.size_toArray]; decide)) (h1 := by exact ic_one _ _) (h := fun w5 hS => ?_)
   try simp only [opv, n1, n2, n3, n4, Value.cells, Array.toArray_toList] at hS ⊢
   refine x_nil ?_
   refine any_nil (by kernel_rfl) (fun w6 hE => ?_)
   replace hS := hS.ext hE
   refine ⟨fun hl => absurd (hl 14 (by decide)) (by decide +kernel), ?_⟩
   refine mix_leaf (by simp only [clob, List.foldl, n1, n2, n3, n4]) ?_
   try simp only [n1, n2]
   exact hS.sel (by repeat (first | exact Sel.nil | (refine Sel.cons (by repeat (exact Del.head)) ?_)))
 intro fm1 w7 hM
 replace hS := hM
 simp only [clob, List.foldl, n3, n4]
 refine hK2 _ _ ?_
 refine x_ret ?_
 refine r_cell_agg rfl Try.underlying133 ti133 (hS := hS) (hfit := by rfl) (hR := ?_)
 exact ⟨rfl, hS.ext_of⟩
theorem c_ref08Words (x : List Int) (hk : KeyOk x)  (w0 : World) :
    CallR Try.prog 94 #[.agg (KA x)] w0 fun v w' => v = .agg (ic .u64 (wordsL x)) ∧ Ext w0 w' := by
 have hS : St NoB w0 w0 [] := St.start w0
 refine c_enter (l := [.agg (KA x), undef, undef, undef, undef, undef, undef, undef, undef, undef, undef, undef, undef, undef, undef, undef, undef, undef, undef, undef, undef, undef, undef]) Try.func94 rfl (by simp only [Try.ntmps94, List.size_toArray, List.length_cons, List.length_nil, Nat.reduceAdd, Nat.reduceSub, Array.replicate_succ, Array.replicate_zero, List.push_toArray, List.append_toArray, List.nil_append, List.cons_append]) ?_
 refine x_seq fun K1 hK1 => ?_
 refine x_region ?_
 have hkl := hk.len
 have hb0 := hk.b0
 have hb1 := hk.b1
 have hb10 := hk.b10
 have hb11 := hk.b11
 have hil := kitem_len hk.len
 have hib := hk.item
 refine m_box hS (fun w1 g1 hS => ?_)
 try simp only [opv, n1, n2, n3, n4, Value.cells, Array.toArray_toList] at hS ⊢
 refine m_alloc ti133 hS (fun w2 g2 hS => ?_)
 try simp only [opv, n1, n2, n3, n4, Value.cells, Array.toArray_toList] at hS ⊢
 have hS : St NoB w0 w2 [.obj g2 (.cells (ic .u64 [0, 0, 0]) 133 (0, 0)), .obj g1 (.cells (KA x) 43 (0, 0))] := hS
 refine x_nil ?_
 refine hK1 _ _ ?_
 refine x_seq fun K2 hK2 => ?_
 refine x_mixed_f [20] 0 [3, 4, 5, 6, 7, 8, 9, 10, 11, 12, 13, 14, 15, 16, 17, 18, 19, 20, 21, 22] (fun f w => St NoB w0 w [.obj g2 (.cells (ic .u64 (wordsL x)) 133 (0, 0)), .obj g1 (.cells (KA x) 43 (0, 0))]) (by kernel_rfl) (by kernel_rfl) (by kernel_rfl) (by decide) hS (fun w3 hS => ?mixpre101) ?mixrest101
 case mixpre101 =>
  refine p_nil ?_
  simp only [List.length_cons, List.length_nil, Nat.reduceAdd, Nat.reduceSub]
  refine any_go (i := 0) (by rfl) (by decide +kernel) (by decide +kernel) (by unfold noLate; decide) (go_yields w_none (fun w hS => m_fieldAddr Try.underlying43 (hi := ti5))) ?_
  try simp only [opv, n1, n2, n3, n4, Value.cells, Nat.zero_add, Nat.add_zero, List.getElem_toArray, List.getElem_cons_zero, List.getElem_cons_succ]
  refine any_go (i := 1) (by rfl) (by decide +kernel) (by decide +kernel) (by unfold noLate; decide) (go_yields w_none (fun w hS => m_load_obj Try.underlying5 (hS := hS) (hv := by exact zi_get rfl (by omega)))) ?_
  try simp only [opv, n1, n2, n3, n4, Value.cells, List.getElem_toArray, List.getElem_cons_zero, List.getElem_cons_succ]
  rw [hk.e0]
  refine any_go (i := 2) (by rfl) (by decide +kernel) (by decide +kernel) (by unfold noLate; decide) (go_yields w_none (fun w hS => s_conv Try.underlying5 Try.underlying48 (hc := by exact wr_u64 (by omega) (by omega)))) ?_
  try simp only [opv, n1, n2, n3, n4, Value.cells]
  refine any_go (i := 3) (by rfl) (by decide +kernel) (by decide +kernel) (by unfold noLate; decide) (go_yields w_none (fun w hS => s_mul (hc := by exact wr_u64 (by omega) (by omega)))) ?_
  try simp only [opv, n1, n2, n3, n4, Value.cells]
  refine any_go (i := 4) (by rfl) (by decide +kernel) (by decide +kernel) (by unfold noLate; decide) (go_yields w_none (fun w hS => m_fieldAddr Try.underlying43 (hi := ti23))) ?_
  try simp only [opv, n1, n2, n3, n4, Value.cells, Nat.zero_add, Nat.add_zero, List.getElem_toArray, List.getElem_cons_zero, List.getElem_cons_succ]
  refine any_go (i := 5) (by rfl) (by decide +kernel) (by decide +kernel) (by unfold noLate; decide) (go_yields w_none (fun w hS => m_load_obj Try.underlying23 (hS := hS) (hv := by exact zi_get rfl (by omega)))) ?_
  try simp only [opv, n1, n2, n3, n4, Value.cells, List.getElem_toArray, List.getElem_cons_zero, List.getElem_cons_succ]
  rw [hk.e1]
  refine any_go (i := 6) (by rfl) (by decide +kernel) (by decide +kernel) (by unfold noLate; decide) (go_yields w_none (fun w hS => s_conv Try.underlying23 Try.underlying48 (hc := by exact wr_u64 (by omega) (by omega)))) ?_
  try simp only [opv, n1, n2, n3, n4, Value.cells]
  refine any_go (i := 7) (by rfl) (by decide +kernel) (by decide +kernel) (by unfold noLate; decide) (go_yields w_none (fun w hS => s_add (hc := by exact wr_u64 (by omega) (by omega)))) ?_
  try simp only [opv, n1, n2, n3, n4, Value.cells]
  rw [show (kn x 0 : Int) * 65536 + (kn x 1 : Int) = (headN x : Int) by unfold headN; omega]
  refine any_go (i := 8) (by rfl) (by decide +kernel) (by decide +kernel) (by unfold noLate; decide) (go_yields w_none (fun w hS => m_fieldAddr Try.underlying43 (hi := ti25))) ?_
  try simp only [opv, n1, n2, n3, n4, Value.cells, Nat.zero_add, Nat.add_zero, List.getElem_toArray, List.getElem_cons_zero, List.getElem_cons_succ]
  refine any_go (i := 9) (by rfl) (by decide +kernel) (by decide +kernel) (by unfold noLate; decide) (go_yields w_none (fun w hS => m_loada_obj Try.underlying25 (hi := ti25) (hS := hS) (hfit := by (rw [zi_size (by omega)]; decide)))) ?_
  try simp only [opv, n1, n2, n3, n4, Value.cells, List.getElem_toArray, List.getElem_cons_zero, List.getElem_cons_succ]
  rw [key_item hkl]
  apply any_go (i := 10) (by rfl) (by decide +kernel) (by decide +kernel) (by unfold noLate; decide) (call_yields w_none en111 ?H1) ?K1
  case H1 =>
    intro w hS
    try simp only [opv, n1, n2, n3, n4, List.map_toArray, List.map_cons, List.map_nil, List.append_toArray, List.cons_append, List.nil_append, Array.append_empty]
    refine CallR.mono (c_ref06Number _ hil hib _) ?_
    rintro _ w1 ⟨rfl, hE⟩; exact ⟨rfl, hE⟩
  try simp only [opv, n1, n2, n3, n4, Value.cells]
  refine any_go (i := 11) (by rfl) (by decide +kernel) (by decide +kernel) (by unfold noLate; decide) (go_yields w_none (fun w hS => m_fieldAddr Try.underlying43 (hi := ti5))) ?_
  try simp only [opv, n1, n2, n3, n4, Value.cells, Nat.zero_add, Nat.add_zero, List.getElem_toArray, List.getElem_cons_zero, List.getElem_cons_succ]
  refine any_go (i := 12) (by rfl) (by decide +kernel) (by decide +kernel) (by unfold noLate; decide) (go_yields w_none (fun w hS => m_load_obj Try.underlying5 (hS := hS) (hv := by exact zi_get rfl (by omega)))) ?_
  try simp only [opv, n1, n2, n3, n4, Value.cells, List.getElem_toArray, List.getElem_cons_zero, List.getElem_cons_succ]
  rw [hk.e10]
  refine any_go (i := 13) (by rfl) (by decide +kernel) (by decide +kernel) (by unfold noLate; decide) (go_yields w_none (fun w hS => s_conv Try.underlying5 Try.underlying48 (hc := by exact wr_u64 (by omega) (by omega)))) ?_
  try simp only [opv, n1, n2, n3, n4, Value.cells]
  refine any_go (i := 14) (by rfl) (by decide +kernel) (by decide +kernel) (by unfold noLate; decide) (go_yields w_none (fun w hS => s_mul (hc := by exact wr_u64 (by omega) (by omega)))) ?_
  try simp only [opv, n1, n2, n3, n4, Value.cells]
  refine any_go (i := 15) (by rfl) (by decide +kernel) (by decide +kernel) (by unfold noLate; decide) (go_yields w_none (fun w hS => m_fieldAddr Try.underlying43 (hi := ti29))) ?_
  try simp only [opv, n1, n2, n3, n4, Value.cells, Nat.zero_add, Nat.add_zero, List.getElem_toArray, List.getElem_cons_zero, List.getElem_cons_succ]
  refine any_go (i := 16) (by rfl) (by decide +kernel) (by decide +kernel) (by unfold noLate; decide) (go_yields w_none (fun w hS => m_load_obj Try.underlying29 (hS := hS) (hv := by exact zi_get rfl (by omega)))) ?_
  try simp only [opv, n1, n2, n3, n4, Value.cells, List.getElem_toArray, List.getElem_cons_zero, List.getElem_cons_succ]
  rw [hk.e11]
  refine any_go (i := 17) (by rfl) (by decide +kernel) (by decide +kernel) (by unfold noLate; decide) (go_yields w_none (fun w hS => s_conv Try.underlying29 Try.underlying48 (hc := by exact wr_u64 (by omega) (by omega)))) ?_
  try simp only [opv, n1, n2, n3, n4, Value.cells]
  refine any_go (i := 18) (by rfl) (by decide +kernel) (by decide +kernel) (by unfold noLate; decide) (go_yields w_none (fun w hS => s_add (hc := by exact wr_u64 (by omega) (by omega)))) ?_
  try simp only [opv, n1, n2, n3, n4, Value.cells]
  rw [show (kn x 10 : Int) * 4294967296 + (kn x 11 : Int) = (dotN x : Int) by unfold dotN; omega]
  refine any_go (i := 19) (by rfl) (by decide +kernel) (by decide +kernel) (by unfold noLate; decide) (go_yields w_none (fun w hS => s_build_arr (cells := #[_, _, _]) Try.underlying133 ti133 ti48 (hc := by simp only [List.map_toArray, List.map_cons, List.map_nil, opv, n1, n2, n3, n4, Value.cells, List.toList_toArray]; (repeat (refine fill_cons rfl rfl (Nat.le_of_ble_eq_true rfl) ?_)); rfl))) ?_
  try simp only [opv, n1, n2, n3, n4, Value.cells]
  rw [show (#[.int .u64 (headN x : Int), .int .u64 (numN (kitem x) : Int), .int .u64 (dotN x : Int)] : Array Value) = ic .u64 (wordsL x) from rfl]
  refine any_step [20] (by kernel_rfl) (by decide) (fun w4 hE => ⟨fun _ => (hS.ext hE).sel (by repeat (first | exact Sel.nil | (refine Sel.cons (by repeat (exact Del.head)) ?_))), ?_⟩)
  replace hS := hS.ext hE
  intro i hi
  simp only [List.mem_cons, List.not_mem_nil, or_false] at hi
  subst hi
  ·
   refine any_op (by rfl) ?_
   refine m_store_obj ti133 (hS := hS) (hc := by (exact splice_whole (by rfl))) (hv := by rfl) (hfit := by (simp only [ic_size, List.length_map, List.size_toArray]; decide)) (h1 := by exact ic_one _ _) (h := fun w5 hS => ?_)
   try simp only [opv, n1, n2, n3, n4, Value.cells, Array.toArray_toList] at hS ⊢
   refine x_nil ?_
   refine any_nil (by kernel_rfl) (fun w6 hE => ?_)
   replace hS := hS.ext hE
   refine ⟨fun hl => absurd (hl 20 (by decide)) (by decide +kernel), ?_⟩
   refine mix_leaf (by simp only [clob, List.foldl, n1, n2, n3, n4]) ?_
   try simp only [n1, n2]
   exact hS.sel (by repeat (first | exact Sel.nil | (refine Sel.cons (by repeat (exact Del.head)) ?_)))
 intro fm1 w7 hM
 replace hS := hM
 simp only [clob, List.foldl, n3, n4]
 refine hK2 _ _ ?_
 refine x_ret ?_
 refine r_cell_agg rfl Try.underlying133 ti133 (hS := hS) (hfit := by rfl) (hR := ?_)
 exact ⟨rfl, hS.ext_of⟩

theorem rgt_a {p q : Prop} [Decidable p] [Decidable q] {b : Bool} (h : ¬ p) : false = (decide p && b && decide q) := by simp [h]
theorem rgt_b {p q : Prop} [Decidable p] [Decidable q] {b : Bool} (h : b = false) : false = (decide p && b && decide q) := by simp [h]
theorem rgt_c {p q q' : Prop} [Decidable p] [Decidable q] [Decidable q'] {b : Bool} (h : p) (hb : b = true) (hq : q' ↔ q) : decide q' = (decide p && b && decide q) := by simp [h, hb, hq]
theorem rgt_d {p p' q : Prop} [Decidable p] [Decidable p'] [Decidable q] {b : Bool} (h : q) (hb : b = true) (hq : p' ↔ p) : decide p' = (decide p && b && decide q) := by simp [h, hb, hq]
theorem rgt_e {p q : Prop} [Decidable p] [Decidable q] {b : Bool} (h : ¬ q) : false = (decide p && b && decide q) := by simp [h]
theorem c_keyRight (x : List Int) (hk : KeyOk x)  (w0 : World) :
    CallR Try.prog 120 #[.agg (KA x)] w0 fun v w' => v = .bool (keyR x) ∧ Ext w0 w' := by
 have hS : St NoB w0 w0 [] := St.start w0
 refine c_enter (l := [.agg (KA x), undef, undef, undef, undef, undef, undef, undef, undef, undef, undef, undef, undef, undef, undef, undef, undef, undef, undef, undef, undef, undef, undef, undef, undef, undef, undef, undef, undef, undef, undef, undef, undef, undef, undef, undef, undef, undef, undef, undef, undef, undef, undef, undef, undef, undef, undef]) Try.func120 rfl (by simp only [Try.ntmps120, List.size_toArray, List.length_cons, List.length_nil, Nat.reduceAdd, Nat.reduceSub, Array.replicate_succ, Array.replicate_zero, List.push_toArray, List.append_toArray, List.nil_append, List.cons_append]) ?_
 refine x_seq fun K1 hK1 => ?_
 refine x_region ?_
 have hkl := hk.len
 have hb0 := hk.b0
 have hb1 := hk.b1
 have hb10 := hk.b10
 have hb11 := hk.b11
 have hil := kitem_len hk.len
 have hib := hk.item
 refine m_box hS (fun w1 g1 hS => ?_)
 try simp only [opv, n1, n2, n3, n4, Value.cells, Array.toArray_toList] at hS ⊢
 refine s_go (s_assign) ?_
 try simp only [opv, n1, n2, n3, n4, Value.cells]
 refine x_nil ?_
 refine hK1 _ _ ?_
 refine x_seq fun K2 hK2 => ?_
 refine x_region ?_
 refine s_go (m_fieldAddr Try.underlying43 (hi := ti5)) ?_
 try simp only [opv, n1, n2, n3, n4, Value.cells, Nat.zero_add, Nat.add_zero, List.getElem_toArray, List.getElem_cons_zero, List.getElem_cons_succ]
 refine s_go (m_load_obj Try.underlying5 (hS := hS) (hv := by exact zi_get rfl (by omega))) ?_
 try simp only [opv, n1, n2, n3, n4, Value.cells, List.getElem_toArray, List.getElem_cons_zero, List.getElem_cons_succ]
 rw [hk.e0]
 refine s_go (m_fieldAddr Try.underlying43 (hi := ti23)) ?_
 try simp only [opv, n1, n2, n3, n4, Value.cells, Nat.zero_add, Nat.add_zero, List.getElem_toArray, List.getElem_cons_zero, List.getElem_cons_succ]
 refine s_go (m_load_obj Try.underlying23 (hS := hS) (hv := by exact zi_get rfl (by omega))) ?_
 try simp only [opv, n1, n2, n3, n4, Value.cells, List.getElem_toArray, List.getElem_cons_zero, List.getElem_cons_succ]
 rw [hk.e1]
 refine s_go (s_build_struct (cells := #[_, _, .int .u8 0, .int .u8 0, .int .u8 0, .int .u8 0, .int .u8 0, .int .u8 0, .int .u8 0, .int .u8 0, .int .u8 0, .int .u32 0]) Try.underlying43 ti43 bp43 (hc := by simp only [List.map_toArray, List.map_cons, List.map_nil, opv, n1, n2, n3, n4, Value.cells, List.toList_toArray]; (repeat (refine fill_cons rfl rfl (Nat.le_of_ble_eq_true rfl) ?_)); rfl)) ?_
 try simp only [opv, n1, n2, n3, n4, Value.cells]
 rw [show (#[.int .u8 (kn x 0 : Int), .int .u16 (kn x 1 : Int), .int .u8 0, .int .u8 0, .int .u8 0, .int .u8 0, .int .u8 0, .int .u8 0, .int .u8 0, .int .u8 0, .int .u8 0, .int .u32 0] : Array Value) = KA (bareK x) from rfl]
 have hbl : (bareK x).length = 12 := rfl
 refine m_alloc ti43 hS (fun w2 g2 hS => ?_)
 try simp only [opv, n1, n2, n3, n4, Value.cells, Array.toArray_toList] at hS ⊢
 refine m_store_obj ti43 (hS := hS) (hc := by (exact splice_whole (by rfl))) (hv := by rfl) (hfit := by (simp only [ic_size, List.length_map, List.size_toArray]; decide)) (h1 := by exact zi_one _ _) (h := fun w3 hS => ?_)
 try simp only [opv, n1, n2, n3, n4, Value.cells, Array.toArray_toList] at hS ⊢
 have hS : St NoB w0 w3 [.obj g2 (.cells (KA (bareK x)) 43 (0, 0)), .obj g1 (.cells (KA x) 43 (0, 0))] := hS
 refine x_nil ?_
 refine hK2 _ _ ?_
 refine x_seq fun K3 hK3 => ?_
 refine x_seq fun K4 hK4 => ?_
 refine x_region ?_
 refine s_go (m_fieldAddr Try.underlying43 (hi := ti5)) ?_
 try simp only [opv, n1, n2, n3, n4, Value.cells, Nat.zero_add, Nat.add_zero, List.getElem_toArray, List.getElem_cons_zero, List.getElem_cons_succ]
 refine s_go (m_load_obj Try.underlying5 (hS := hS) (hv := by exact zi_get rfl (by omega))) ?_
 try simp only [opv, n1, n2, n3, n4, Value.cells, List.getElem_toArray, List.getElem_cons_zero, List.getElem_cons_succ]
 rw [hk.e0]
 refine x_nil ?_
 refine hK4 _ _ ?_
 refine x_block ?_
 refine x_seq fun K5 hK5 => ?_
 refine x_region ?_
 refine s_go (s_eql) ?_
 try simp only [opv, n1, n2, n3, n4, Value.cells]
 refine s_go (s_assign) ?_
 try simp only [opv, n1, n2, n3, n4, Value.cells]
 refine x_nil ?_
 refine hK5 _ _ ?_
 refine x_cond (ht := fun hc1 => ?_) (hf := fun hc1 => ?_)
 ·
  try simp only [decide_eq_true_eq, decide_eq_false_iff_not, Bool.not_eq_true', Bool.not_eq_false', Int.not_lt, Int.not_le, ne_eq, Decidable.not_not, bne_iff_ne, beq_iff_eq, not_true_eq_false, not_false_eq_true] at hc1
  have hR : keyR x = decide (x = bareK x) := by rw [keyR, if_pos (by omega)]
  refine x_seq fun K6 hK6 => ?_
  refine x_region ?_
  refine s_go (m_load_row Try.underlying43 (hi := ti43) (hS := hS) (hfit := by (rw [zi_size (by omega)]; rfl))) ?_
  try simp only [opv, n1, n2, n3, n4, Value.cells, List.getElem_toArray, List.getElem_cons_zero, List.getElem_cons_succ]
  refine s_go (m_load_row Try.underlying43 (hi := ti43) (hS := hS) (hfit := by (rw [zi_size (by omega)]; rfl))) ?_
  try simp only [opv, n1, n2, n3, n4, Value.cells, List.getElem_toArray, List.getElem_cons_zero, List.getElem_cons_succ]
  refine s_go (s_eql_agg eqv43 (hg := eg43) (hX := rfl) (hY := rfl) (h1 := by assumption) (h2 := by assumption)) ?_
  try simp only [opv, n1, n2, n3, n4, Value.cells]
  refine s_go (s_assign) ?_
  try simp only [opv, n1, n2, n3, n4, Value.cells]
  refine x_nil ?_
  refine hK6 _ _ ?_
  refine x_ret ?_
  refine r_tmp rfl ?_
  exact ⟨by rw [hR]; rfl, hS.ext_of⟩
 ·
  try simp only [decide_eq_true_eq, decide_eq_false_iff_not, Bool.not_eq_true', Bool.not_eq_false', Int.not_lt, Int.not_le, ne_eq, Decidable.not_not, bne_iff_ne, beq_iff_eq, not_true_eq_false, not_false_eq_true] at hc1
  refine x_seq fun K7 hK7 => ?_
  refine x_region ?_
  refine s_go (s_eql) ?_
  try simp only [opv, n1, n2, n3, n4, Value.cells]
  refine s_go (s_assign) ?_
  try simp only [opv, n1, n2, n3, n4, Value.cells]
  refine x_nil ?_
  refine hK7 _ _ ?_
  refine x_cond (ht := fun hc2 => ?_) (hf := fun hc2 => ?_)
  ·
   try simp only [decide_eq_true_eq, decide_eq_false_iff_not, Bool.not_eq_true', Bool.not_eq_false', Int.not_lt, Int.not_le, ne_eq, Decidable.not_not, bne_iff_ne, beq_iff_eq, not_true_eq_false, not_false_eq_true] at hc2
   have hR : keyR x = (decide (kn x 11 ≠ 0) && nright (kitem x) && decide (kn x 10 < 16)) := by rw [keyR, if_neg (by omega), if_pos (by omega)]
   refine x_seq fun K8 hK8 => ?_
   refine x_region ?_
   refine s_go (m_fieldAddr Try.underlying43 (hi := ti29)) ?_
   try simp only [opv, n1, n2, n3, n4, Value.cells, Nat.zero_add, Nat.add_zero, List.getElem_toArray, List.getElem_cons_zero, List.getElem_cons_succ]
   refine s_go (m_load_obj Try.underlying29 (hS := hS) (hv := by exact zi_get rfl (by omega))) ?_
   try simp only [opv, n1, n2, n3, n4, Value.cells, List.getElem_toArray, List.getElem_cons_zero, List.getElem_cons_succ]
   rw [hk.e11]
   refine s_go (s_neq) ?_
   try simp only [opv, n1, n2, n3, n4, Value.cells]
   refine s_go (s_move) ?_
   try simp only [opv, n1, n2, n3, n4, Value.cells]
   refine s_part 21 rfl (fun hp1 => ?_) (fun hp1 => ?_)
   ·
    try simp only [n3, n4]
    try simp only [decide_eq_true_eq, decide_eq_false_iff_not, Bool.not_eq_true', Bool.not_eq_false', Int.not_lt, Int.not_le, ne_eq, Decidable.not_not] at hp1
    refine g_on (yi (t := 21) rfl rfl) ?_
    refine s_go (m_fieldAddr Try.underlying43 (hi := ti25)) ?_
    try simp only [opv, n1, n2, n3, n4, Value.cells, Nat.zero_add, Nat.add_zero, List.getElem_toArray, List.getElem_cons_zero, List.getElem_cons_succ]
    refine g_on (yi (t := 21) rfl rfl) ?_
    refine s_go (m_loada_obj Try.underlying25 (hi := ti25) (hS := hS) (hfit := by (rw [zi_size (by omega)]; decide))) ?_
    try simp only [opv, n1, n2, n3, n4, Value.cells, List.getElem_toArray, List.getElem_cons_zero, List.getElem_cons_succ]
    rw [key_item hkl]
    refine g_on (yi (t := 21) rfl rfl) ?_
    refine s_call en54 ?_
    try simp only [opv, n1, n2, n3, n4, Value.cells, List.map_toArray, List.map_cons, List.map_nil, List.append_toArray, List.cons_append, List.nil_append, Array.append_empty]
    refine CallR.mono (c_nameRight _ hil hib _) ?_
    rintro _ w4 ⟨rfl, hE4⟩
    replace hS := hS.ext hE4
    try simp only [opv, n1, n2, n3, n4, Value.cells]
    refine s_go (s_pick_t) ?_
    try simp only [opv, n1, n2, n3, n4, Value.cells]
    refine s_go (s_move) ?_
    try simp only [opv, n1, n2, n3, n4, Value.cells]
    refine s_part 26 rfl (fun hp2 => ?_) (fun hp2 => ?_)
    ·
     try simp only [n3, n4]
     try simp only [decide_eq_true_eq, decide_eq_false_iff_not, Bool.not_eq_true', Bool.not_eq_false', Int.not_lt, Int.not_le, ne_eq, Decidable.not_not] at hp2
     refine g_on (yi (t := 26) rfl rfl) ?_
     refine s_go (m_fieldAddr Try.underlying43 (hi := ti5)) ?_
     try simp only [opv, n1, n2, n3, n4, Value.cells, Nat.zero_add, Nat.add_zero, List.getElem_toArray, List.getElem_cons_zero, List.getElem_cons_succ]
     refine g_on (yi (t := 26) rfl rfl) ?_
     refine s_go (m_load_obj Try.underlying5 (hS := hS) (hv := by exact zi_get rfl (by omega))) ?_
     try simp only [opv, n1, n2, n3, n4, Value.cells, List.getElem_toArray, List.getElem_cons_zero, List.getElem_cons_succ]
     rw [hk.e10]
     refine g_on (yi (t := 26) rfl rfl) ?_
     refine s_go (s_lss) ?_
     try simp only [opv, n1, n2, n3, n4, Value.cells]
     refine s_go (s_pick_t) ?_
     try simp only [opv, n1, n2, n3, n4, Value.cells]
     refine s_go (s_assign) ?_
     try simp only [opv, n1, n2, n3, n4, Value.cells]
     refine x_nil ?_
     refine hK8 _ _ ?_
     refine x_ret ?_
     refine r_tmp rfl ?_
     exact ⟨congrArg Value.bool (by rw [hR]; exact rgt_c (by omega) (by assumption) (by omega)), hS.ext_of⟩
    ·
     try simp only [n3, n4]
     try simp only [decide_eq_true_eq, decide_eq_false_iff_not, Bool.not_eq_true', Bool.not_eq_false', Int.not_lt, Int.not_le, ne_eq, Decidable.not_not] at hp2
     refine g_off (yi (t := 26) rfl rfl) ?_
     try simp only [opv, n1, n2, n3, n4, Value.cells]
     refine g_off (yi (t := 26) rfl rfl) ?_
     try simp only [opv, n1, n2, n3, n4, Value.cells]
     refine g_off (yi (t := 26) rfl rfl) ?_
     try simp only [opv, n1, n2, n3, n4, Value.cells]
     refine s_go (s_pick_f) ?_
     try simp only [opv, n1, n2, n3, n4, Value.cells]
     refine s_go (s_assign) ?_
     try simp only [opv, n1, n2, n3, n4, Value.cells]
     refine x_nil ?_
     refine hK8 _ _ ?_
     refine x_ret ?_
     refine r_tmp rfl ?_
     exact ⟨congrArg Value.bool (by rw [hR]; exact rgt_b (by assumption)), hS.ext_of⟩
   ·
    try simp only [n3, n4]
    try simp only [decide_eq_true_eq, decide_eq_false_iff_not, Bool.not_eq_true', Bool.not_eq_false', Int.not_lt, Int.not_le, ne_eq, Decidable.not_not] at hp1
    refine g_off (yi (t := 21) rfl rfl) ?_
    try simp only [opv, n1, n2, n3, n4, Value.cells]
    refine g_off (yi (t := 21) rfl rfl) ?_
    try simp only [opv, n1, n2, n3, n4, Value.cells]
    refine g_off (yi (t := 21) rfl rfl) ?_
    try simp only [opv, n1, n2, n3, n4, Value.cells]
    refine s_go (s_pick_f) ?_
    try simp only [opv, n1, n2, n3, n4, Value.cells]
    refine s_go (s_move) ?_
    try simp only [opv, n1, n2, n3, n4, Value.cells]
    refine g_off (yi (t := 26) rfl rfl) ?_
    try simp only [opv, n1, n2, n3, n4, Value.cells]
    refine g_off (yi (t := 26) rfl rfl) ?_
    try simp only [opv, n1, n2, n3, n4, Value.cells]
    refine g_off (yi (t := 26) rfl rfl) ?_
    try simp only [opv, n1, n2, n3, n4, Value.cells]
    refine s_go (s_pick_f) ?_
    try simp only [opv, n1, n2, n3, n4, Value.cells]
    refine s_go (s_assign) ?_
    try simp only [opv, n1, n2, n3, n4, Value.cells]
    refine x_nil ?_
    refine hK8 _ _ ?_
    refine x_ret ?_
    refine r_tmp rfl ?_
    exact ⟨congrArg Value.bool (by rw [hR]; exact rgt_a (by omega)), hS.ext_of⟩
  ·
   try simp only [decide_eq_true_eq, decide_eq_false_iff_not, Bool.not_eq_true', Bool.not_eq_false', Int.not_lt, Int.not_le, ne_eq, Decidable.not_not, bne_iff_ne, beq_iff_eq, not_true_eq_false, not_false_eq_true] at hc2
   refine x_seq fun K9 hK9 => ?_
   refine x_seq fun K10 hK10 => ?_
   refine x_region ?_
   refine s_go (s_eql) ?_
   try simp only [opv, n1, n2, n3, n4, Value.cells]
   refine s_go (s_assign) ?_
   try simp only [opv, n1, n2, n3, n4, Value.cells]
   refine x_nil ?_
   refine hK10 _ _ ?_
   refine x_cond (ht := fun hc3 => ?_) (hf := fun hc3 => ?_)
   ·
    try simp only [decide_eq_true_eq, decide_eq_false_iff_not, Bool.not_eq_true', Bool.not_eq_false', Int.not_lt, Int.not_le, ne_eq, Decidable.not_not, bne_iff_ne, beq_iff_eq, not_true_eq_false, not_false_eq_true] at hc3
    try have hR : keyR x = (decide (kn x 11 = 0) && nright (kitem x) && decide (kn x 10 < 16)) := by rw [keyR, if_neg (by omega), if_neg (by omega), if_pos (by omega)]
    refine x_skip ?_
    refine hK9 _ _ ?_
    refine x_cond (ht := fun hc4 => ?_) (hf := fun hc4 => ?_)
    ·
     try simp only [decide_eq_true_eq, decide_eq_false_iff_not, Bool.not_eq_true', Bool.not_eq_false', Int.not_lt, Int.not_le, ne_eq, Decidable.not_not, bne_iff_ne, beq_iff_eq, not_true_eq_false, not_false_eq_true] at hc4
     try have hR : keyR x = (decide (kn x 11 = 0) && nright (kitem x) && decide (kn x 10 < 16)) := by rw [keyR, if_neg (by omega), if_neg (by omega), if_pos (by omega)]
     refine x_seq fun K11 hK11 => ?_
     refine x_region ?_
     refine s_go (m_fieldAddr Try.underlying43 (hi := ti29)) ?_
     try simp only [opv, n1, n2, n3, n4, Value.cells, Nat.zero_add, Nat.add_zero, List.getElem_toArray, List.getElem_cons_zero, List.getElem_cons_succ]
     refine s_go (m_load_obj Try.underlying29 (hS := hS) (hv := by exact zi_get rfl (by omega))) ?_
     try simp only [opv, n1, n2, n3, n4, Value.cells, List.getElem_toArray, List.getElem_cons_zero, List.getElem_cons_succ]
     rw [hk.e11]
     refine s_go (s_eql) ?_
     try simp only [opv, n1, n2, n3, n4, Value.cells]
     refine s_go (s_move) ?_
     try simp only [opv, n1, n2, n3, n4, Value.cells]
     refine s_part 37 rfl (fun hp3 => ?_) (fun hp3 => ?_)
     ·
      try simp only [n3, n4]
      try simp only [decide_eq_true_eq, decide_eq_false_iff_not, Bool.not_eq_true', Bool.not_eq_false', Int.not_lt, Int.not_le, ne_eq, Decidable.not_not] at hp3
      refine g_on (yi (t := 37) rfl rfl) ?_
      refine s_go (m_fieldAddr Try.underlying43 (hi := ti25)) ?_
      try simp only [opv, n1, n2, n3, n4, Value.cells, Nat.zero_add, Nat.add_zero, List.getElem_toArray, List.getElem_cons_zero, List.getElem_cons_succ]
      refine g_on (yi (t := 37) rfl rfl) ?_
      refine s_go (m_loada_obj Try.underlying25 (hi := ti25) (hS := hS) (hfit := by (rw [zi_size (by omega)]; decide))) ?_
      try simp only [opv, n1, n2, n3, n4, Value.cells, List.getElem_toArray, List.getElem_cons_zero, List.getElem_cons_succ]
      rw [key_item hkl]
      refine g_on (yi (t := 37) rfl rfl) ?_
      refine s_call en54 ?_
      try simp only [opv, n1, n2, n3, n4, Value.cells, List.map_toArray, List.map_cons, List.map_nil, List.append_toArray, List.cons_append, List.nil_append, Array.append_empty]
      refine CallR.mono (c_nameRight _ hil hib _) ?_
      rintro _ w5 ⟨rfl, hE5⟩
      replace hS := hS.ext hE5
      try simp only [opv, n1, n2, n3, n4, Value.cells]
      refine s_go (s_pick_t) ?_
      try simp only [opv, n1, n2, n3, n4, Value.cells]
      refine s_go (s_move) ?_
      try simp only [opv, n1, n2, n3, n4, Value.cells]
      refine s_part 42 rfl (fun hp4 => ?_) (fun hp4 => ?_)
      ·
       try simp only [n3, n4]
       try simp only [decide_eq_true_eq, decide_eq_false_iff_not, Bool.not_eq_true', Bool.not_eq_false', Int.not_lt, Int.not_le, ne_eq, Decidable.not_not] at hp4
       refine g_on (yi (t := 42) rfl rfl) ?_
       refine s_go (m_fieldAddr Try.underlying43 (hi := ti5)) ?_
       try simp only [opv, n1, n2, n3, n4, Value.cells, Nat.zero_add, Nat.add_zero, List.getElem_toArray, List.getElem_cons_zero, List.getElem_cons_succ]
       refine g_on (yi (t := 42) rfl rfl) ?_
       refine s_go (m_load_obj Try.underlying5 (hS := hS) (hv := by exact zi_get rfl (by omega))) ?_
       try simp only [opv, n1, n2, n3, n4, Value.cells, List.getElem_toArray, List.getElem_cons_zero, List.getElem_cons_succ]
       rw [hk.e10]
       refine g_on (yi (t := 42) rfl rfl) ?_
       refine s_go (s_lss) ?_
       try simp only [opv, n1, n2, n3, n4, Value.cells]
       refine s_go (s_pick_t) ?_
       try simp only [opv, n1, n2, n3, n4, Value.cells]
       refine s_go (s_assign) ?_
       try simp only [opv, n1, n2, n3, n4, Value.cells]
       refine x_nil ?_
       refine hK11 _ _ ?_
       refine x_ret ?_
       refine r_tmp rfl ?_
       exact ⟨congrArg Value.bool (by rw [hR]; exact rgt_c (by omega) (by assumption) (by omega)), hS.ext_of⟩
      ·
       try simp only [n3, n4]
       try simp only [decide_eq_true_eq, decide_eq_false_iff_not, Bool.not_eq_true', Bool.not_eq_false', Int.not_lt, Int.not_le, ne_eq, Decidable.not_not] at hp4
       refine g_off (yi (t := 42) rfl rfl) ?_
       try simp only [opv, n1, n2, n3, n4, Value.cells]
       refine g_off (yi (t := 42) rfl rfl) ?_
       try simp only [opv, n1, n2, n3, n4, Value.cells]
       refine g_off (yi (t := 42) rfl rfl) ?_
       try simp only [opv, n1, n2, n3, n4, Value.cells]
       refine s_go (s_pick_f) ?_
       try simp only [opv, n1, n2, n3, n4, Value.cells]
       refine s_go (s_assign) ?_
       try simp only [opv, n1, n2, n3, n4, Value.cells]
       refine x_nil ?_
       refine hK11 _ _ ?_
       refine x_ret ?_
       refine r_tmp rfl ?_
       exact ⟨congrArg Value.bool (by rw [hR]; exact rgt_b (by assumption)), hS.ext_of⟩
     ·
      try simp only [n3, n4]
      try simp only [decide_eq_true_eq, decide_eq_false_iff_not, Bool.not_eq_true', Bool.not_eq_false', Int.not_lt, Int.not_le, ne_eq, Decidable.not_not] at hp3
      refine g_off (yi (t := 37) rfl rfl) ?_
      try simp only [opv, n1, n2, n3, n4, Value.cells]
      refine g_off (yi (t := 37) rfl rfl) ?_
      try simp only [opv, n1, n2, n3, n4, Value.cells]
      refine g_off (yi (t := 37) rfl rfl) ?_
      try simp only [opv, n1, n2, n3, n4, Value.cells]
      refine s_go (s_pick_f) ?_
      try simp only [opv, n1, n2, n3, n4, Value.cells]
      refine s_go (s_move) ?_
      try simp only [opv, n1, n2, n3, n4, Value.cells]
      refine g_off (yi (t := 42) rfl rfl) ?_
      try simp only [opv, n1, n2, n3, n4, Value.cells]
      refine g_off (yi (t := 42) rfl rfl) ?_
      try simp only [opv, n1, n2, n3, n4, Value.cells]
      refine g_off (yi (t := 42) rfl rfl) ?_
      try simp only [opv, n1, n2, n3, n4, Value.cells]
      refine s_go (s_pick_f) ?_
      try simp only [opv, n1, n2, n3, n4, Value.cells]
      refine s_go (s_assign) ?_
      try simp only [opv, n1, n2, n3, n4, Value.cells]
      refine x_nil ?_
      refine hK11 _ _ ?_
      refine x_ret ?_
      refine r_tmp rfl ?_
      exact ⟨congrArg Value.bool (by rw [hR]; exact rgt_a (by omega)), hS.ext_of⟩
    ·
     try simp only [decide_eq_true_eq, decide_eq_false_iff_not, Bool.not_eq_true', Bool.not_eq_false', Int.not_lt, Int.not_le, ne_eq, Decidable.not_not, bne_iff_ne, beq_iff_eq, not_true_eq_false, not_false_eq_true] at hc4
     (exfalso; omega)
   ·
    try simp only [decide_eq_true_eq, decide_eq_false_iff_not, Bool.not_eq_true', Bool.not_eq_false', Int.not_lt, Int.not_le, ne_eq, Decidable.not_not, bne_iff_ne, beq_iff_eq, not_true_eq_false, not_false_eq_true] at hc3
    try have hR : keyR x = false := by rw [keyR, if_neg (by omega), if_neg (by omega), if_neg (by omega)]
    refine x_region ?_
    refine s_go (s_eql) ?_
    try simp only [opv, n1, n2, n3, n4, Value.cells]
    refine s_go (s_assign) ?_
    try simp only [opv, n1, n2, n3, n4, Value.cells]
    refine x_nil ?_
    refine hK9 _ _ ?_
    refine x_cond (ht := fun hc5 => ?_) (hf := fun hc5 => ?_)
    ·
     try simp only [decide_eq_true_eq, decide_eq_false_iff_not, Bool.not_eq_true', Bool.not_eq_false', Int.not_lt, Int.not_le, ne_eq, Decidable.not_not, bne_iff_ne, beq_iff_eq, not_true_eq_false, not_false_eq_true] at hc5
     try have hR : keyR x = (decide (kn x 11 = 0) && nright (kitem x) && decide (kn x 10 < 16)) := by rw [keyR, if_neg (by omega), if_neg (by omega), if_pos (by omega)]
     refine x_seq fun K13 hK13 => ?_
     refine x_region ?_
     refine s_go (m_fieldAddr Try.underlying43 (hi := ti29)) ?_
     try simp only [opv, n1, n2, n3, n4, Value.cells, Nat.zero_add, Nat.add_zero, List.getElem_toArray, List.getElem_cons_zero, List.getElem_cons_succ]
     refine s_go (m_load_obj Try.underlying29 (hS := hS) (hv := by exact zi_get rfl (by omega))) ?_
     try simp only [opv, n1, n2, n3, n4, Value.cells, List.getElem_toArray, List.getElem_cons_zero, List.getElem_cons_succ]
     rw [hk.e11]
     refine s_go (s_eql) ?_
     try simp only [opv, n1, n2, n3, n4, Value.cells]
     refine s_go (s_move) ?_
     try simp only [opv, n1, n2, n3, n4, Value.cells]
     refine s_part 37 rfl (fun hp5 => ?_) (fun hp5 => ?_)
     ·
      try simp only [n3, n4]
      try simp only [decide_eq_true_eq, decide_eq_false_iff_not, Bool.not_eq_true', Bool.not_eq_false', Int.not_lt, Int.not_le, ne_eq, Decidable.not_not] at hp5
      refine g_on (yi (t := 37) rfl rfl) ?_
      refine s_go (m_fieldAddr Try.underlying43 (hi := ti25)) ?_
      try simp only [opv, n1, n2, n3, n4, Value.cells, Nat.zero_add, Nat.add_zero, List.getElem_toArray, List.getElem_cons_zero, List.getElem_cons_succ]
      refine g_on (yi (t := 37) rfl rfl) ?_
      refine s_go (m_loada_obj Try.underlying25 (hi := ti25) (hS := hS) (hfit := by (rw [zi_size (by omega)]; decide))) ?_
      try simp only [opv, n1, n2, n3, n4, Value.cells, List.getElem_toArray, List.getElem_cons_zero, List.getElem_cons_succ]
      rw [key_item hkl]
      refine g_on (yi (t := 37) rfl rfl) ?_
      refine s_call en54 ?_
      try simp only [opv, n1, n2, n3, n4, Value.cells, List.map_toArray, List.map_cons, List.map_nil, List.append_toArray, List.cons_append, List.nil_append, Array.append_empty]
      refine CallR.mono (c_nameRight _ hil hib _) ?_
      rintro _ w6 ⟨rfl, hE6⟩
      replace hS := hS.ext hE6
      try simp only [opv, n1, n2, n3, n4, Value.cells]
      refine s_go (s_pick_t) ?_
      try simp only [opv, n1, n2, n3, n4, Value.cells]
      refine s_go (s_move) ?_
      try simp only [opv, n1, n2, n3, n4, Value.cells]
      refine s_part 42 rfl (fun hp6 => ?_) (fun hp6 => ?_)
      ·
       try simp only [n3, n4]
       try simp only [decide_eq_true_eq, decide_eq_false_iff_not, Bool.not_eq_true', Bool.not_eq_false', Int.not_lt, Int.not_le, ne_eq, Decidable.not_not] at hp6
       refine g_on (yi (t := 42) rfl rfl) ?_
       refine s_go (m_fieldAddr Try.underlying43 (hi := ti5)) ?_
       try simp only [opv, n1, n2, n3, n4, Value.cells, Nat.zero_add, Nat.add_zero, List.getElem_toArray, List.getElem_cons_zero, List.getElem_cons_succ]
       refine g_on (yi (t := 42) rfl rfl) ?_
       refine s_go (m_load_obj Try.underlying5 (hS := hS) (hv := by exact zi_get rfl (by omega))) ?_
       try simp only [opv, n1, n2, n3, n4, Value.cells, List.getElem_toArray, List.getElem_cons_zero, List.getElem_cons_succ]
       rw [hk.e10]
       refine g_on (yi (t := 42) rfl rfl) ?_
       refine s_go (s_lss) ?_
       try simp only [opv, n1, n2, n3, n4, Value.cells]
       refine s_go (s_pick_t) ?_
       try simp only [opv, n1, n2, n3, n4, Value.cells]
       refine s_go (s_assign) ?_
       try simp only [opv, n1, n2, n3, n4, Value.cells]
       refine x_nil ?_
       refine hK13 _ _ ?_
       refine x_ret ?_
       refine r_tmp rfl ?_
       exact ⟨congrArg Value.bool (by rw [hR]; exact rgt_c (by omega) (by assumption) (by omega)), hS.ext_of⟩
      ·
       try simp only [n3, n4]
       try simp only [decide_eq_true_eq, decide_eq_false_iff_not, Bool.not_eq_true', Bool.not_eq_false', Int.not_lt, Int.not_le, ne_eq, Decidable.not_not] at hp6
       refine g_off (yi (t := 42) rfl rfl) ?_
       try simp only [opv, n1, n2, n3, n4, Value.cells]
       refine g_off (yi (t := 42) rfl rfl) ?_
       try simp only [opv, n1, n2, n3, n4, Value.cells]
       refine g_off (yi (t := 42) rfl rfl) ?_
       try simp only [opv, n1, n2, n3, n4, Value.cells]
       refine s_go (s_pick_f) ?_
       try simp only [opv, n1, n2, n3, n4, Value.cells]
       refine s_go (s_assign) ?_
       try simp only [opv, n1, n2, n3, n4, Value.cells]
       refine x_nil ?_
       refine hK13 _ _ ?_
       refine x_ret ?_
       refine r_tmp rfl ?_
       exact ⟨congrArg Value.bool (by rw [hR]; exact rgt_b (by assumption)), hS.ext_of⟩
     ·
      try simp only [n3, n4]
      try simp only [decide_eq_true_eq, decide_eq_false_iff_not, Bool.not_eq_true', Bool.not_eq_false', Int.not_lt, Int.not_le, ne_eq, Decidable.not_not] at hp5
      refine g_off (yi (t := 37) rfl rfl) ?_
      try simp only [opv, n1, n2, n3, n4, Value.cells]
      refine g_off (yi (t := 37) rfl rfl) ?_
      try simp only [opv, n1, n2, n3, n4, Value.cells]
      refine g_off (yi (t := 37) rfl rfl) ?_
      try simp only [opv, n1, n2, n3, n4, Value.cells]
      refine s_go (s_pick_f) ?_
      try simp only [opv, n1, n2, n3, n4, Value.cells]
      refine s_go (s_move) ?_
      try simp only [opv, n1, n2, n3, n4, Value.cells]
      refine g_off (yi (t := 42) rfl rfl) ?_
      try simp only [opv, n1, n2, n3, n4, Value.cells]
      refine g_off (yi (t := 42) rfl rfl) ?_
      try simp only [opv, n1, n2, n3, n4, Value.cells]
      refine g_off (yi (t := 42) rfl rfl) ?_
      try simp only [opv, n1, n2, n3, n4, Value.cells]
      refine s_go (s_pick_f) ?_
      try simp only [opv, n1, n2, n3, n4, Value.cells]
      refine s_go (s_assign) ?_
      try simp only [opv, n1, n2, n3, n4, Value.cells]
      refine x_nil ?_
      refine hK13 _ _ ?_
      refine x_ret ?_
      refine r_tmp rfl ?_
      exact ⟨congrArg Value.bool (by rw [hR]; exact rgt_a (by omega)), hS.ext_of⟩
    ·
     try simp only [decide_eq_true_eq, decide_eq_false_iff_not, Bool.not_eq_true', Bool.not_eq_false', Int.not_lt, Int.not_le, ne_eq, Decidable.not_not, bne_iff_ne, beq_iff_eq, not_true_eq_false, not_false_eq_true] at hc5
     try have hR : keyR x = false := by rw [keyR, if_neg (by omega), if_neg (by omega), if_neg (by omega)]
     refine x_skip ?_
     refine hK3 _ _ ?_
     refine x_seq fun K14 hK14 => ?_
     refine x_region ?_
     refine s_go (s_assign) ?_
     try simp only [opv, n1, n2, n3, n4, Value.cells]
     refine x_nil ?_
     refine hK14 _ _ ?_
     refine x_ret ?_
     refine r_tmp rfl ?_
     exact ⟨by rw [hR]; rfl, hS.ext_of⟩
theorem c_ref08Right (x : List Int) (hk : KeyOk x)  (w0 : World) :
    CallR Try.prog 101 #[.agg (KA x)] w0 fun v w' => v = .bool (keyR x) ∧ Ext w0 w' := by
 have hS : St NoB w0 w0 [] := St.start w0
 refine c_enter (l := [.agg (KA x), undef, undef, undef, undef, undef, undef, undef, undef, undef, undef, undef, undef, undef, undef, undef, undef, undef, undef, undef, undef, undef, undef, undef, undef, undef, undef, undef, undef, undef, undef, undef, undef, undef, undef, undef, undef, undef, undef, undef, undef, undef, undef]) Try.func101 rfl (by simp only [Try.ntmps101, List.size_toArray, List.length_cons, List.length_nil, Nat.reduceAdd, Nat.reduceSub, Array.replicate_succ, Array.replicate_zero, List.push_toArray, List.append_toArray, List.nil_append, List.cons_append]) ?_
 refine x_seq fun K1 hK1 => ?_
 refine x_region ?_
 have hkl := hk.len
 have hb0 := hk.b0
 have hb1 := hk.b1
 have hb10 := hk.b10
 have hb11 := hk.b11
 have hil := kitem_len hk.len
 have hib := hk.item
 refine m_box hS (fun w1 g1 hS => ?_)
 try simp only [opv, n1, n2, n3, n4, Value.cells, Array.toArray_toList] at hS ⊢
 refine s_go (s_assign) ?_
 try simp only [opv, n1, n2, n3, n4, Value.cells]
 refine x_nil ?_
 refine hK1 _ _ ?_
 refine x_seq fun K2 hK2 => ?_
 refine x_seq fun K3 hK3 => ?_
 refine x_region ?_
 refine s_go (m_fieldAddr Try.underlying43 (hi := ti5)) ?_
 try simp only [opv, n1, n2, n3, n4, Value.cells, Nat.zero_add, Nat.add_zero, List.getElem_toArray, List.getElem_cons_zero, List.getElem_cons_succ]
 refine s_go (m_load_obj Try.underlying5 (hS := hS) (hv := by exact zi_get rfl (by omega))) ?_
 try simp only [opv, n1, n2, n3, n4, Value.cells, List.getElem_toArray, List.getElem_cons_zero, List.getElem_cons_succ]
 rw [hk.e0]
 refine x_nil ?_
 refine hK3 _ _ ?_
 refine x_block ?_
 refine x_seq fun K4 hK4 => ?_
 refine x_region ?_
 refine s_go (s_eql) ?_
 try simp only [opv, n1, n2, n3, n4, Value.cells]
 refine s_go (s_assign) ?_
 try simp only [opv, n1, n2, n3, n4, Value.cells]
 refine x_nil ?_
 refine hK4 _ _ ?_
 refine x_cond (ht := fun hc1 => ?_) (hf := fun hc1 => ?_)
 ·
  try simp only [decide_eq_true_eq, decide_eq_false_iff_not, Bool.not_eq_true', Bool.not_eq_false', Int.not_lt, Int.not_le, ne_eq, Decidable.not_not, bne_iff_ne, beq_iff_eq, not_true_eq_false, not_false_eq_true] at hc1
  have hR : keyR x = (decide (kn x 11 ≠ 0) && nright (kitem x) && decide (kn x 10 < 16)) := by rw [keyR, if_neg (by omega), if_pos (by omega)]
  refine x_seq fun K5 hK5 => ?_
  refine x_region ?_
  refine s_go (m_fieldAddr Try.underlying43 (hi := ti25)) ?_
  try simp only [opv, n1, n2, n3, n4, Value.cells, Nat.zero_add, Nat.add_zero, List.getElem_toArray, List.getElem_cons_zero, List.getElem_cons_succ]
  refine s_go (m_loada_obj Try.underlying25 (hi := ti25) (hS := hS) (hfit := by (rw [zi_size (by omega)]; decide))) ?_
  try simp only [opv, n1, n2, n3, n4, Value.cells, List.getElem_toArray, List.getElem_cons_zero, List.getElem_cons_succ]
  rw [key_item hkl]
  refine s_call en23 ?_
  try simp only [opv, n1, n2, n3, n4, Value.cells, List.map_toArray, List.map_cons, List.map_nil, List.append_toArray, List.cons_append, List.nil_append, Array.append_empty]
  refine CallR.mono (c_ref06Right _ hil hib _) ?_
  rintro _ w2 ⟨rfl, hE2⟩
  replace hS := hS.ext hE2
  try simp only [opv, n1, n2, n3, n4, Value.cells]
  refine s_go (s_move) ?_
  try simp only [opv, n1, n2, n3, n4, Value.cells]
  refine s_part 10 rfl (fun hp1 => ?_) (fun hp1 => ?_)
  ·
   try simp only [n3, n4]
   try simp only [decide_eq_true_eq, decide_eq_false_iff_not, Bool.not_eq_true', Bool.not_eq_false', Int.not_lt, Int.not_le, ne_eq, Decidable.not_not] at hp1
   refine g_on (yi (t := 10) rfl rfl) ?_
   refine s_go (m_fieldAddr Try.underlying43 (hi := ti5)) ?_
   try simp only [opv, n1, n2, n3, n4, Value.cells, Nat.zero_add, Nat.add_zero, List.getElem_toArray, List.getElem_cons_zero, List.getElem_cons_succ]
   refine g_on (yi (t := 10) rfl rfl) ?_
   refine s_go (m_load_obj Try.underlying5 (hS := hS) (hv := by exact zi_get rfl (by omega))) ?_
   try simp only [opv, n1, n2, n3, n4, Value.cells, List.getElem_toArray, List.getElem_cons_zero, List.getElem_cons_succ]
   rw [hk.e10]
   refine g_on (yi (t := 10) rfl rfl) ?_
   refine s_go (s_lss) ?_
   try simp only [opv, n1, n2, n3, n4, Value.cells]
   refine s_go (s_pick_t) ?_
   try simp only [opv, n1, n2, n3, n4, Value.cells]
   refine s_go (s_move) ?_
   try simp only [opv, n1, n2, n3, n4, Value.cells]
   refine s_part 15 rfl (fun hp2 => ?_) (fun hp2 => ?_)
   ·
    try simp only [n3, n4]
    try simp only [decide_eq_true_eq, decide_eq_false_iff_not, Bool.not_eq_true', Bool.not_eq_false', Int.not_lt, Int.not_le, ne_eq, Decidable.not_not] at hp2
    refine g_on (yi (t := 15) rfl rfl) ?_
    refine s_go (m_fieldAddr Try.underlying43 (hi := ti29)) ?_
    try simp only [opv, n1, n2, n3, n4, Value.cells, Nat.zero_add, Nat.add_zero, List.getElem_toArray, List.getElem_cons_zero, List.getElem_cons_succ]
    refine g_on (yi (t := 15) rfl rfl) ?_
    refine s_go (m_load_obj Try.underlying29 (hS := hS) (hv := by exact zi_get rfl (by omega))) ?_
    try simp only [opv, n1, n2, n3, n4, Value.cells, List.getElem_toArray, List.getElem_cons_zero, List.getElem_cons_succ]
    rw [hk.e11]
    refine g_on (yi (t := 15) rfl rfl) ?_
    refine s_go (s_gtr) ?_
    try simp only [opv, n1, n2, n3, n4, Value.cells]
    refine s_go (s_pick_t) ?_
    try simp only [opv, n1, n2, n3, n4, Value.cells]
    refine s_go (s_assign) ?_
    try simp only [opv, n1, n2, n3, n4, Value.cells]
    refine x_nil ?_
    refine hK5 _ _ ?_
    refine x_ret ?_
    refine r_tmp rfl ?_
    exact ⟨congrArg Value.bool (by rw [hR]; exact rgt_d (by omega) (by assumption) (by omega)), hS.ext_of⟩
   ·
    try simp only [n3, n4]
    try simp only [decide_eq_true_eq, decide_eq_false_iff_not, Bool.not_eq_true', Bool.not_eq_false', Int.not_lt, Int.not_le, ne_eq, Decidable.not_not] at hp2
    refine g_off (yi (t := 15) rfl rfl) ?_
    try simp only [opv, n1, n2, n3, n4, Value.cells]
    refine g_off (yi (t := 15) rfl rfl) ?_
    try simp only [opv, n1, n2, n3, n4, Value.cells]
    refine g_off (yi (t := 15) rfl rfl) ?_
    try simp only [opv, n1, n2, n3, n4, Value.cells]
    refine s_go (s_pick_f) ?_
    try simp only [opv, n1, n2, n3, n4, Value.cells]
    refine s_go (s_assign) ?_
    try simp only [opv, n1, n2, n3, n4, Value.cells]
    refine x_nil ?_
    refine hK5 _ _ ?_
    refine x_ret ?_
    refine r_tmp rfl ?_
    exact ⟨congrArg Value.bool (by rw [hR]; exact rgt_e (by omega)), hS.ext_of⟩
  ·
   try simp only [n3, n4]
   try simp only [decide_eq_true_eq, decide_eq_false_iff_not, Bool.not_eq_true', Bool.not_eq_false', Int.not_lt, Int.not_le, ne_eq, Decidable.not_not] at hp1
   refine g_off (yi (t := 10) rfl rfl) ?_
   try simp only [opv, n1, n2, n3, n4, Value.cells]
   refine g_off (yi (t := 10) rfl rfl) ?_
   try simp only [opv, n1, n2, n3, n4, Value.cells]
   refine g_off (yi (t := 10) rfl rfl) ?_
   try simp only [opv, n1, n2, n3, n4, Value.cells]
   refine s_go (s_pick_f) ?_
   try simp only [opv, n1, n2, n3, n4, Value.cells]
   refine s_go (s_move) ?_
   try simp only [opv, n1, n2, n3, n4, Value.cells]
   refine g_off (yi (t := 15) rfl rfl) ?_
   try simp only [opv, n1, n2, n3, n4, Value.cells]
   refine g_off (yi (t := 15) rfl rfl) ?_
   try simp only [opv, n1, n2, n3, n4, Value.cells]
   refine g_off (yi (t := 15) rfl rfl) ?_
   try simp only [opv, n1, n2, n3, n4, Value.cells]
   refine s_go (s_pick_f) ?_
   try simp only [opv, n1, n2, n3, n4, Value.cells]
   refine s_go (s_assign) ?_
   try simp only [opv, n1, n2, n3, n4, Value.cells]
   refine x_nil ?_
   refine hK5 _ _ ?_
   refine x_ret ?_
   refine r_tmp rfl ?_
   exact ⟨congrArg Value.bool (by rw [hR]; exact rgt_b (by assumption)), hS.ext_of⟩
 ·
  try simp only [decide_eq_true_eq, decide_eq_false_iff_not, Bool.not_eq_true', Bool.not_eq_false', Int.not_lt, Int.not_le, ne_eq, Decidable.not_not, bne_iff_ne, beq_iff_eq, not_true_eq_false, not_false_eq_true] at hc1
  refine x_seq fun K6 hK6 => ?_
  refine x_seq fun K7 hK7 => ?_
  refine x_region ?_
  refine s_go (s_eql) ?_
  try simp only [opv, n1, n2, n3, n4, Value.cells]
  refine s_go (s_assign) ?_
  try simp only [opv, n1, n2, n3, n4, Value.cells]
  refine x_nil ?_
  refine hK7 _ _ ?_
  refine x_cond (ht := fun hc2 => ?_) (hf := fun hc2 => ?_)
  ·
   try simp only [decide_eq_true_eq, decide_eq_false_iff_not, Bool.not_eq_true', Bool.not_eq_false', Int.not_lt, Int.not_le, ne_eq, Decidable.not_not, bne_iff_ne, beq_iff_eq, not_true_eq_false, not_false_eq_true] at hc2
   try have hR : keyR x = (decide (kn x 11 = 0) && nright (kitem x) && decide (kn x 10 < 16)) := by rw [keyR, if_neg (by omega), if_neg (by omega), if_pos (by omega)]
   refine x_skip ?_
   refine hK6 _ _ ?_
   refine x_cond (ht := fun hc3 => ?_) (hf := fun hc3 => ?_)
   ·
    try simp only [decide_eq_true_eq, decide_eq_false_iff_not, Bool.not_eq_true', Bool.not_eq_false', Int.not_lt, Int.not_le, ne_eq, Decidable.not_not, bne_iff_ne, beq_iff_eq, not_true_eq_false, not_false_eq_true] at hc3
    try have hR : keyR x = (decide (kn x 11 = 0) && nright (kitem x) && decide (kn x 10 < 16)) := by rw [keyR, if_neg (by omega), if_neg (by omega), if_pos (by omega)]
    refine x_seq fun K8 hK8 => ?_
    refine x_region ?_
    refine s_go (m_fieldAddr Try.underlying43 (hi := ti25)) ?_
    try simp only [opv, n1, n2, n3, n4, Value.cells, Nat.zero_add, Nat.add_zero, List.getElem_toArray, List.getElem_cons_zero, List.getElem_cons_succ]
    refine s_go (m_loada_obj Try.underlying25 (hi := ti25) (hS := hS) (hfit := by (rw [zi_size (by omega)]; decide))) ?_
    try simp only [opv, n1, n2, n3, n4, Value.cells, List.getElem_toArray, List.getElem_cons_zero, List.getElem_cons_succ]
    rw [key_item hkl]
    refine s_call en23 ?_
    try simp only [opv, n1, n2, n3, n4, Value.cells, List.map_toArray, List.map_cons, List.map_nil, List.append_toArray, List.cons_append, List.nil_append, Array.append_empty]
    refine CallR.mono (c_ref06Right _ hil hib _) ?_
    rintro _ w3 ⟨rfl, hE3⟩
    replace hS := hS.ext hE3
    try simp only [opv, n1, n2, n3, n4, Value.cells]
    refine s_go (s_move) ?_
    try simp only [opv, n1, n2, n3, n4, Value.cells]
    refine s_part 26 rfl (fun hp3 => ?_) (fun hp3 => ?_)
    ·
     try simp only [n3, n4]
     try simp only [decide_eq_true_eq, decide_eq_false_iff_not, Bool.not_eq_true', Bool.not_eq_false', Int.not_lt, Int.not_le, ne_eq, Decidable.not_not] at hp3
     refine g_on (yi (t := 26) rfl rfl) ?_
     refine s_go (m_fieldAddr Try.underlying43 (hi := ti5)) ?_
     try simp only [opv, n1, n2, n3, n4, Value.cells, Nat.zero_add, Nat.add_zero, List.getElem_toArray, List.getElem_cons_zero, List.getElem_cons_succ]
     refine g_on (yi (t := 26) rfl rfl) ?_
     refine s_go (m_load_obj Try.underlying5 (hS := hS) (hv := by exact zi_get rfl (by omega))) ?_
     try simp only [opv, n1, n2, n3, n4, Value.cells, List.getElem_toArray, List.getElem_cons_zero, List.getElem_cons_succ]
     rw [hk.e10]
     refine g_on (yi (t := 26) rfl rfl) ?_
     refine s_go (s_lss) ?_
     try simp only [opv, n1, n2, n3, n4, Value.cells]
     refine s_go (s_pick_t) ?_
     try simp only [opv, n1, n2, n3, n4, Value.cells]
     refine s_go (s_move) ?_
     try simp only [opv, n1, n2, n3, n4, Value.cells]
     refine s_part 31 rfl (fun hp4 => ?_) (fun hp4 => ?_)
     ·
      try simp only [n3, n4]
      try simp only [decide_eq_true_eq, decide_eq_false_iff_not, Bool.not_eq_true', Bool.not_eq_false', Int.not_lt, Int.not_le, ne_eq, Decidable.not_not] at hp4
      refine g_on (yi (t := 31) rfl rfl) ?_
      refine s_go (m_fieldAddr Try.underlying43 (hi := ti29)) ?_
      try simp only [opv, n1, n2, n3, n4, Value.cells, Nat.zero_add, Nat.add_zero, List.getElem_toArray, List.getElem_cons_zero, List.getElem_cons_succ]
      refine g_on (yi (t := 31) rfl rfl) ?_
      refine s_go (m_load_obj Try.underlying29 (hS := hS) (hv := by exact zi_get rfl (by omega))) ?_
      try simp only [opv, n1, n2, n3, n4, Value.cells, List.getElem_toArray, List.getElem_cons_zero, List.getElem_cons_succ]
      rw [hk.e11]
      refine g_on (yi (t := 31) rfl rfl) ?_
      refine s_go (s_eql) ?_
      try simp only [opv, n1, n2, n3, n4, Value.cells]
      refine s_go (s_pick_t) ?_
      try simp only [opv, n1, n2, n3, n4, Value.cells]
      refine s_go (s_assign) ?_
      try simp only [opv, n1, n2, n3, n4, Value.cells]
      refine x_nil ?_
      refine hK8 _ _ ?_
      refine x_ret ?_
      refine r_tmp rfl ?_
      exact ⟨congrArg Value.bool (by rw [hR]; exact rgt_d (by omega) (by assumption) (by omega)), hS.ext_of⟩
     ·
      try simp only [n3, n4]
      try simp only [decide_eq_true_eq, decide_eq_false_iff_not, Bool.not_eq_true', Bool.not_eq_false', Int.not_lt, Int.not_le, ne_eq, Decidable.not_not] at hp4
      refine g_off (yi (t := 31) rfl rfl) ?_
      try simp only [opv, n1, n2, n3, n4, Value.cells]
      refine g_off (yi (t := 31) rfl rfl) ?_
      try simp only [opv, n1, n2, n3, n4, Value.cells]
      refine g_off (yi (t := 31) rfl rfl) ?_
      try simp only [opv, n1, n2, n3, n4, Value.cells]
      refine s_go (s_pick_f) ?_
      try simp only [opv, n1, n2, n3, n4, Value.cells]
      refine s_go (s_assign) ?_
      try simp only [opv, n1, n2, n3, n4, Value.cells]
      refine x_nil ?_
      refine hK8 _ _ ?_
      refine x_ret ?_
      refine r_tmp rfl ?_
      exact ⟨congrArg Value.bool (by rw [hR]; exact rgt_e (by omega)), hS.ext_of⟩
    ·
     try simp only [n3, n4]
     try simp only [decide_eq_true_eq, decide_eq_false_iff_not, Bool.not_eq_true', Bool.not_eq_false', Int.not_lt, Int.not_le, ne_eq, Decidable.not_not] at hp3
     refine g_off (yi (t := 26) rfl rfl) ?_
     try simp only [opv, n1, n2, n3, n4, Value.cells]
     refine g_off (yi (t := 26) rfl rfl) ?_
     try simp only [opv, n1, n2, n3, n4, Value.cells]
     refine g_off (yi (t := 26) rfl rfl) ?_
     try simp only [opv, n1, n2, n3, n4, Value.cells]
     refine s_go (s_pick_f) ?_
     try simp only [opv, n1, n2, n3, n4, Value.cells]
     refine s_go (s_move) ?_
     try simp only [opv, n1, n2, n3, n4, Value.cells]
     refine g_off (yi (t := 31) rfl rfl) ?_
     try simp only [opv, n1, n2, n3, n4, Value.cells]
     refine g_off (yi (t := 31) rfl rfl) ?_
     try simp only [opv, n1, n2, n3, n4, Value.cells]
     refine g_off (yi (t := 31) rfl rfl) ?_
     try simp only [opv, n1, n2, n3, n4, Value.cells]
     refine s_go (s_pick_f) ?_
     try simp only [opv, n1, n2, n3, n4, Value.cells]
     refine s_go (s_assign) ?_
     try simp only [opv, n1, n2, n3, n4, Value.cells]
     refine x_nil ?_
     refine hK8 _ _ ?_
     refine x_ret ?_
     refine r_tmp rfl ?_
     exact ⟨congrArg Value.bool (by rw [hR]; exact rgt_b (by assumption)), hS.ext_of⟩
   ·
    try simp only [decide_eq_true_eq, decide_eq_false_iff_not, Bool.not_eq_true', Bool.not_eq_false', Int.not_lt, Int.not_le, ne_eq, Decidable.not_not, bne_iff_ne, beq_iff_eq, not_true_eq_false, not_false_eq_true] at hc3
    (exfalso; omega)
  ·
   try simp only [decide_eq_true_eq, decide_eq_false_iff_not, Bool.not_eq_true', Bool.not_eq_false', Int.not_lt, Int.not_le, ne_eq, Decidable.not_not, bne_iff_ne, beq_iff_eq, not_true_eq_false, not_false_eq_true] at hc2
   refine x_region ?_
   refine s_go (s_eql) ?_
   try simp only [opv, n1, n2, n3, n4, Value.cells]
   refine s_go (s_assign) ?_
   try simp only [opv, n1, n2, n3, n4, Value.cells]
   refine x_nil ?_
   refine hK6 _ _ ?_
   refine x_cond (ht := fun hc5 => ?_) (hf := fun hc5 => ?_)
   ·
    try simp only [decide_eq_true_eq, decide_eq_false_iff_not, Bool.not_eq_true', Bool.not_eq_false', Int.not_lt, Int.not_le, ne_eq, Decidable.not_not, bne_iff_ne, beq_iff_eq, not_true_eq_false, not_false_eq_true] at hc5
    try have hR : keyR x = (decide (kn x 11 = 0) && nright (kitem x) && decide (kn x 10 < 16)) := by rw [keyR, if_neg (by omega), if_neg (by omega), if_pos (by omega)]
    refine x_seq fun K12 hK12 => ?_
    refine x_region ?_
    refine s_go (m_fieldAddr Try.underlying43 (hi := ti25)) ?_
    try simp only [opv, n1, n2, n3, n4, Value.cells, Nat.zero_add, Nat.add_zero, List.getElem_toArray, List.getElem_cons_zero, List.getElem_cons_succ]
    refine s_go (m_loada_obj Try.underlying25 (hi := ti25) (hS := hS) (hfit := by (rw [zi_size (by omega)]; decide))) ?_
    try simp only [opv, n1, n2, n3, n4, Value.cells, List.getElem_toArray, List.getElem_cons_zero, List.getElem_cons_succ]
    rw [key_item hkl]
    refine s_call en23 ?_
    try simp only [opv, n1, n2, n3, n4, Value.cells, List.map_toArray, List.map_cons, List.map_nil, List.append_toArray, List.cons_append, List.nil_append, Array.append_empty]
    refine CallR.mono (c_ref06Right _ hil hib _) ?_
    rintro _ w4 ⟨rfl, hE4⟩
    replace hS := hS.ext hE4
    try simp only [opv, n1, n2, n3, n4, Value.cells]
    refine s_go (s_move) ?_
    try simp only [opv, n1, n2, n3, n4, Value.cells]
    refine s_part 26 rfl (fun hp5 => ?_) (fun hp5 => ?_)
    ·
     try simp only [n3, n4]
     try simp only [decide_eq_true_eq, decide_eq_false_iff_not, Bool.not_eq_true', Bool.not_eq_false', Int.not_lt, Int.not_le, ne_eq, Decidable.not_not] at hp5
     refine g_on (yi (t := 26) rfl rfl) ?_
     refine s_go (m_fieldAddr Try.underlying43 (hi := ti5)) ?_
     try simp only [opv, n1, n2, n3, n4, Value.cells, Nat.zero_add, Nat.add_zero, List.getElem_toArray, List.getElem_cons_zero, List.getElem_cons_succ]
     refine g_on (yi (t := 26) rfl rfl) ?_
     refine s_go (m_load_obj Try.underlying5 (hS := hS) (hv := by exact zi_get rfl (by omega))) ?_
     try simp only [opv, n1, n2, n3, n4, Value.cells, List.getElem_toArray, List.getElem_cons_zero, List.getElem_cons_succ]
     rw [hk.e10]
     refine g_on (yi (t := 26) rfl rfl) ?_
     refine s_go (s_lss) ?_
     try simp only [opv, n1, n2, n3, n4, Value.cells]
     refine s_go (s_pick_t) ?_
     try simp only [opv, n1, n2, n3, n4, Value.cells]
     refine s_go (s_move) ?_
     try simp only [opv, n1, n2, n3, n4, Value.cells]
     refine s_part 31 rfl (fun hp6 => ?_) (fun hp6 => ?_)
     ·
      try simp only [n3, n4]
      try simp only [decide_eq_true_eq, decide_eq_false_iff_not, Bool.not_eq_true', Bool.not_eq_false', Int.not_lt, Int.not_le, ne_eq, Decidable.not_not] at hp6
      refine g_on (yi (t := 31) rfl rfl) ?_
      refine s_go (m_fieldAddr Try.underlying43 (hi := ti29)) ?_
      try simp only [opv, n1, n2, n3, n4, Value.cells, Nat.zero_add, Nat.add_zero, List.getElem_toArray, List.getElem_cons_zero, List.getElem_cons_succ]
      refine g_on (yi (t := 31) rfl rfl) ?_
      refine s_go (m_load_obj Try.underlying29 (hS := hS) (hv := by exact zi_get rfl (by omega))) ?_
      try simp only [opv, n1, n2, n3, n4, Value.cells, List.getElem_toArray, List.getElem_cons_zero, List.getElem_cons_succ]
      rw [hk.e11]
      refine g_on (yi (t := 31) rfl rfl) ?_
      refine s_go (s_eql) ?_
      try simp only [opv, n1, n2, n3, n4, Value.cells]
      refine s_go (s_pick_t) ?_
      try simp only [opv, n1, n2, n3, n4, Value.cells]
      refine s_go (s_assign) ?_
      try simp only [opv, n1, n2, n3, n4, Value.cells]
      refine x_nil ?_
      refine hK12 _ _ ?_
      refine x_ret ?_
      refine r_tmp rfl ?_
      exact ⟨congrArg Value.bool (by rw [hR]; exact rgt_d (by omega) (by assumption) (by omega)), hS.ext_of⟩
     ·
      try simp only [n3, n4]
      try simp only [decide_eq_true_eq, decide_eq_false_iff_not, Bool.not_eq_true', Bool.not_eq_false', Int.not_lt, Int.not_le, ne_eq, Decidable.not_not] at hp6
      refine g_off (yi (t := 31) rfl rfl) ?_
      try simp only [opv, n1, n2, n3, n4, Value.cells]
      refine g_off (yi (t := 31) rfl rfl) ?_
      try simp only [opv, n1, n2, n3, n4, Value.cells]
      refine g_off (yi (t := 31) rfl rfl) ?_
      try simp only [opv, n1, n2, n3, n4, Value.cells]
      refine s_go (s_pick_f) ?_
      try simp only [opv, n1, n2, n3, n4, Value.cells]
      refine s_go (s_assign) ?_
      try simp only [opv, n1, n2, n3, n4, Value.cells]
      refine x_nil ?_
      refine hK12 _ _ ?_
      refine x_ret ?_
      refine r_tmp rfl ?_
      exact ⟨congrArg Value.bool (by rw [hR]; exact rgt_e (by omega)), hS.ext_of⟩
    ·
     try simp only [n3, n4]
     try simp only [decide_eq_true_eq, decide_eq_false_iff_not, Bool.not_eq_true', Bool.not_eq_false', Int.not_lt, Int.not_le, ne_eq, Decidable.not_not] at hp5
     refine g_off (yi (t := 26) rfl rfl) ?_
     try simp only [opv, n1, n2, n3, n4, Value.cells]
     refine g_off (yi (t := 26) rfl rfl) ?_
     try simp only [opv, n1, n2, n3, n4, Value.cells]
     refine g_off (yi (t := 26) rfl rfl) ?_
     try simp only [opv, n1, n2, n3, n4, Value.cells]
     refine s_go (s_pick_f) ?_
     try simp only [opv, n1, n2, n3, n4, Value.cells]
     refine s_go (s_move) ?_
     try simp only [opv, n1, n2, n3, n4, Value.cells]
     refine g_off (yi (t := 31) rfl rfl) ?_
     try simp only [opv, n1, n2, n3, n4, Value.cells]
     refine g_off (yi (t := 31) rfl rfl) ?_
     try simp only [opv, n1, n2, n3, n4, Value.cells]
     refine g_off (yi (t := 31) rfl rfl) ?_
     try simp only [opv, n1, n2, n3, n4, Value.cells]
     refine s_go (s_pick_f) ?_
     try simp only [opv, n1, n2, n3, n4, Value.cells]
     refine s_go (s_assign) ?_
     try simp only [opv, n1, n2, n3, n4, Value.cells]
     refine x_nil ?_
     refine hK12 _ _ ?_
     refine x_ret ?_
     refine r_tmp rfl ?_
     exact ⟨congrArg Value.bool (by rw [hR]; exact rgt_b (by assumption)), hS.ext_of⟩
   ·
    try simp only [decide_eq_true_eq, decide_eq_false_iff_not, Bool.not_eq_true', Bool.not_eq_false', Int.not_lt, Int.not_le, ne_eq, Decidable.not_not, bne_iff_ne, beq_iff_eq, not_true_eq_false, not_false_eq_true] at hc5
    refine x_seq fun K13 hK13 => ?_
    refine x_region ?_
    refine s_go (s_eql) ?_
    try simp only [opv, n1, n2, n3, n4, Value.cells]
    refine s_go (s_assign) ?_
    try simp only [opv, n1, n2, n3, n4, Value.cells]
    refine x_nil ?_
    refine hK13 _ _ ?_
    refine x_cond (ht := fun hc6 => ?_) (hf := fun hc6 => ?_)
    ·
     try simp only [decide_eq_true_eq, decide_eq_false_iff_not, Bool.not_eq_true', Bool.not_eq_false', Int.not_lt, Int.not_le, ne_eq, Decidable.not_not, bne_iff_ne, beq_iff_eq, not_true_eq_false, not_false_eq_true] at hc6
     have hR : keyR x = decide (x = bareK x) := by rw [keyR, if_pos (by omega)]
     refine x_seq fun K14 hK14 => ?_
     refine x_region ?_
     refine s_go (m_load_row Try.underlying43 (hi := ti43) (hS := hS) (hfit := by (rw [zi_size (by omega)]; rfl))) ?_
     try simp only [opv, n1, n2, n3, n4, Value.cells, List.getElem_toArray, List.getElem_cons_zero, List.getElem_cons_succ]
     refine s_go (m_fieldAddr Try.underlying43 (hi := ti23)) ?_
     try simp only [opv, n1, n2, n3, n4, Value.cells, Nat.zero_add, Nat.add_zero, List.getElem_toArray, List.getElem_cons_zero, List.getElem_cons_succ]
     refine s_go (m_load_obj Try.underlying23 (hS := hS) (hv := by exact zi_get rfl (by omega))) ?_
     try simp only [opv, n1, n2, n3, n4, Value.cells, List.getElem_toArray, List.getElem_cons_zero, List.getElem_cons_succ]
     rw [hk.e1]
     have hbl : (bareK x).length = 12 := rfl
     refine s_go (s_build_struct (cells := #[_, _, .int .u8 0, .int .u8 0, .int .u8 0, .int .u8 0, .int .u8 0, .int .u8 0, .int .u8 0, .int .u8 0, .int .u8 0, .int .u32 0]) Try.underlying43 ti43 bp43 (hc := by simp only [List.map_toArray, List.map_cons, List.map_nil, opv, n1, n2, n3, n4, Value.cells, List.toList_toArray]; (repeat (refine fill_cons rfl rfl (Nat.le_of_ble_eq_true rfl) ?_)); rfl)) ?_
     try simp only [opv, n1, n2, n3, n4, Value.cells]
     rw [show (#[.int .u8 4, .int .u16 (kn x 1 : Int), .int .u8 0, .int .u8 0, .int .u8 0, .int .u8 0, .int .u8 0, .int .u8 0, .int .u8 0, .int .u8 0, .int .u8 0, .int .u32 0] : Array Value) = KA (bareK x) by rw [bareK, show kn x 0 = 4 by omega]; rfl]
     refine s_go (s_eql_agg eqv43 (hg := eg43) (hX := rfl) (hY := rfl) (h1 := by assumption) (h2 := by assumption)) ?_
     try simp only [opv, n1, n2, n3, n4, Value.cells]
     refine s_go (s_assign) ?_
     try simp only [opv, n1, n2, n3, n4, Value.cells]
     refine x_nil ?_
     refine hK14 _ _ ?_
     refine x_ret ?_
     refine r_tmp rfl ?_
     exact ⟨by rw [hR]; rfl, hS.ext_of⟩
    ·
     try simp only [decide_eq_true_eq, decide_eq_false_iff_not, Bool.not_eq_true', Bool.not_eq_false', Int.not_lt, Int.not_le, ne_eq, Decidable.not_not, bne_iff_ne, beq_iff_eq, not_true_eq_false, not_false_eq_true] at hc6
     have hR : keyR x = false := by rw [keyR, if_neg (by omega), if_neg (by omega), if_neg (by omega)]
     refine x_skip ?_
     refine hK2 _ _ ?_
     refine x_seq fun K15 hK15 => ?_
     refine x_region ?_
     refine s_go (s_assign) ?_
     try simp only [opv, n1, n2, n3, n4, Value.cells]
     refine x_nil ?_
     refine hK15 _ _ ?_
     refine x_ret ?_
     refine r_tmp rfl ?_
     exact ⟨by rw [hR]; rfl, hS.ext_of⟩
end Go.Proofs.Ytffmanidnlbjjaa
set_option linter.unusedSimpArgs false
set_option linter.unusedVariables false
set_option maxHeartbeats 800000
set_option maxRecDepth 100000
namespace Go.Proofs.Ytffmanidnlbjjaa
open Go.RowKit

def vgrp (x n i : Nat) : Nat := x / 128 ^ i % 128 + (if i + 1 < n then 128 else 0)
theorem vgrp_all (x : Nat) : (List.range (vari x).length).map (fun i => (vgrp x (vari x).length i : Int)) = vari x := by
  refine List.ext_getElem (by simp) fun i h1 h2 => ?_
  have := vari_getD x i h2
  rw [List.getD_eq_getElem?_getD, List.getElem?_eq_getElem h2] at this
  simp only [List.getElem_map, List.getElem_range, vgrp]
  exact this.symm
theorem vari_bits {x : Nat} (hx : x < 18446744073709551616) : (vari x).length = max ((Lib.bitLen x + 6) / 7) 1 := by
  have h0 := vari_pos x
  refine Nat.le_antisymm ?_ ?_
  · refine (vari_len_iff (by omega)).2 ?_
    rw [pow128, ← bitLen_le_iff hx]; omega
  · have h := (vari_len_iff h0 (x := x)).1 (Nat.le_refl _)
    rw [pow128, ← bitLen_le_iff hx] at h; omega
theorem c_packFill (w0 : World) (n : Nat) (hn : n ≤ 1000) (F : Nat → Int) (f : FuncId) (cap : Array Value) (he : Enters Try.prog f) (H : ∀ (w : World) (i : Nat), Ext w0 w → i < n → CallR Try.prog f (#[.int .i64 (i : Int)] ++ cap) w fun v w' => v = .int .u8 (F i) ∧ Ext w w') :
    CallR Try.prog 159 #[.int .i64 (n : Int), .func (.func f) #[] cap] w0 fun v w' => ∃ A, v = .slice A n n ∧ St NoB w0 w' [.vec A n 5 1 n (((List.range n).map F).map (Value.int .u8))] := by
 have hS : St NoB w0 w0 [] := St.start w0
 refine c_enter (l := [.int .i64 (n : Int), .func (.func f) #[] cap, undef, undef, undef, undef, undef, undef, undef, undef, undef, undef, undef, undef, undef, undef, undef, undef, undef, undef, undef, undef]) Try.func159 rfl (by simp only [Try.ntmps159, List.size_toArray, List.length_cons, List.length_nil, Nat.reduceAdd, Nat.reduceSub, Array.replicate_succ, Array.replicate_zero, List.push_toArray, List.append_toArray, List.nil_append, List.cons_append]) ?_
 refine x_seq fun K1 hK1 => ?_
 refine x_region ?_
 refine s_go (s_assign) ?_
 try simp only [opv, n1, n2, n3, n4, Value.cells]
 refine x_nil ?_
 refine hK1 _ _ ?_
 refine x_seq fun K2 hK2 => ?_
 refine x_region ?_
 refine s_go (s_move) ?_
 try simp only [opv, n1, n2, n3, n4, Value.cells]
 refine m_make (n := _) Try.underlying56 ti5 (hx := rfl) (hy := rfl) (h63 := by (simp only [maxLen]; omega)) (hS := hS) (h := fun w1 A1 hS => ?_)
 try simp only [opv, n1, n2, n3, n4, Value.cells, Array.toArray_toList] at hS ⊢
 rw [made_int] at hS
 refine s_go (s_assign) ?_
 try simp only [opv, n1, n2, n3, n4, Value.cells]
 refine x_nil ?_
 refine hK2 _ _ ?_
 refine x_seq fun K3 hK3 => ?_
 refine x_seq fun K4 hK4 => ?_
 refine x_region ?_
 refine s_go (s_move) ?_
 try simp only [opv, n1, n2, n3, n4, Value.cells]
 refine s_go (s_len_sl Try.underlying56) ?_
 try simp only [opv, n1, n2, n3, n4, Value.cells]
 refine s_go (s_move) ?_
 try simp only [opv, n1, n2, n3, n4, Value.cells]
 refine x_nil ?_
 refine hK4 _ _ ?_
 refine x_block ?_
 refine x_loop [6, 11, 12, 13, 14, 15, 16, 17, 18, 19, 20] (fun m f w => ∃ k : Nat, k ≤ n ∧ m = n - k ∧ f 11 = .int .i64 (k : Int) ∧ St NoB w0 w [.vec A1 n 5 1 n ((fillT F n k).map (Value.int .u8))]) (n) ?init1 (fun m1 f1 wl1 hI => ?_)
 case init1 =>
  try simp only [opv, n1, n2, n3, n4, Value.cells]
  exact ⟨0, by omega, rfl, rfl, by rw [fillT_zero]; exact hS⟩
 obtain ⟨k, hk, hm, h11, hS⟩ := hI
 simp only [clob, List.foldl, n3, n4, h11]
 have hfl := fillT_len (F := F) hk
 refine x_seq fun K5 hK5 => ?_
 refine x_region ?_
 refine s_go (s_lss) ?_
 try simp only [opv, n1, n2, n3, n4, Value.cells]
 refine x_nil ?_
 refine hK5 _ _ ?_
 refine x_seq fun K6 hK6 => ?_
 refine x_cond (ht := fun hc1 => ?_) (hf := fun hc1 => ?_)
 ·
  try simp only [decide_eq_true_eq, decide_eq_false_iff_not, Bool.not_eq_true', Bool.not_eq_false', Int.not_lt, Int.not_le, ne_eq, Decidable.not_not, bne_iff_ne, beq_iff_eq, not_true_eq_false, not_false_eq_true] at hc1
  refine x_skip ?_
  refine hK6 _ _ ?_
  refine x_seq fun K7 hK7 => ?_
  refine x_block ?_
  refine x_seq fun K8 hK8 => ?_
  refine x_region ?_
  refine s_go (s_move) ?_
  try simp only [opv, n1, n2, n3, n4, Value.cells]
  refine s_go (s_assign) ?_
  try simp only [opv, n1, n2, n3, n4, Value.cells]
  refine x_nil ?_
  refine hK8 _ _ ?_
  refine x_region ?_
  refine s_go (s_move) ?_
  try simp only [opv, n1, n2, n3, n4, Value.cells]
  refine s_go (s_move) ?_
  try simp only [opv, n1, n2, n3, n4, Value.cells]
  refine s_go (s_move) ?_
  try simp only [opv, n1, n2, n3, n4, Value.cells]
  refine s_go (s_move) ?_
  try simp only [opv, n1, n2, n3, n4, Value.cells]
  refine s_callv (hv := rfl) he ?_
  try simp only [opv, n1, n2, n3, n4, Value.cells, List.map_toArray, List.map_cons, List.map_nil, List.append_toArray, List.cons_append, List.nil_append, Array.append_empty]
  refine CallR.mono (H _ k hS.ext_of (by omega)) ?_
  rintro _ w2 ⟨rfl, hE2⟩
  replace hS := hS.ext hE2
  try simp only [opv, n1, n2, n3, n4, Value.cells]
  refine s_go (m_indexAddr_vec Try.underlying56 ti5 (hS := hS)) ?_
  try simp only [opv, n1, n2, n3, n4, Value.cells, Nat.mul_one, Nat.zero_add, Int.toNat_natCast, Int.reduceToNat]
  refine m_store_vec ti5 (hS := hS) (h := fun w3 hS => ?_)
  try simp only [opv, n1, n2, n3, n4, Value.cells, Array.toArray_toList] at hS ⊢
  refine x_nil ?_
  refine hK7 _ _ ?_
  refine x_region ?_
  refine s_go (s_add (hc := by exact wr_i64 (by omega) (by omega))) ?_
  try simp only [opv, n1, n2, n3, n4, Value.cells]
  refine s_go (s_move) ?_
  try simp only [opv, n1, n2, n3, n4, Value.cells]
  refine x_nil ?_
  refine loop_back (m' := n - (k + 1)) (by simp only [clob, List.foldl, n1, n2, n3, n4]) ?_ ?_
  · try simp only [opv, n1, n2, n3, n4, Value.cells]
    exact ⟨k + 1, by omega, by omega, by rfl, by rw [← fillT_set (by omega)]; exact hS⟩
  · omega
 ·
  try simp only [decide_eq_true_eq, decide_eq_false_iff_not, Bool.not_eq_true', Bool.not_eq_false', Int.not_lt, Int.not_le, ne_eq, Decidable.not_not, bne_iff_ne, beq_iff_eq, not_true_eq_false, not_false_eq_true] at hc1
  obtain rfl : k = n := by omega
  rw [fillT_all] at hS
  refine x_exit (look_here ?_)
  refine hK3 _ _ ?_
  refine x_seq fun K9 hK9 => ?_
  refine x_region ?_
  refine s_go (s_move) ?_
  try simp only [opv, n1, n2, n3, n4, Value.cells]
  refine s_go (s_assign) ?_
  try simp only [opv, n1, n2, n3, n4, Value.cells]
  refine x_nil ?_
  refine hK9 _ _ ?_
  refine x_ret ?_
  refine r_tmp rfl ?_
  exact ⟨_, rfl, hS⟩
theorem c_packVar1 (w0 : World) (i g q x n : Nat) (hi : i < n) (hn : n ≤ 10) (hx : x < 18446744073709551616) (h1 : Rd w0 (some ⟨g, 0, none⟩) 1 1 [.int .u64 (x : Int)]) (h2 : Rd w0 (some ⟨q, 0, none⟩) 1 1 [.int .i64 ((n - 1 : Nat) : Int)]) :
    CallR Try.prog 160 #[.int .i64 (i : Int), .pointer (some ⟨g, 0, none⟩), .pointer (some ⟨q, 0, none⟩)] w0 fun v w' => v = .int .u8 (vgrp x n i : Int) ∧ Ext w0 w' := by
 have hS := St.rd2 (S := NoB) h1 h2
 refine c_enter (l := [.int .i64 (i : Int), .pointer (some ⟨g, 0, none⟩), .pointer (some ⟨q, 0, none⟩), undef, undef, undef, undef, undef, undef, undef, undef, undef, undef, undef, undef, undef, undef, undef, undef]) Try.func160 rfl (by simp only [Try.ntmps160, List.size_toArray, List.length_cons, List.length_nil, Nat.reduceAdd, Nat.reduceSub, Array.replicate_succ, Array.replicate_zero, List.push_toArray, List.append_toArray, List.nil_append, List.cons_append]) ?_
 refine x_seq fun K1 hK1 => ?_
 refine x_region ?_
 refine s_go (s_assign) ?_
 try simp only [opv, n1, n2, n3, n4, Value.cells]
 refine x_nil ?_
 refine hK1 _ _ ?_
 refine x_seq fun K2 hK2 => ?_
 refine x_region ?_
 refine s_go (m_load_bx Try.underlying48 (hS := hS)) ?_
 try simp only [opv, n1, n2, n3, n4, Value.cells, List.getElem_toArray, List.getElem_cons_zero, List.getElem_cons_succ]
 refine s_go (s_move) ?_
 try simp only [opv, n1, n2, n3, n4, Value.cells]
 refine s_go (s_mul (hc := by exact wr_i64 (by omega) (by omega))) ?_
 try simp only [opv, n1, n2, n3, n4, Value.cells]
 refine s_go (s_conv Try.underlying3 Try.underlying173 (hc := by exact wr_u64 (by omega) (by omega))) ?_
 try simp only [opv, n1, n2, n3, n4, Value.cells]
 refine s_go (s_shr (hc := shr_n (r := x) (n := 7 * i) (by omega) (by simp [IntKind.bits]; omega))) ?_
 try simp only [opv, n1, n2, n3, n4, Value.cells]
 refine s_go (s_conv Try.underlying48 Try.underlying5 (hc := cv_u8 rfl)) ?_
 try simp only [opv, n1, n2, n3, n4, Value.cells]
 refine s_go (s_bits (by simp) (hc := andn7 (Nat.mod_lt _ (by decide)))) ?_
 try simp only [opv, n1, n2, n3, n4, Value.cells]
 refine s_go (s_assign) ?_
 try simp only [opv, n1, n2, n3, n4, Value.cells]
 refine x_nil ?_
 refine hK2 _ _ ?_
 refine x_seq fun K3 hK3 => ?_
 refine x_seq fun K4 hK4 => ?_
 refine x_region ?_
 refine s_go (s_move) ?_
 try simp only [opv, n1, n2, n3, n4, Value.cells]
 refine s_go (m_load_bx Try.underlying3 (hS := hS)) ?_
 try simp only [opv, n1, n2, n3, n4, Value.cells, List.getElem_toArray, List.getElem_cons_zero, List.getElem_cons_succ]
 refine s_go (s_lss) ?_
 try simp only [opv, n1, n2, n3, n4, Value.cells]
 refine x_nil ?_
 refine hK4 _ _ ?_
 refine x_cond (ht := fun hc1 => ?_) (hf := fun hc1 => ?_)
 ·
  try simp only [decide_eq_true_eq, decide_eq_false_iff_not, Bool.not_eq_true', Bool.not_eq_false', Int.not_lt, Int.not_le, ne_eq, Decidable.not_not, bne_iff_ne, beq_iff_eq, not_true_eq_false, not_false_eq_true] at hc1
  refine x_region ?_
  refine s_go (s_move) ?_
  try simp only [opv, n1, n2, n3, n4, Value.cells]
  refine s_go (s_bits (by simp) (hc := or7 (Nat.mod_lt _ (by decide)))) ?_
  try simp only [opv, n1, n2, n3, n4, Value.cells]
  refine s_go (s_assign) ?_
  try simp only [opv, n1, n2, n3, n4, Value.cells]
  refine x_nil ?_
  refine hK3 _ _ ?_
  refine x_seq fun K5 hK5 => ?_
  refine x_region ?_
  refine s_go (s_move) ?_
  try simp only [opv, n1, n2, n3, n4, Value.cells]
  refine s_go (s_assign) ?_
  try simp only [opv, n1, n2, n3, n4, Value.cells]
  refine x_nil ?_
  refine hK5 _ _ ?_
  refine x_ret ?_
  refine r_tmp rfl ?_
  refine ⟨NU ?_, hS.ext_of⟩
  unfold vgrp
  rw [pow128]
  generalize x / 2 ^ (7 * i) = y
  (rw [if_pos (by omega)]; omega)
 ·
  try simp only [decide_eq_true_eq, decide_eq_false_iff_not, Bool.not_eq_true', Bool.not_eq_false', Int.not_lt, Int.not_le, ne_eq, Decidable.not_not, bne_iff_ne, beq_iff_eq, not_true_eq_false, not_false_eq_true] at hc1
  refine x_skip ?_
  refine hK3 _ _ ?_
  refine x_seq fun K6 hK6 => ?_
  refine x_region ?_
  refine s_go (s_move) ?_
  try simp only [opv, n1, n2, n3, n4, Value.cells]
  refine s_go (s_assign) ?_
  try simp only [opv, n1, n2, n3, n4, Value.cells]
  refine x_nil ?_
  refine hK6 _ _ ?_
  refine x_ret ?_
  refine r_tmp rfl ?_
  refine ⟨NU ?_, hS.ext_of⟩
  unfold vgrp
  rw [pow128]
  generalize x / 2 ^ (7 * i) = y
  (rw [if_neg (by omega)]; omega)
theorem c_packSize (x : Nat) (hx : x < 18446744073709551616)  (w0 : World) :
    CallR Try.prog 158 #[.int .u64 (x : Int)] w0 fun v w' => v = .int .i64 (((vari x).length : Nat) : Int) ∧ Ext w0 w' := by
 have hS : St NoB w0 w0 [] := St.start w0
 refine c_enter (l := [.int .u64 (x : Int), undef, undef, undef, undef, undef, undef, undef, undef]) Try.func158 rfl (by simp only [Try.ntmps158, List.size_toArray, List.length_cons, List.length_nil, Nat.reduceAdd, Nat.reduceSub, Array.replicate_succ, Array.replicate_zero, List.push_toArray, List.append_toArray, List.nil_append, List.cons_append]) ?_
 refine x_seq fun K1 hK1 => ?_
 refine x_region ?_
 refine s_go (s_assign) ?_
 try simp only [opv, n1, n2, n3, n4, Value.cells]
 refine x_nil ?_
 refine hK1 _ _ ?_
 refine x_seq fun K2 hK2 => ?_
 refine x_region ?_
 refine s_go (s_move) ?_
 try simp only [opv, n1, n2, n3, n4, Value.cells]
 refine s_call en167 ?_
 try simp only [opv, n1, n2, n3, n4, Value.cells, List.map_toArray, List.map_cons, List.map_nil, List.append_toArray, List.cons_append, List.nil_append, Array.append_empty]
 refine CallR.mono (c_bitLen _ (by assumption) _) ?_
 rintro _ w1 ⟨rfl, hE1⟩
 replace hS := hS.ext hE1
 try simp only [opv, n1, n2, n3, n4, Value.cells]
 have hbl := bitLen_le64 hx
 refine s_go (s_add (hc := by exact wr_i64 (by omega) (by omega))) ?_
 try simp only [opv, n1, n2, n3, n4, Value.cells]
 refine s_go (s_sub (hc := by exact wr_i64 (by omega) (by omega))) ?_
 try simp only [opv, n1, n2, n3, n4, Value.cells]
 rw [show (Lib.bitLen x : Int) + 7 - 1 = ((Lib.bitLen x + 6 : Nat) : Int) by omega]
 refine s_go (s_quo (hc := quo_i64 (r := Lib.bitLen x + 6) (p := 7) (by omega))) ?_
 try simp only [opv, n1, n2, n3, n4, Value.cells]
 refine s_go (s_max) ?_
 try simp only [opv, n1, n2, n3, n4, Value.cells]
 refine s_go (s_assign) ?_
 try simp only [opv, n1, n2, n3, n4, Value.cells]
 refine x_nil ?_
 refine hK2 _ _ ?_
 refine x_ret ?_
 refine r_tmp rfl ?_
 exact ⟨congrArg (Value.int .i64) (by rw [vari_bits hx]; omega), hS.ext_of⟩
theorem c_packVar (x : Nat) (hx : x < 18446744073709551616)  (w0 : World) :
    CallR Try.prog 143 #[.int .u64 (x : Int)] w0 fun v w' => ∃ A c, v = .slice A (vari x).length c ∧ St NoB w0 w' [.vec A c 5 1 (vari x).length ((vari x).map (Value.int .u8))] := by
 have hS : St NoB w0 w0 [] := St.start w0
 refine c_enter (l := [.int .u64 (x : Int), undef, undef, undef, undef, undef, undef, undef, undef, undef, undef]) Try.func143 rfl (by simp only [Try.ntmps143, List.size_toArray, List.length_cons, List.length_nil, Nat.reduceAdd, Nat.reduceSub, Array.replicate_succ, Array.replicate_zero, List.push_toArray, List.append_toArray, List.nil_append, List.cons_append]) ?_
 refine x_seq fun K1 hK1 => ?_
 refine x_region ?_
 refine m_box hS (fun w1 g1 hS => ?_)
 try simp only [opv, n1, n2, n3, n4, Value.cells, Array.toArray_toList] at hS ⊢
 refine s_go (s_assign) ?_
 try simp only [opv, n1, n2, n3, n4, Value.cells]
 refine x_nil ?_
 refine hK1 _ _ ?_
 refine x_seq fun K2 hK2 => ?_
 refine x_region ?_
 refine s_go (m_load_obj Try.underlying48 (hS := hS)) ?_
 try simp only [opv, n1, n2, n3, n4, Value.cells, List.getElem_toArray, List.getElem_cons_zero, List.getElem_cons_succ]
 refine s_call en158 ?_
 try simp only [opv, n1, n2, n3, n4, Value.cells, List.map_toArray, List.map_cons, List.map_nil, List.append_toArray, List.cons_append, List.nil_append, Array.append_empty]
 refine CallR.mono (c_packSize _ (by assumption) _) ?_
 rintro _ w2 ⟨rfl, hE2⟩
 replace hS := hS.ext hE2
 try simp only [opv, n1, n2, n3, n4, Value.cells]
 have hvp := vari_pos x
 have hvl := vari_len10 hx
 refine s_go (s_sub (hc := by exact wr_i64 (by omega) (by omega))) ?_
 try simp only [opv, n1, n2, n3, n4, Value.cells]
 rw [show ((vari x).length : Int) - 1 = (((vari x).length - 1 : Nat) : Int) by omega]
 refine m_alloc ti3 hS (fun w3 g3 hS => ?_)
 try simp only [opv, n1, n2, n3, n4, Value.cells, Array.toArray_toList] at hS ⊢
 refine m_store_obj ti3 (hS := hS) (h := fun w4 hS => ?_)
 try simp only [opv, n1, n2, n3, n4, Value.cells, Array.toArray_toList] at hS ⊢
 refine x_nil ?_
 refine hK2 _ _ ?_
 refine x_seq fun K3 hK3 => ?_
 refine x_region ?_
 refine s_go (m_load_obj Try.underlying3 (hS := hS)) ?_
 try simp only [opv, n1, n2, n3, n4, Value.cells, List.getElem_toArray, List.getElem_cons_zero, List.getElem_cons_succ]
 refine s_go (s_add (hc := by exact wr_i64 (by omega) (by omega))) ?_
 try simp only [opv, n1, n2, n3, n4, Value.cells]
 rw [show (((vari x).length - 1 : Nat) : Int) + 1 = (((vari x).length : Nat) : Int) by omega]
 refine s_go (s_makeFunc) ?_
 try simp only [opv, n1, n2, n3, n4, Value.cells, List.map_toArray, List.map_cons, List.map_nil]
 refine s_call en159 ?_
 try simp only [opv, n1, n2, n3, n4, Value.cells, List.map_toArray, List.map_cons, List.map_nil, List.append_toArray, List.cons_append, List.nil_append, Array.append_empty]
 refine CallR.mono (c_packFill _ (vari x).length (by omega) (fun i => (vgrp x (vari x).length i : Int)) _ _ en160 (fun w i hE hi => c_packVar1 w i g1 g3 x _ hi hvl hx ((hS.ext hE).objRd (by repeat (first | exact Has.head | apply Has.tail))) ((hS.ext hE).objRd (by repeat (exact Has.head))))) ?_
 rintro _ w5 ⟨A5, rfl, hC5⟩
 rw [vgrp_all] at hC5
 replace hS := hS.call hC5
 simp only [List.cons_append, List.nil_append] at hS
 try simp only [opv, n1, n2, n3, n4, Value.cells]
 refine s_go (s_assign) ?_
 try simp only [opv, n1, n2, n3, n4, Value.cells]
 refine x_nil ?_
 refine hK3 _ _ ?_
 refine x_ret ?_
 refine r_tmp rfl ?_
 exact ⟨_, _, rfl, hS.sel (by repeat (first | exact Sel.nil | (refine Sel.cons (by repeat (exact Del.head)) ?_)))⟩
end Go.Proofs.Ytffmanidnlbjjaa
namespace Go.Proofs.Ytffmanidnlbjjaa
abbrev valKs : List IntKind := [.u64, .u8, .u8, .u8, .u8, .u8, .u8, .u8, .u8]
abbrev VA (v : List Int) : Array Value := (zi valKs v).toArray
abbrev atomKs : List IntKind := [.u8, .u16, .u8, .u8, .u8, .u8, .u8, .u8, .u8, .u8, .u8, .u32, .u64, .u8, .u8, .u8, .u8, .u8, .u8, .u8, .u8]
abbrev AA (a : List Int) : Array Value := (zi atomKs a).toArray
def akey (a : List Int) : List Int := a.take 12
def aval (a : List Int) : List Int := a.drop 12
def vtext (v : List Int) : List Int := v.drop 1
structure ValOk (v : List Int) : Prop where
  len : v.length = 9
  e0 : v.getD 0 0 = (kn v 0 : Int)
  b0 : kn v 0 < 18446744073709551616
  text : Byt (vtext v)
structure AtomOk (a : List Int) : Prop where
  len : a.length = 21
  key : KeyOk (akey a)
  val : ValOk (aval a)
theorem vtext_len {v : List Int} (h : v.length = 9) : (vtext v).length = 8 := by simp [vtext, h]
theorem atom_key {a : List Int} (h : a.length = 21) : (((AA a).toList.drop 0).take 12).toArray = KA (akey a) := by
  have := zi_part (k1 := []) (k2 := keyKs) (k3 := valKs) (a := []) (b := a.take 12) (c := a.drop 12) rfl (by simp [h])
  simpa [akey] using this
theorem atom_val {a : List Int} (h : a.length = 21) : (((AA a).toList.drop 12).take 9).toArray = VA (aval a) := by
  have := zi_part (k1 := keyKs) (k2 := valKs) (k3 := []) (a := a.take 12) (b := a.drop 12) (c := []) (by simp [h]) (by simp [h])
  simpa [aval] using this
theorem val_text {v : List Int} (h : v.length = 9) : (((VA v).toList.drop 1).take 8).toArray = ic .u8 (vtext v) := by
  match v, h with
  | [_, _, _, _, _, _, _, _, _], _ => rfl
theorem aval_0 {a : List Int} (h : a.length = 21) : a.getD 12 0 = (aval a).getD 0 0 := by
  simp [aval, List.getD_eq_getElem?_getD]
theorem atom_text {a : List Int} (h : a.length = 21) : (((AA a).toList.drop 13).take 8).toArray = ic .u8 (vtext (aval a)) := by
  have h1 := val_text (v := aval a) (by simp [aval, h])
  have h2 := atom_val h
  rw [← h1]
  have e : ∀ (L : List Value), L.length = 21 → (L.drop 13).take 8 = ((((L.drop 12).take 9)).drop 1).take 8 := fun L hL => by
    rw [List.drop_take, List.drop_drop, List.take_take]; simp
  have hL : (AA a).toList.length = 21 := by simp [zi, h]
  rw [e _ hL]
  have h3 : ((AA a).toList.drop 12).take 9 = (VA (aval a)).toList := by
    have := congrArg Array.toList h2; simpa using this
  rw [h3]
/-- what a key is written as -/
def nmOut (l : List Int) : List Int := (nsz l : Int) :: nmTxt l
theorem nmOut_len (l : List Int) : (nmOut l).length = nsz l + 1 := by simp [nmOut, nmTxt_len]
def keyOut (x : List Int) : List Int :=
  [(kn x 0 : Int)] ++ vari (kn x 1) ++ (if kn x 0 = 4 then [] else nmOut (kitem x) ++ [(kn x 10 : Int)] ++ (if kn x 0 = 1 then vari (kn x 11) else []))
theorem keyOut_len {x : List Int} (h : KeyOk x) : (keyOut x).length ≤ 40 := by
  have h1 := vari_len10 (x := kn x 1) (by have := h.b1; omega)
  have h2 := vari_len10 (x := kn x 11) (by have := h.b11; omega)
  have h3 := nmOut_len (kitem x)
  have h4 := nsz_le (kitem x)
  have h5 := kitem_len h.len
  unfold keyOut
  split
  · simp; omega
  · split <;> simp <;> omega
def stampE (n : Nat) : Int := if 16 ≤ n % 256 ∨ 1099511627775 < n then 2 else if n / 256 % 4294967296 = 0 then 3 else 0
theorem stampE_0 {n : Nat} : stampE n = 0 ↔ n % 256 < 16 ∧ 1 ≤ n / 256 ∧ n / 256 ≤ 4294967295 := by
  unfold stampE
  split
  · simp; omega
  · split
    · simp; omega
    · simp; omega
def bareV (v : List Int) : Bool := decide (vtext v = nm0)
def valR (s : Nat) (v : List Int) : Bool :=
  if s = 1 then bareV v && decide (kn v 0 = 1 ∨ kn v 0 = 2) else
  if s = 2 ∨ s = 3 then bareV v && decide (1 ≤ kn v 0 ∧ kn v 0 ≤ 4294967295) else
  if s = 4 then decide (stampE (kn v 0) = 0) && (bareV v || nright (vtext v)) else false
def atomR (a : List Int) : Bool := keyR (akey a) && valR (kn a 0) (aval a)
def overV (x y : List Int) : Bool := decide (kn y 0 < kn x 0) || (decide (kn x 0 = kn y 0) && !decide (numN (vtext x) < numN (vtext y)))
def moreV (x y : List Int) : List Int := if overV x y then x else y
def valOut (s : Nat) (v : List Int) : List Int :=
  if s = 1 then [((kn v 0 % 256 : Nat) : Int)] else if s = 4 then vari (kn v 0) ++ nmOut (vtext v) else vari (kn v 0)
def atomOut (a : List Int) : List Int := if atomR a then keyOut (akey a) ++ valOut (kn a 0) (aval a) else []
end Go.Proofs.Ytffmanidnlbjjaa
set_option linter.unusedSimpArgs false
set_option linter.unusedVariables false
set_option maxHeartbeats 800000
set_option maxRecDepth 100000
namespace Go.Proofs.Ytffmanidnlbjjaa
open Go.RowKit

def WrSt (w0 w' : World) (M : List Res) (g : Nat) (xs : List Int) (R : List Res) : Prop := ∃ (A : Option Addr) (c : Nat), St (OwnB M) w0 w' (.obj g (.cells #[.slice A xs.length c] 168 (0, 0)) :: .vec A c 5 1 xs.length (xs.map (Value.int .u8)) :: R)

theorem c_wput (w0 : World) (g : Nat) (A : Option Addr) (c : Nat) (xs : List Int) (hx : xs.length ≤ 1000000000) (B : Option Addr) (d : Nat) (ys : List Int) (hy : ys.length ≤ 1000000000) (hM : St (OwnB [.obj g (.cells #[.slice A xs.length c] 168 (0, 0)), .vec A c 5 1 xs.length (xs.map (Value.int .u8)), .rd B 1 ys.length (ys.map (Value.int .u8))]) w0 w0 [.obj g (.cells #[.slice A xs.length c] 168 (0, 0)), .vec A c 5 1 xs.length (xs.map (Value.int .u8)), .rd B 1 ys.length (ys.map (Value.int .u8))]) :
    CallR Try.prog 142 #[.pointer (some ⟨g, 0, none⟩), .slice B ys.length d] w0 fun v w' => v = .tuple #[] ∧ WrSt w0 w' [.obj g (.cells #[.slice A xs.length c] 168 (0, 0)), .vec A c 5 1 xs.length (xs.map (Value.int .u8)), .rd B 1 ys.length (ys.map (Value.int .u8))] g (xs ++ ys) [.rd B 1 ys.length (ys.map (Value.int .u8))] := by
 have hS := hM
 refine c_enter (l := [.pointer (some ⟨g, 0, none⟩), .slice B ys.length d, undef, undef, undef, undef, undef, undef, undef, undef, undef, undef, undef, undef, undef]) Try.func142 rfl (by simp only [Try.ntmps142, List.size_toArray, List.length_cons, List.length_nil, Nat.reduceAdd, Nat.reduceSub, Array.replicate_succ, Array.replicate_zero, List.push_toArray, List.append_toArray, List.nil_append, List.cons_append]) ?_
 refine x_seq fun K1 hK1 => ?_
 refine x_region ?_
 refine s_go (s_move) ?_
 try simp only [opv, n1, n2, n3, n4, Value.cells]
 refine s_go (s_neq_pointer Try.underlying155) ?_
 try simp only [opv, n1, n2, n3, n4, Value.cells]
 refine x_nil ?_
 refine hK1 _ _ ?_
 refine x_cond_t (h := ?_)
 refine x_region ?_
 refine s_go (s_move) ?_
 try simp only [opv, n1, n2, n3, n4, Value.cells]
 refine s_go (s_move) ?_
 try simp only [opv, n1, n2, n3, n4, Value.cells]
 refine s_go (s_nilCheck) ?_
 try simp only [opv, n1, n2, n3, n4, Value.cells]
 refine s_go (m_fieldAddr Try.underlying168 (hi := ti56)) ?_
 try simp only [opv, n1, n2, n3, n4, Value.cells, Nat.zero_add, Nat.add_zero, List.getElem_toArray, List.getElem_cons_zero, List.getElem_cons_succ]
 refine s_go (m_load_obj Try.underlying56 (hS := hS)) ?_
 try simp only [opv, n1, n2, n3, n4, Value.cells, List.getElem_toArray, List.getElem_cons_zero, List.getElem_cons_succ]
 refine s_go (s_move) ?_
 try simp only [opv, n1, n2, n3, n4, Value.cells]
 refine m_append Try.underlying56 ti5 (hS := hS) (h := fun w1 A1 C1 hS => ?_)
 try simp only [← List.map_append, ← List.map_drop, ← List.map_take, Nat.mul_one, Nat.zero_mul, Nat.sub_zero, List.drop_zero, List.nil_append, Nat.zero_add] at hS ⊢
 try simp only [opv, n1, n2, n3, n4, Value.cells, Array.toArray_toList] at hS ⊢
 refine s_go (s_nilCheck) ?_
 try simp only [opv, n1, n2, n3, n4, Value.cells]
 refine s_go (m_fieldAddr Try.underlying168 (hi := ti56)) ?_
 try simp only [opv, n1, n2, n3, n4, Value.cells, Nat.zero_add, Nat.add_zero, List.getElem_toArray, List.getElem_cons_zero, List.getElem_cons_succ]
 refine m_store_obj ti56 (hS := hS) (h := fun w2 hS => ?_)
 try simp only [opv, n1, n2, n3, n4, Value.cells, Array.toArray_toList] at hS ⊢
 refine x_nil ?_
 refine r_none rfl ?_
 rw [← List.length_append] at hS
 exact ⟨rfl, _, _, hS.sel (by repeat (first | exact Sel.nil | (refine Sel.cons (by repeat (first | exact Del.head | apply Del.tail)) ?_)))⟩
theorem c_wnum (w0 : World) (g : Nat) (A : Option Addr) (c : Nat) (xs : List Int) (hx : xs.length ≤ 100000000) (x : Nat) (hx64 : x < 18446744073709551616) (hM : St (OwnB [.obj g (.cells #[.slice A xs.length c] 168 (0, 0)), .vec A c 5 1 xs.length (xs.map (Value.int .u8))]) w0 w0 [.obj g (.cells #[.slice A xs.length c] 168 (0, 0)), .vec A c 5 1 xs.length (xs.map (Value.int .u8))]) :
    CallR Try.prog 126 #[.pointer (some ⟨g, 0, none⟩), .int .u64 (x : Int)] w0 fun v w' => v = .tuple #[] ∧ WrSt w0 w' [.obj g (.cells #[.slice A xs.length c] 168 (0, 0)), .vec A c 5 1 xs.length (xs.map (Value.int .u8))] g (xs ++ vari x) [] := by
 have hS := hM
 refine c_enter (l := [.pointer (some ⟨g, 0, none⟩), .int .u64 (x : Int), undef, undef, undef, undef, undef, undef]) Try.func126 rfl (by simp only [Try.ntmps126, List.size_toArray, List.length_cons, List.length_nil, Nat.reduceAdd, Nat.reduceSub, Array.replicate_succ, Array.replicate_zero, List.push_toArray, List.append_toArray, List.nil_append, List.cons_append]) ?_
 refine x_region ?_
 refine s_go (s_move) ?_
 try simp only [opv, n1, n2, n3, n4, Value.cells]
 refine s_go (s_move) ?_
 try simp only [opv, n1, n2, n3, n4, Value.cells]
 refine s_call en143 ?_
 try simp only [opv, n1, n2, n3, n4, Value.cells, List.map_toArray, List.map_cons, List.map_nil, List.append_toArray, List.cons_append, List.nil_append, Array.append_empty]
 refine CallR.mono (c_packVar x hx64 _) ?_
 rintro _ w1 ⟨A1, c1, rfl, hC1⟩
 replace hS := hS.call hC1
 simp only [List.cons_append, List.nil_append] at hS
 have hvl := vari_len10 hx64
 replace hS := hS.vec_rd (by exact Upd.head)
 try simp only [opv, n1, n2, n3, n4, Value.cells]
 refine s_call en142 ?_
 try simp only [opv, n1, n2, n3, n4, Value.cells, List.map_toArray, List.map_cons, List.map_nil, List.append_toArray, List.cons_append, List.nil_append, Array.append_empty]
 refine CallR.mono (c_wput _ g A c (xs) (by omega) _ _ (vari x) (by omega) (hS.owns (by repeat (first | exact Spl.nil | (apply Spl.cons (by repeat (first | exact Del.head | apply Del.tail))))))) ?_
 rintro _ w2 ⟨rfl, A2, c2, hC2⟩
 replace hS := hS.frame (by repeat (first | exact Spl.nil | (apply Spl.cons (by repeat (first | exact Del.head | apply Del.tail))))) hC2 (by intro r hr g hg; simp only [List.mem_cons, List.not_mem_nil, or_false] at hr; rcases hr with rfl | rfl | rfl <;> first | (simp [Res.reads] at hg; done) | exact .inr ⟨_, by simp, .inr hg⟩)
 simp only [List.cons_append, List.nil_append] at hS
 try simp only [opv, n1, n2, n3, n4, Value.cells]
 refine x_nil ?_
 refine r_none rfl ?_
 exact ⟨rfl, _, _, hS.sel (by repeat (first | exact Sel.nil | (refine Sel.cons (by repeat (exact Del.head)) ?_)))⟩
theorem c_wbyte (w0 : World) (g : Nat) (A : Option Addr) (c : Nat) (xs : List Int) (hx : xs.length ≤ 100000000) (b : Int) (hM : St (OwnB [.obj g (.cells #[.slice A xs.length c] 168 (0, 0)), .vec A c 5 1 xs.length (xs.map (Value.int .u8))]) w0 w0 [.obj g (.cells #[.slice A xs.length c] 168 (0, 0)), .vec A c 5 1 xs.length (xs.map (Value.int .u8))]) :
    CallR Try.prog 127 #[.pointer (some ⟨g, 0, none⟩), .int .u8 b] w0 fun v w' => v = .tuple #[] ∧ WrSt w0 w' [.obj g (.cells #[.slice A xs.length c] 168 (0, 0)), .vec A c 5 1 xs.length (xs.map (Value.int .u8))] g (xs ++ [b]) [] := by
 have hS := hM
 refine c_enter (l := [.pointer (some ⟨g, 0, none⟩), .int .u8 b, undef, undef, undef, undef, undef, undef]) Try.func127 rfl (by simp only [Try.ntmps127, List.size_toArray, List.length_cons, List.length_nil, Nat.reduceAdd, Nat.reduceSub, Array.replicate_succ, Array.replicate_zero, List.push_toArray, List.append_toArray, List.nil_append, List.cons_append]) ?_
 refine x_region ?_
 refine s_go (s_move) ?_
 try simp only [opv, n1, n2, n3, n4, Value.cells]
 refine s_go (s_move) ?_
 try simp only [opv, n1, n2, n3, n4, Value.cells]
 refine m_buildRow (cells := #[_]) Try.underlying56 ti5 (hc := by simp only [List.map_toArray, List.map_cons, List.map_nil, opv, n1, n2, n3, n4, Value.cells, List.toList_toArray]; (repeat (refine fill_cons rfl rfl (Nat.le_of_ble_eq_true rfl) ?_)); rfl) (hS := hS) (h := fun w1 g1 hS => ?_)
 try simp only [opv, n1, n2, n3, n4, Value.cells, Array.toArray_toList] at hS ⊢
 replace hS := hS.obj_rd (sz := 1) (n := 1) rfl .head
 refine s_call en142 ?_
 try simp only [opv, n1, n2, n3, n4, Value.cells, List.map_toArray, List.map_cons, List.map_nil, List.append_toArray, List.cons_append, List.nil_append, Array.append_empty]
 refine CallR.mono (c_wput _ g A c (xs) (by omega) _ _ ([b]) (by simp) (hS.owns (by repeat (first | exact Spl.nil | (apply Spl.cons (by repeat (first | exact Del.head | apply Del.tail))))))) ?_
 rintro _ w2 ⟨rfl, A2, c2, hC2⟩
 replace hS := hS.frame (by repeat (first | exact Spl.nil | (apply Spl.cons (by repeat (first | exact Del.head | apply Del.tail))))) hC2 (by intro r hr g hg; simp only [List.mem_cons, List.not_mem_nil, or_false] at hr; rcases hr with rfl | rfl | rfl <;> first | (simp [Res.reads] at hg; done) | exact .inr ⟨_, by simp, .inr hg⟩)
 simp only [List.cons_append, List.nil_append] at hS
 try simp only [opv, n1, n2, n3, n4, Value.cells]
 refine x_nil ?_
 refine r_none rfl ?_
 exact ⟨rfl, _, _, hS.sel (by repeat (first | exact Sel.nil | (refine Sel.cons (by repeat (exact Del.head)) ?_)))⟩
theorem c_wname (w0 : World) (g : Nat) (A : Option Addr) (c : Nat) (xs : List Int) (hx : xs.length ≤ 100000000) (l : List Int) (hl : l.length = 8) (hw : Byt l) (hM : St (OwnB [.obj g (.cells #[.slice A xs.length c] 168 (0, 0)), .vec A c 5 1 xs.length (xs.map (Value.int .u8))]) w0 w0 [.obj g (.cells #[.slice A xs.length c] 168 (0, 0)), .vec A c 5 1 xs.length (xs.map (Value.int .u8))]) :
    CallR Try.prog 128 #[.pointer (some ⟨g, 0, none⟩), .agg (ic .u8 l)] w0 fun v w' => v = .tuple #[] ∧ WrSt w0 w' [.obj g (.cells #[.slice A xs.length c] 168 (0, 0)), .vec A c 5 1 xs.length (xs.map (Value.int .u8))] g (xs ++ nmOut l) [] := by
 have hS := hM
 refine c_enter (l := [.pointer (some ⟨g, 0, none⟩), .agg (ic .u8 l), undef, undef, undef, undef, undef, undef, undef, undef, undef, undef, undef, undef, undef, undef, undef]) Try.func128 rfl (by simp only [Try.ntmps128, List.size_toArray, List.length_cons, List.length_nil, Nat.reduceAdd, Nat.reduceSub, Array.replicate_succ, Array.replicate_zero, List.push_toArray, List.append_toArray, List.nil_append, List.cons_append]) ?_
 refine x_seq fun K1 hK1 => ?_
 refine x_region ?_
 have hs := nsz_le l
 have htl := nmTxt_len l
 have htb := nmTxt_byt hw
 refine m_box hS (fun w1 g1 hS => ?_)
 try simp only [opv, n1, n2, n3, n4, Value.cells, Array.toArray_toList] at hS ⊢
 refine x_nil ?_
 refine hK1 _ _ ?_
 refine x_seq fun K2 hK2 => ?_
 refine x_region ?_
 refine s_go (m_load_row Try.underlying25 (hi := ti25) (hS := hS)) ?_
 try simp only [opv, n1, n2, n3, n4, Value.cells, List.getElem_toArray, List.getElem_cons_zero, List.getElem_cons_succ]
 refine s_call en144 ?_
 try simp only [opv, n1, n2, n3, n4, Value.cells, List.map_toArray, List.map_cons, List.map_nil, List.append_toArray, List.cons_append, List.nil_append, Array.append_empty]
 refine CallR.mono (c_nameText _ (by assumption) (by assumption) _) ?_
 rintro _ w2 ⟨rfl, hE2⟩
 replace hS := hS.ext hE2
 try simp only [opv, n1, n2, n3, n4, Value.cells]
 refine s_go (s_assign) ?_
 try simp only [opv, n1, n2, n3, n4, Value.cells]
 refine x_nil ?_
 refine hK2 _ _ ?_
 refine x_seq fun K3 hK3 => ?_
 refine x_region ?_
 refine s_go (s_move) ?_
 try simp only [opv, n1, n2, n3, n4, Value.cells]
 refine s_go (s_move) ?_
 try simp only [opv, n1, n2, n3, n4, Value.cells]
 refine s_go (s_len_str Try.underlying9) ?_
 try simp only [opv, n1, n2, n3, n4, Value.cells]
 rw [strOf_size, htl]
 refine s_go (s_conv Try.underlying3 Try.underlying5 (hc := by exact wr_u8 (by omega) (by omega))) ?_
 try simp only [opv, n1, n2, n3, n4, Value.cells]
 refine m_buildRow (cells := #[_]) Try.underlying56 ti5 (hc := by simp only [List.map_toArray, List.map_cons, List.map_nil, opv, n1, n2, n3, n4, Value.cells, List.toList_toArray]; (repeat (refine fill_cons rfl rfl (Nat.le_of_ble_eq_true rfl) ?_)); rfl) (hS := hS) (h := fun w3 g3 hS => ?_)
 try simp only [opv, n1, n2, n3, n4, Value.cells, Array.toArray_toList] at hS ⊢
 replace hS := hS.obj_rd (sz := 1) (n := 1) rfl .head
 refine s_call en142 ?_
 try simp only [opv, n1, n2, n3, n4, Value.cells, List.map_toArray, List.map_cons, List.map_nil, List.append_toArray, List.cons_append, List.nil_append, Array.append_empty]
 refine CallR.mono (c_wput _ g A c (xs) (by omega) _ _ ([(nsz l : Int)]) (by simp) (hS.owns (by repeat (first | exact Spl.nil | (apply Spl.cons (by repeat (first | exact Del.head | apply Del.tail))))))) ?_
 rintro _ w4 ⟨rfl, A4, c4, hC4⟩
 replace hS := hS.frame (by repeat (first | exact Spl.nil | (apply Spl.cons (by repeat (first | exact Del.head | apply Del.tail))))) hC4 (by intro r hr g hg; simp only [List.mem_cons, List.not_mem_nil, or_false] at hr; rcases hr with rfl | rfl | rfl <;> first | (simp [Res.reads] at hg; done) | exact .inr ⟨_, by simp, .inr hg⟩)
 simp only [List.cons_append, List.nil_append] at hS
 try simp only [opv, n1, n2, n3, n4, Value.cells]
 refine x_nil ?_
 refine hK3 _ _ ?_
 refine x_region ?_
 refine s_go (s_move) ?_
 try simp only [opv, n1, n2, n3, n4, Value.cells]
 refine s_go (s_move) ?_
 try simp only [opv, n1, n2, n3, n4, Value.cells]
 refine m_str_bytes Try.underlying9 Try.underlying56 Try.underlying5 (hS := hS) (h := fun w5 A5 C5 hS => ?_)
 try simp only [opv, n1, n2, n3, n4, Value.cells, Array.toArray_toList] at hS ⊢
 rw [strOf_size] at hS ⊢
 rw [byL_strOf htb] at hS
 refine s_call en142 ?_
 try simp only [opv, n1, n2, n3, n4, Value.cells, List.map_toArray, List.map_cons, List.map_nil, List.append_toArray, List.cons_append, List.nil_append, Array.append_empty]
 refine CallR.mono (c_wput _ g _ _ (xs ++ [(nsz l : Int)]) (by simp; omega) _ _ (nmTxt l) (by omega) (hS.owns (by repeat (first | exact Spl.nil | (apply Spl.cons (by repeat (first | exact Del.head | apply Del.tail))))))) ?_
 rintro _ w6 ⟨rfl, A6, c6, hC6⟩
 replace hS := hS.frame (by repeat (first | exact Spl.nil | (apply Spl.cons (by repeat (first | exact Del.head | apply Del.tail))))) hC6 (by intro r hr g hg; simp only [List.mem_cons, List.not_mem_nil, or_false] at hr; rcases hr with rfl | rfl | rfl <;> first | (simp [Res.reads] at hg; done) | exact .inr ⟨_, by simp, .inr hg⟩)
 simp only [List.cons_append, List.nil_append] at hS
 try simp only [opv, n1, n2, n3, n4, Value.cells]
 refine x_nil ?_
 refine r_none rfl ?_
 rw [show xs ++ [(nsz l : Int)] ++ nmTxt l = xs ++ nmOut l by simp [nmOut]] at hS
 exact ⟨rfl, _, _, hS.sel (by repeat (first | exact Sel.nil | (refine Sel.cons (by repeat (exact Del.head)) ?_)))⟩
theorem c_wout (w0 : World) (g : Nat) (A : Option Addr) (c : Nat) (xs : List Int) (hx : xs.length ≤ 100000000) (hM : St (OwnB [.obj g (.cells #[.slice A xs.length c] 168 (0, 0)), .vec A c 5 1 xs.length (xs.map (Value.int .u8))]) w0 w0 [.obj g (.cells #[.slice A xs.length c] 168 (0, 0)), .vec A c 5 1 xs.length (xs.map (Value.int .u8))]) :
    CallR Try.prog 117 #[.pointer (some ⟨g, 0, none⟩)] w0 fun v w' => ∃ A' c', v = .slice A' xs.length c' ∧ St (OwnB [.obj g (.cells #[.slice A xs.length c] 168 (0, 0)), .vec A c 5 1 xs.length (xs.map (Value.int .u8))]) w0 w' [.vec A' c' 5 1 xs.length (xs.map (Value.int .u8)), .obj g (.cells #[.slice A xs.length c] 168 (0, 0)), .vec A c 5 1 xs.length (xs.map (Value.int .u8))] := by
 have hS := hM
 refine c_enter (l := [.pointer (some ⟨g, 0, none⟩), undef, undef, undef, undef, undef, undef, undef, undef, undef, undef]) Try.func117 rfl (by simp only [Try.ntmps117, List.size_toArray, List.length_cons, List.length_nil, Nat.reduceAdd, Nat.reduceSub, Array.replicate_succ, Array.replicate_zero, List.push_toArray, List.append_toArray, List.nil_append, List.cons_append]) ?_
 refine x_seq fun K1 hK1 => ?_
 refine x_region ?_
 refine s_go (s_assign) ?_
 try simp only [opv, n1, n2, n3, n4, Value.cells]
 refine x_nil ?_
 refine hK1 _ _ ?_
 refine x_seq fun K2 hK2 => ?_
 refine x_seq fun K3 hK3 => ?_
 refine x_region ?_
 refine s_go (s_move) ?_
 try simp only [opv, n1, n2, n3, n4, Value.cells]
 refine s_go (s_eql_pointer Try.underlying155) ?_
 try simp only [opv, n1, n2, n3, n4, Value.cells]
 refine x_nil ?_
 refine hK3 _ _ ?_
 refine x_cond_f (h := ?_)
 refine x_skip ?_
 refine hK2 _ _ ?_
 refine x_seq fun K4 hK4 => ?_
 refine x_region ?_
 refine m_buildRow (cells := #[]) Try.underlying56 ti5 (hc := by simp only [List.map_toArray, List.map_cons, List.map_nil, opv, n1, n2, n3, n4, Value.cells, List.toList_toArray]; (repeat (refine fill_cons rfl rfl (Nat.le_of_ble_eq_true rfl) ?_)); rfl) (hS := hS) (h := fun w1 g1 hS => ?_)
 try simp only [opv, n1, n2, n3, n4, Value.cells, Array.toArray_toList] at hS ⊢
 replace hS := hS.obj_vec (sz := 1) (n := 0) rfl (by decide) .head
 refine s_go (s_move) ?_
 try simp only [opv, n1, n2, n3, n4, Value.cells]
 refine s_go (s_nilCheck) ?_
 try simp only [opv, n1, n2, n3, n4, Value.cells]
 refine s_go (m_fieldAddr Try.underlying168 (hi := ti56)) ?_
 try simp only [opv, n1, n2, n3, n4, Value.cells, Nat.zero_add, Nat.add_zero, List.getElem_toArray, List.getElem_cons_zero, List.getElem_cons_succ]
 refine s_go (m_load_obj Try.underlying56 (hS := hS)) ?_
 try simp only [opv, n1, n2, n3, n4, Value.cells, List.getElem_toArray, List.getElem_cons_zero, List.getElem_cons_succ]
 refine m_append_vec Try.underlying56 ti5 (hS := hS) (h := fun w2 A2 C2 hS => ?_)
 try simp only [← List.map_append, ← List.map_drop, ← List.map_take, Nat.mul_one, Nat.zero_mul, Nat.sub_zero, List.drop_zero, List.nil_append, Nat.zero_add] at hS ⊢
 try simp only [opv, n1, n2, n3, n4, Value.cells, Array.toArray_toList] at hS ⊢
 refine s_go (s_assign) ?_
 try simp only [opv, n1, n2, n3, n4, Value.cells]
 refine x_nil ?_
 refine hK4 _ _ ?_
 refine x_ret ?_
 refine r_tmp rfl ?_
 exact ⟨_, _, rfl, hS.sel (by repeat (first | exact Sel.nil | (refine Sel.cons (by repeat (exact Del.head)) ?_)))⟩
theorem c_wnew  (w0 : World) :
    CallR Try.prog 115 #[] w0 fun v w' => ∃ g, v = .pointer (some ⟨g, 0, none⟩) ∧ St NoB w0 w' [.obj g (.cells #[.slice none 0 0] 168 (0, 0)), .vec none 0 5 1 0 (([] : List Int).map (Value.int .u8))] := by
 have hS : St NoB w0 w0 [] := St.start w0
 refine c_enter (l := [undef, undef, undef]) Try.func115 rfl (by simp only [Try.ntmps115, List.size_toArray, List.length_cons, List.length_nil, Nat.reduceAdd, Nat.reduceSub, Array.replicate_succ, Array.replicate_zero, List.push_toArray, List.append_toArray, List.nil_append, List.cons_append]) ?_
 refine x_seq fun K1 hK1 => ?_
 refine x_region ?_
 refine s_go (s_assign) ?_
 try simp only [opv, n1, n2, n3, n4, Value.cells]
 refine x_nil ?_
 refine hK1 _ _ ?_
 refine x_seq fun K2 hK2 => ?_
 refine x_region ?_
 refine s_go (s_build_struct (cells := #[.slice none 0 0]) Try.underlying168 ti168 bp168 (hc := by simp only [List.map_toArray, List.map_cons, List.map_nil, opv, n1, n2, n3, n4, Value.cells, List.toList_toArray]; (repeat (refine fill_cons rfl rfl (Nat.le_of_ble_eq_true rfl) ?_)); rfl)) ?_
 try simp only [opv, n1, n2, n3, n4, Value.cells]
 refine m_box hS (fun w1 g1 hS => ?_)
 try simp only [opv, n1, n2, n3, n4, Value.cells, Array.toArray_toList] at hS ⊢
 refine s_go (s_assign) ?_
 try simp only [opv, n1, n2, n3, n4, Value.cells]
 refine x_nil ?_
 refine hK2 _ _ ?_
 refine x_ret ?_
 refine r_tmp rfl ?_
 have hS := hS.nil_vec 5 1
 exact ⟨_, rfl, hS.sel (by repeat (first | exact Sel.nil | (refine Sel.cons (by repeat (first | exact Del.head | apply Del.tail)) ?_)))⟩
end Go.Proofs.Ytffmanidnlbjjaa
set_option linter.unusedSimpArgs false
set_option linter.unusedVariables false
set_option maxHeartbeats 800000
set_option maxRecDepth 100000
namespace Go.Proofs.Ytffmanidnlbjjaa
open Go.RowKit
theorem c_keyWrite (w0 : World) (g : Nat) (A : Option Addr) (c : Nat) (xs : List Int) (hx : xs.length ≤ 10000000) (y : List Int) (hy : KeyOk y) (hM : St (OwnB [.obj g (.cells #[.slice A xs.length c] 168 (0, 0)), .vec A c 5 1 xs.length (xs.map (Value.int .u8))]) w0 w0 [.obj g (.cells #[.slice A xs.length c] 168 (0, 0)), .vec A c 5 1 xs.length (xs.map (Value.int .u8))]) :
    CallR Try.prog 125 #[.pointer (some ⟨g, 0, none⟩), .agg (KA y)] w0 fun v w' => v = .tuple #[] ∧ WrSt w0 w' [.obj g (.cells #[.slice A xs.length c] 168 (0, 0)), .vec A c 5 1 xs.length (xs.map (Value.int .u8))] g (xs ++ keyOut y) [] := by
 have hS := hM
 refine c_enter (l := [.pointer (some ⟨g, 0, none⟩), .agg (KA y), undef, undef, undef, undef, undef, undef, undef, undef, undef, undef, undef, undef, undef, undef, undef, undef, undef, undef, undef, undef, undef, undef, undef, undef, undef, undef, undef, undef, undef, undef]) Try.func125 rfl (by simp only [Try.ntmps125, List.size_toArray, List.length_cons, List.length_nil, Nat.reduceAdd, Nat.reduceSub, Array.replicate_succ, Array.replicate_zero, List.push_toArray, List.append_toArray, List.nil_append, List.cons_append]) ?_
 refine x_seq fun K1 hK1 => ?_
 refine x_region ?_
 have hyl := hy.len
 have hb0 := hy.b0
 have hb1 := hy.b1
 have hb10 := hy.b10
 have hb11 := hy.b11
 have hil := kitem_len hy.len
 have hib := hy.item
 have hv1 := vari_len10 (x := kn y 1) (by omega)
 have hno := nmOut_len (kitem y)
 have hns := nsz_le (kitem y)
 refine m_box hS (fun w1 g1 hS => ?_)
 try simp only [opv, n1, n2, n3, n4, Value.cells, Array.toArray_toList] at hS ⊢
 refine x_nil ?_
 refine hK1 _ _ ?_
 refine x_seq fun K2 hK2 => ?_
 refine x_region ?_
 refine s_go (s_move) ?_
 try simp only [opv, n1, n2, n3, n4, Value.cells]
 refine s_go (m_fieldAddr Try.underlying43 (hi := ti5)) ?_
 try simp only [opv, n1, n2, n3, n4, Value.cells, Nat.zero_add, Nat.add_zero, List.getElem_toArray, List.getElem_cons_zero, List.getElem_cons_succ]
 refine s_go (m_load_obj Try.underlying5 (hS := hS) (hv := by exact zi_get rfl (by omega))) ?_
 try simp only [opv, n1, n2, n3, n4, Value.cells, List.getElem_toArray, List.getElem_cons_zero, List.getElem_cons_succ]
 rw [hy.e0]
 refine s_call en127 ?_
 try simp only [opv, n1, n2, n3, n4, Value.cells, List.map_toArray, List.map_cons, List.map_nil, List.append_toArray, List.cons_append, List.nil_append, Array.append_empty]
 refine CallR.mono (c_wbyte _ g A c xs (by omega) _ (hS.owns (by repeat (first | exact Spl.nil | (apply Spl.cons (by repeat (first | exact Del.head | apply Del.tail))))))) ?_
 rintro _ w2 ⟨rfl, A2, c2, hC2⟩
 replace hS := hS.frame (by repeat (first | exact Spl.nil | (apply Spl.cons (by repeat (first | exact Del.head | apply Del.tail))))) hC2 (by intro r hr g hg; simp only [List.mem_cons, List.not_mem_nil, or_false] at hr; rcases hr with rfl | rfl | rfl <;> (simp [Res.reads] at hg; done))
 simp only [List.cons_append, List.nil_append] at hS
 try simp only [opv, n1, n2, n3, n4, Value.cells]
 refine x_nil ?_
 refine hK2 _ _ ?_
 refine x_seq fun K3 hK3 => ?_
 refine x_region ?_
 refine s_go (s_move) ?_
 try simp only [opv, n1, n2, n3, n4, Value.cells]
 refine s_go (m_fieldAddr Try.underlying43 (hi := ti23)) ?_
 try simp only [opv, n1, n2, n3, n4, Value.cells, Nat.zero_add, Nat.add_zero, List.getElem_toArray, List.getElem_cons_zero, List.getElem_cons_succ]
 refine s_go (m_load_obj Try.underlying23 (hS := hS) (hv := by exact zi_get rfl (by omega))) ?_
 try simp only [opv, n1, n2, n3, n4, Value.cells, List.getElem_toArray, List.getElem_cons_zero, List.getElem_cons_succ]
 rw [hy.e1]
 refine s_go (s_conv Try.underlying23 Try.underlying48 (hc := by exact wr_u64 (by omega) (by omega))) ?_
 try simp only [opv, n1, n2, n3, n4, Value.cells]
 refine s_call en126 ?_
 try simp only [opv, n1, n2, n3, n4, Value.cells, List.map_toArray, List.map_cons, List.map_nil, List.append_toArray, List.cons_append, List.nil_append, Array.append_empty]
 refine CallR.mono (c_wnum _ g _ _ (xs ++ [(kn y 0 : Int)]) (by simp only [List.length_append, List.length_cons, List.length_nil]; omega) (kn y 1) (by omega) (hS.owns (by repeat (first | exact Spl.nil | (apply Spl.cons (by repeat (exact Del.head))))))) ?_
 rintro _ w3 ⟨rfl, A3, c3, hC3⟩
 replace hS := hS.frame (by repeat (first | exact Spl.nil | (apply Spl.cons (by repeat (exact Del.head))))) hC3 (by intro r hr g hg; simp only [List.mem_cons, List.not_mem_nil, or_false] at hr; rcases hr with rfl | rfl | rfl <;> (simp [Res.reads] at hg; done))
 simp only [List.cons_append, List.nil_append] at hS
 try simp only [opv, n1, n2, n3, n4, Value.cells]
 refine x_nil ?_
 refine hK3 _ _ ?_
 refine x_seq fun K4 hK4 => ?_
 refine x_seq fun K5 hK5 => ?_
 refine x_region ?_
 refine s_go (m_fieldAddr Try.underlying43 (hi := ti5)) ?_
 try simp only [opv, n1, n2, n3, n4, Value.cells, Nat.zero_add, Nat.add_zero, List.getElem_toArray, List.getElem_cons_zero, List.getElem_cons_succ]
 refine s_go (m_load_obj Try.underlying5 (hS := hS) (hv := by exact zi_get rfl (by omega))) ?_
 try simp only [opv, n1, n2, n3, n4, Value.cells, List.getElem_toArray, List.getElem_cons_zero, List.getElem_cons_succ]
 rw [hy.e0]
 refine s_go (s_eql) ?_
 try simp only [opv, n1, n2, n3, n4, Value.cells]
 refine x_nil ?_
 refine hK5 _ _ ?_
 refine x_cond (ht := fun hc1 => ?_) (hf := fun hc1 => ?_)
 ·
  try simp only [decide_eq_true_eq, decide_eq_false_iff_not, Bool.not_eq_true', Bool.not_eq_false', Int.not_lt, Int.not_le, ne_eq, Decidable.not_not, bne_iff_ne, beq_iff_eq, not_true_eq_false, not_false_eq_true] at hc1
  have hO : xs ++ keyOut y = xs ++ [(kn y 0 : Int)] ++ vari (kn y 1) := by simp [keyOut, show kn y 0 = 4 by omega]
  refine x_ret ?_
  refine r_none rfl ?_
  rw [← hO] at hS
  exact ⟨rfl, _, _, hS.sel (by repeat (first | exact Sel.nil | (refine Sel.cons (by repeat (exact Del.head)) ?_)))⟩
 ·
  try simp only [decide_eq_true_eq, decide_eq_false_iff_not, Bool.not_eq_true', Bool.not_eq_false', Int.not_lt, Int.not_le, ne_eq, Decidable.not_not, bne_iff_ne, beq_iff_eq, not_true_eq_false, not_false_eq_true] at hc1
  refine x_skip ?_
  refine hK4 _ _ ?_
  refine x_seq fun K6 hK6 => ?_
  refine x_region ?_
  refine s_go (s_move) ?_
  try simp only [opv, n1, n2, n3, n4, Value.cells]
  refine s_go (m_fieldAddr Try.underlying43 (hi := ti25)) ?_
  try simp only [opv, n1, n2, n3, n4, Value.cells, Nat.zero_add, Nat.add_zero, List.getElem_toArray, List.getElem_cons_zero, List.getElem_cons_succ]
  refine s_go (m_loada_obj Try.underlying25 (hi := ti25) (hS := hS) (hfit := by (rw [zi_size (by omega)]; decide))) ?_
  try simp only [opv, n1, n2, n3, n4, Value.cells, List.getElem_toArray, List.getElem_cons_zero, List.getElem_cons_succ]
  rw [key_item hyl]
  refine s_call en128 ?_
  try simp only [opv, n1, n2, n3, n4, Value.cells, List.map_toArray, List.map_cons, List.map_nil, List.append_toArray, List.cons_append, List.nil_append, Array.append_empty]
  refine CallR.mono (c_wname _ g _ _ (xs ++ [(kn y 0 : Int)] ++ vari (kn y 1)) (by simp only [List.length_append, List.length_cons, List.length_nil]; omega) (kitem y) hil hib (hS.owns (by repeat (first | exact Spl.nil | (apply Spl.cons (by repeat (exact Del.head))))))) ?_
  rintro _ w4 ⟨rfl, A4, c4, hC4⟩
  replace hS := hS.frame (by repeat (first | exact Spl.nil | (apply Spl.cons (by repeat (exact Del.head))))) hC4 (by intro r hr g hg; simp only [List.mem_cons, List.not_mem_nil, or_false] at hr; rcases hr with rfl | rfl | rfl <;> (simp [Res.reads] at hg; done))
  simp only [List.cons_append, List.nil_append] at hS
  try simp only [opv, n1, n2, n3, n4, Value.cells]
  refine x_nil ?_
  refine hK6 _ _ ?_
  refine x_seq fun K7 hK7 => ?_
  refine x_region ?_
  refine s_go (s_move) ?_
  try simp only [opv, n1, n2, n3, n4, Value.cells]
  refine s_go (m_fieldAddr Try.underlying43 (hi := ti5)) ?_
  try simp only [opv, n1, n2, n3, n4, Value.cells, Nat.zero_add, Nat.add_zero, List.getElem_toArray, List.getElem_cons_zero, List.getElem_cons_succ]
  refine s_go (m_load_obj Try.underlying5 (hS := hS) (hv := by exact zi_get rfl (by omega))) ?_
  try simp only [opv, n1, n2, n3, n4, Value.cells, List.getElem_toArray, List.getElem_cons_zero, List.getElem_cons_succ]
  rw [hy.e10]
  refine s_call en127 ?_
  try simp only [opv, n1, n2, n3, n4, Value.cells, List.map_toArray, List.map_cons, List.map_nil, List.append_toArray, List.cons_append, List.nil_append, Array.append_empty]
  refine CallR.mono (c_wbyte _ g _ _ (xs ++ [(kn y 0 : Int)] ++ vari (kn y 1) ++ nmOut (kitem y)) (by simp only [List.length_append, List.length_cons, List.length_nil]; omega) _ (hS.owns (by repeat (first | exact Spl.nil | (apply Spl.cons (by repeat (exact Del.head))))))) ?_
  rintro _ w5 ⟨rfl, A5, c5, hC5⟩
  replace hS := hS.frame (by repeat (first | exact Spl.nil | (apply Spl.cons (by repeat (exact Del.head))))) hC5 (by intro r hr g hg; simp only [List.mem_cons, List.not_mem_nil, or_false] at hr; rcases hr with rfl | rfl | rfl <;> (simp [Res.reads] at hg; done))
  simp only [List.cons_append, List.nil_append] at hS
  try simp only [opv, n1, n2, n3, n4, Value.cells]
  refine x_nil ?_
  refine hK7 _ _ ?_
  refine x_seq fun K8 hK8 => ?_
  refine x_region ?_
  refine s_go (m_fieldAddr Try.underlying43 (hi := ti5)) ?_
  try simp only [opv, n1, n2, n3, n4, Value.cells, Nat.zero_add, Nat.add_zero, List.getElem_toArray, List.getElem_cons_zero, List.getElem_cons_succ]
  refine s_go (m_load_obj Try.underlying5 (hS := hS) (hv := by exact zi_get rfl (by omega))) ?_
  try simp only [opv, n1, n2, n3, n4, Value.cells, List.getElem_toArray, List.getElem_cons_zero, List.getElem_cons_succ]
  rw [hy.e0]
  refine s_go (s_eql) ?_
  try simp only [opv, n1, n2, n3, n4, Value.cells]
  refine x_nil ?_
  refine hK8 _ _ ?_
  refine x_cond (ht := fun hc2 => ?_) (hf := fun hc2 => ?_)
  ·
   try simp only [decide_eq_true_eq, decide_eq_false_iff_not, Bool.not_eq_true', Bool.not_eq_false', Int.not_lt, Int.not_le, ne_eq, Decidable.not_not, bne_iff_ne, beq_iff_eq, not_true_eq_false, not_false_eq_true] at hc2
   have hO : xs ++ keyOut y = xs ++ [(kn y 0 : Int)] ++ vari (kn y 1) ++ nmOut (kitem y) ++ [(kn y 10 : Int)] ++ vari (kn y 11) := by simp [keyOut, show kn y 0 = 1 by omega]
   refine x_region ?_
   refine s_go (s_move) ?_
   try simp only [opv, n1, n2, n3, n4, Value.cells]
   refine s_go (m_fieldAddr Try.underlying43 (hi := ti29)) ?_
   try simp only [opv, n1, n2, n3, n4, Value.cells, Nat.zero_add, Nat.add_zero, List.getElem_toArray, List.getElem_cons_zero, List.getElem_cons_succ]
   refine s_go (m_load_obj Try.underlying29 (hS := hS) (hv := by exact zi_get rfl (by omega))) ?_
   try simp only [opv, n1, n2, n3, n4, Value.cells, List.getElem_toArray, List.getElem_cons_zero, List.getElem_cons_succ]
   rw [hy.e11]
   refine s_go (s_conv Try.underlying29 Try.underlying48 (hc := by exact wr_u64 (by omega) (by omega))) ?_
   try simp only [opv, n1, n2, n3, n4, Value.cells]
   refine s_call en126 ?_
   try simp only [opv, n1, n2, n3, n4, Value.cells, List.map_toArray, List.map_cons, List.map_nil, List.append_toArray, List.cons_append, List.nil_append, Array.append_empty]
   refine CallR.mono (c_wnum _ g _ _ (xs ++ [(kn y 0 : Int)] ++ vari (kn y 1) ++ nmOut (kitem y) ++ [(kn y 10 : Int)]) (by simp only [List.length_append, List.length_cons, List.length_nil]; omega) (kn y 11) (by omega) (hS.owns (by repeat (first | exact Spl.nil | (apply Spl.cons (by repeat (exact Del.head))))))) ?_
   rintro _ w6 ⟨rfl, A6, c6, hC6⟩
   replace hS := hS.frame (by repeat (first | exact Spl.nil | (apply Spl.cons (by repeat (exact Del.head))))) hC6 (by intro r hr g hg; simp only [List.mem_cons, List.not_mem_nil, or_false] at hr; rcases hr with rfl | rfl | rfl <;> (simp [Res.reads] at hg; done))
   simp only [List.cons_append, List.nil_append] at hS
   try simp only [opv, n1, n2, n3, n4, Value.cells]
   refine x_nil ?_
   refine r_none rfl ?_
   rw [← hO] at hS
   exact ⟨rfl, _, _, hS.sel (by repeat (first | exact Sel.nil | (refine Sel.cons (by repeat (exact Del.head)) ?_)))⟩
  ·
   try simp only [decide_eq_true_eq, decide_eq_false_iff_not, Bool.not_eq_true', Bool.not_eq_false', Int.not_lt, Int.not_le, ne_eq, Decidable.not_not, bne_iff_ne, beq_iff_eq, not_true_eq_false, not_false_eq_true] at hc2
   have hO : xs ++ keyOut y = xs ++ [(kn y 0 : Int)] ++ vari (kn y 1) ++ nmOut (kitem y) ++ [(kn y 10 : Int)] := by simp [keyOut, show ¬ kn y 0 = 4 by omega, show ¬ kn y 0 = 1 by omega]
   refine x_skip ?_
   refine r_none rfl ?_
   rw [← hO] at hS
   exact ⟨rfl, _, _, hS.sel (by repeat (first | exact Sel.nil | (refine Sel.cons (by repeat (exact Del.head)) ?_)))⟩
end Go.Proofs.Ytffmanidnlbjjaa
set_option linter.unusedSimpArgs false
set_option linter.unusedVariables false
set_option maxHeartbeats 800000
set_option maxRecDepth 100000
namespace Go.Proofs.Ytffmanidnlbjjaa
open Go.RowKit
theorem c_atomUnstamp (x : Nat) (hx : x < 18446744073709551616)  (w0 : World) :
    CallR Try.prog 145 #[.int .u64 (x : Int)] w0 fun v w' => v = .tuple #[.int .u32 ((x / 256 % 4294967296 : Nat) : Int), .int .u8 ((x % 256 : Nat) : Int)] ∧ Ext w0 w' := by
 have hS : St NoB w0 w0 [] := St.start w0
 refine c_enter (l := [.int .u64 (x : Int), undef, undef, undef, undef, undef, undef, undef, undef]) Try.func145 rfl (by simp only [Try.ntmps145, List.size_toArray, List.length_cons, List.length_nil, Nat.reduceAdd, Nat.reduceSub, Array.replicate_succ, Array.replicate_zero, List.push_toArray, List.append_toArray, List.nil_append, List.cons_append]) ?_
 refine x_seq fun K1 hK1 => ?_
 refine x_region ?_
 refine s_go (s_assign) ?_
 try simp only [opv, n1, n2, n3, n4, Value.cells]
 refine s_go (s_assign) ?_
 try simp only [opv, n1, n2, n3, n4, Value.cells]
 refine x_nil ?_
 refine hK1 _ _ ?_
 refine x_seq fun K2 hK2 => ?_
 refine x_region ?_
 refine s_go (s_move) ?_
 try simp only [opv, n1, n2, n3, n4, Value.cells]
 refine s_go (s_shr (hc := shr_u .u64 (r := x) (p := 256) (s := x / 256) rfl)) ?_
 try simp only [opv, n1, n2, n3, n4, Value.cells]
 refine s_go (s_conv Try.underlying48 Try.underlying29 (hc := cv_u32 rfl)) ?_
 try simp only [opv, n1, n2, n3, n4, Value.cells]
 refine s_go (s_move) ?_
 try simp only [opv, n1, n2, n3, n4, Value.cells]
 refine s_go (s_conv Try.underlying48 Try.underlying5 (hc := cv_u8 rfl)) ?_
 try simp only [opv, n1, n2, n3, n4, Value.cells]
 refine s_go (s_assign) ?_
 try simp only [opv, n1, n2, n3, n4, Value.cells]
 refine s_go (s_assign) ?_
 try simp only [opv, n1, n2, n3, n4, Value.cells]
 refine x_nil ?_
 refine hK2 _ _ ?_
 refine x_ret ?_
 refine r_tmp2 rfl ?_
 exact ⟨rfl, hS.ext_of⟩
theorem c_atomStamped (x : Nat) (hx : x < 18446744073709551616)  (w0 : World) :
    CallR Try.prog 137 #[.int .u64 (x : Int)] w0 fun v w' => v = .int .i64 (stampE x) ∧ Ext w0 w' := by
 have hS : St NoB w0 w0 [] := St.start w0
 refine c_enter (l := [.int .u64 (x : Int), undef, undef, undef, undef, undef, undef, undef, undef, undef, undef, undef, undef, undef, undef, undef, undef, undef]) Try.func137 rfl (by simp only [Try.ntmps137, List.size_toArray, List.length_cons, List.length_nil, Nat.reduceAdd, Nat.reduceSub, Array.replicate_succ, Array.replicate_zero, List.push_toArray, List.append_toArray, List.nil_append, List.cons_append]) ?_
 refine x_seq fun K1 hK1 => ?_
 refine x_region ?_
 refine s_go (s_assign) ?_
 try simp only [opv, n1, n2, n3, n4, Value.cells]
 refine x_nil ?_
 refine hK1 _ _ ?_
 refine x_seq fun K2 hK2 => ?_
 refine x_region ?_
 refine s_go (s_move) ?_
 try simp only [opv, n1, n2, n3, n4, Value.cells]
 refine s_call en145 ?_
 try simp only [opv, n1, n2, n3, n4, Value.cells, List.map_toArray, List.map_cons, List.map_nil, List.append_toArray, List.cons_append, List.nil_append, Array.append_empty]
 refine CallR.mono (c_atomUnstamp x hx _) ?_
 rintro _ w1 ⟨rfl, hE1⟩
 replace hS := hS.ext hE1
 try simp only [opv, n1, n2, n3, n4, Value.cells]
 refine s_go (s_move) ?_
 try simp only [opv, n1, n2, n3, n4, Value.cells]
 refine s_go (s_extract (hv := rfl)) ?_
 try simp only [List.getElem_toArray, List.getElem_cons_zero, List.getElem_cons_succ]
 try simp only [opv, n1, n2, n3, n4, Value.cells]
 refine s_go (s_extract (hv := rfl)) ?_
 try simp only [List.getElem_toArray, List.getElem_cons_zero, List.getElem_cons_succ]
 try simp only [opv, n1, n2, n3, n4, Value.cells]
 refine s_go (s_assign) ?_
 try simp only [opv, n1, n2, n3, n4, Value.cells]
 refine s_go (s_assign) ?_
 try simp only [opv, n1, n2, n3, n4, Value.cells]
 refine x_nil ?_
 refine hK2 _ _ ?_
 refine x_seq fun K3 hK3 => ?_
 refine x_block ?_
 refine x_seq fun K4 hK4 => ?_
 refine x_seq fun K5 hK5 => ?_
 refine x_region ?_
 refine s_go (s_move) ?_
 try simp only [opv, n1, n2, n3, n4, Value.cells]
 refine s_go (s_geq) ?_
 try simp only [opv, n1, n2, n3, n4, Value.cells]
 refine s_go (s_assign) ?_
 try simp only [opv, n1, n2, n3, n4, Value.cells]
 refine x_nil ?_
 refine hK5 _ _ ?_
 refine x_cond (ht := fun hc1 => ?_) (hf := fun hc1 => ?_)
 ·
  try simp only [decide_eq_true_eq, decide_eq_false_iff_not, Bool.not_eq_true', Bool.not_eq_false', Int.not_lt, Int.not_le, ne_eq, Decidable.not_not, bne_iff_ne, beq_iff_eq, not_true_eq_false, not_false_eq_true] at hc1
  refine x_skip ?_
  refine hK4 _ _ ?_
  refine x_cond (ht := fun hc2 => ?_) (hf := fun hc2 => ?_)
  ·
   try simp only [decide_eq_true_eq, decide_eq_false_iff_not, Bool.not_eq_true', Bool.not_eq_false', Int.not_lt, Int.not_le, ne_eq, Decidable.not_not, bne_iff_ne, beq_iff_eq, not_true_eq_false, not_false_eq_true] at hc2
   refine x_seq fun K6 hK6 => ?_
   refine x_region ?_
   refine s_go (s_assign) ?_
   try simp only [opv, n1, n2, n3, n4, Value.cells]
   refine x_nil ?_
   refine hK6 _ _ ?_
   refine x_ret ?_
   refine r_tmp rfl ?_
   exact ⟨congrArg (Value.int .i64) (by rw [stampE, if_pos (by omega)]), hS.ext_of⟩
  ·
   try simp only [decide_eq_true_eq, decide_eq_false_iff_not, Bool.not_eq_true', Bool.not_eq_false', Int.not_lt, Int.not_le, ne_eq, Decidable.not_not, bne_iff_ne, beq_iff_eq, not_true_eq_false, not_false_eq_true] at hc2
   (exfalso; omega)
 ·
  try simp only [decide_eq_true_eq, decide_eq_false_iff_not, Bool.not_eq_true', Bool.not_eq_false', Int.not_lt, Int.not_le, ne_eq, Decidable.not_not, bne_iff_ne, beq_iff_eq, not_true_eq_false, not_false_eq_true] at hc1
  refine x_region ?_
  refine s_go (s_move) ?_
  try simp only [opv, n1, n2, n3, n4, Value.cells]
  refine s_go (s_gtr) ?_
  try simp only [opv, n1, n2, n3, n4, Value.cells]
  refine s_go (s_assign) ?_
  try simp only [opv, n1, n2, n3, n4, Value.cells]
  refine x_nil ?_
  refine hK4 _ _ ?_
  refine x_cond (ht := fun hc4 => ?_) (hf := fun hc4 => ?_)
  ·
   try simp only [decide_eq_true_eq, decide_eq_false_iff_not, Bool.not_eq_true', Bool.not_eq_false', Int.not_lt, Int.not_le, ne_eq, Decidable.not_not, bne_iff_ne, beq_iff_eq, not_true_eq_false, not_false_eq_true] at hc4
   refine x_seq fun K10 hK10 => ?_
   refine x_region ?_
   refine s_go (s_assign) ?_
   try simp only [opv, n1, n2, n3, n4, Value.cells]
   refine x_nil ?_
   refine hK10 _ _ ?_
   refine x_ret ?_
   refine r_tmp rfl ?_
   exact ⟨congrArg (Value.int .i64) (by rw [stampE, if_pos (by omega)]), hS.ext_of⟩
  ·
   try simp only [decide_eq_true_eq, decide_eq_false_iff_not, Bool.not_eq_true', Bool.not_eq_false', Int.not_lt, Int.not_le, ne_eq, Decidable.not_not, bne_iff_ne, beq_iff_eq, not_true_eq_false, not_false_eq_true] at hc4
   refine x_seq fun K11 hK11 => ?_
   refine x_region ?_
   refine s_go (s_move) ?_
   try simp only [opv, n1, n2, n3, n4, Value.cells]
   refine s_go (s_eql) ?_
   try simp only [opv, n1, n2, n3, n4, Value.cells]
   refine s_go (s_assign) ?_
   try simp only [opv, n1, n2, n3, n4, Value.cells]
   refine x_nil ?_
   refine hK11 _ _ ?_
   refine x_cond (ht := fun hc5 => ?_) (hf := fun hc5 => ?_)
   ·
    try simp only [decide_eq_true_eq, decide_eq_false_iff_not, Bool.not_eq_true', Bool.not_eq_false', Int.not_lt, Int.not_le, ne_eq, Decidable.not_not, bne_iff_ne, beq_iff_eq, not_true_eq_false, not_false_eq_true] at hc5
    refine x_seq fun K12 hK12 => ?_
    refine x_region ?_
    refine s_go (s_assign) ?_
    try simp only [opv, n1, n2, n3, n4, Value.cells]
    refine x_nil ?_
    refine hK12 _ _ ?_
    refine x_ret ?_
    refine r_tmp rfl ?_
    exact ⟨congrArg (Value.int .i64) (by rw [stampE, if_neg (by omega), if_pos (by omega)]), hS.ext_of⟩
   ·
    try simp only [decide_eq_true_eq, decide_eq_false_iff_not, Bool.not_eq_true', Bool.not_eq_false', Int.not_lt, Int.not_le, ne_eq, Decidable.not_not, bne_iff_ne, beq_iff_eq, not_true_eq_false, not_false_eq_true] at hc5
    refine x_skip ?_
    refine hK3 _ _ ?_
    refine x_seq fun K13 hK13 => ?_
    refine x_region ?_
    refine s_go (s_assign) ?_
    try simp only [opv, n1, n2, n3, n4, Value.cells]
    refine x_nil ?_
    refine hK13 _ _ ?_
    refine x_ret ?_
    refine r_tmp rfl ?_
    exact ⟨congrArg (Value.int .i64) (by rw [stampE, if_neg (by omega), if_neg (by omega)]), hS.ext_of⟩
theorem c_rule1 (v : List Int) (hv : ValOk v)  (w0 : World) :
    CallR Try.prog 131 #[.agg (VA v)] w0 fun u w' => u = .bool (bareV v) ∧ Ext w0 w' := by
 have hS : St NoB w0 w0 [] := St.start w0
 refine c_enter (l := [.agg (VA v), undef, undef, undef, undef, undef, undef]) Try.func131 rfl (by simp only [Try.ntmps131, List.size_toArray, List.length_cons, List.length_nil, Nat.reduceAdd, Nat.reduceSub, Array.replicate_succ, Array.replicate_zero, List.push_toArray, List.append_toArray, List.nil_append, List.cons_append]) ?_
 refine x_seq fun K1 hK1 => ?_
 refine x_region ?_
 have hvl := hv.len
 have htl := vtext_len hv.len
 have htb := hv.text
 have hvb := hv.b0
 refine m_box hS (fun w1 g1 hS => ?_)
 try simp only [opv, n1, n2, n3, n4, Value.cells, Array.toArray_toList] at hS ⊢
 refine s_go (s_assign) ?_
 try simp only [opv, n1, n2, n3, n4, Value.cells]
 refine x_nil ?_
 refine hK1 _ _ ?_
 refine x_seq fun K2 hK2 => ?_
 refine x_region ?_
 refine s_go (m_fieldAddr Try.underlying50 (hi := ti25)) ?_
 try simp only [opv, n1, n2, n3, n4, Value.cells, Nat.zero_add, Nat.add_zero, List.getElem_toArray, List.getElem_cons_zero, List.getElem_cons_succ]
 refine s_go (m_loada_obj Try.underlying25 (hi := ti25) (hS := hS) (hfit := by (rw [zi_size (by omega)]; decide))) ?_
 try simp only [opv, n1, n2, n3, n4, Value.cells, List.getElem_toArray, List.getElem_cons_zero, List.getElem_cons_succ]
 rw [val_text hvl]
 refine s_call en132 ?_
 try simp only [opv, n1, n2, n3, n4, Value.cells, List.map_toArray, List.map_cons, List.map_nil, List.append_toArray, List.cons_append, List.nil_append, Array.append_empty]
 refine CallR.mono (c_nameSome _ htl htb _) ?_
 rintro _ w2 ⟨rfl, hE2⟩
 replace hS := hS.ext hE2
 try simp only [opv, n1, n2, n3, n4, Value.cells]
 refine s_go (s_not) ?_
 try simp only [opv, n1, n2, n3, n4, Value.cells]
 refine s_go (s_assign) ?_
 try simp only [opv, n1, n2, n3, n4, Value.cells]
 refine x_nil ?_
 refine hK2 _ _ ?_
 refine x_ret ?_
 refine r_tmp rfl ?_
 exact ⟨congrArg Value.bool (by simp [bareV]), hS.ext_of⟩
theorem c_rule2 (w0 : World) (v : List Int) (hv : ValOk v) (q : Nat) (hq : Rd w0 (some ⟨q, 0, none⟩) 1 1 [.func (.func 131) #[] #[]]) :
    CallR Try.prog 133 #[.agg (VA v), .pointer (some ⟨q, 0, none⟩)] w0 fun u w' => u = .bool (bareV v && decide (1 ≤ kn v 0 ∧ kn v 0 ≤ 4294967295)) ∧ Ext w0 w' := by
 have hS := St.rd1 (S := NoB) hq
 refine c_enter (l := [.agg (VA v), .pointer (some ⟨q, 0, none⟩), undef, undef, undef, undef, undef, undef, undef, undef, undef, undef, undef, undef, undef, undef, undef]) Try.func133 rfl (by simp only [Try.ntmps133, List.size_toArray, List.length_cons, List.length_nil, Nat.reduceAdd, Nat.reduceSub, Array.replicate_succ, Array.replicate_zero, List.push_toArray, List.append_toArray, List.nil_append, List.cons_append]) ?_
 refine x_seq fun K1 hK1 => ?_
 refine x_region ?_
 have hvl := hv.len
 have htl := vtext_len hv.len
 have htb := hv.text
 have hvb := hv.b0
 refine m_box hS (fun w1 g1 hS => ?_)
 try simp only [opv, n1, n2, n3, n4, Value.cells, Array.toArray_toList] at hS ⊢
 refine s_go (s_assign) ?_
 try simp only [opv, n1, n2, n3, n4, Value.cells]
 refine x_nil ?_
 refine hK1 _ _ ?_
 refine x_seq fun K2 hK2 => ?_
 refine x_region ?_
 refine s_go (m_load_bx Try.underlying162 (hS := hS) (hv := by rfl)) ?_
 try simp only [opv, n1, n2, n3, n4, Value.cells, List.getElem_toArray, List.getElem_cons_zero, List.getElem_cons_succ]
 refine s_go (m_load_row Try.underlying50 (hi := ti50) (hS := hS) (hfit := by (rw [zi_size (by omega)]; rfl))) ?_
 try simp only [opv, n1, n2, n3, n4, Value.cells, List.getElem_toArray, List.getElem_cons_zero, List.getElem_cons_succ]
 refine s_callv (hv := rfl) en131 ?_
 try simp only [opv, n1, n2, n3, n4, Value.cells, List.map_toArray, List.map_cons, List.map_nil, List.append_toArray, List.cons_append, List.nil_append, Array.append_empty]
 refine CallR.mono (c_rule1 v hv _) ?_
 rintro _ w2 ⟨rfl, hE2⟩
 replace hS := hS.ext hE2
 try simp only [opv, n1, n2, n3, n4, Value.cells]
 refine s_go (s_move) ?_
 try simp only [opv, n1, n2, n3, n4, Value.cells]
 refine s_part 7 rfl (fun hp1 => ?_) (fun hp1 => ?_)
 ·
  try simp only [n3, n4]
  try simp only [decide_eq_true_eq, decide_eq_false_iff_not, Bool.not_eq_true', Bool.not_eq_false', Int.not_lt, Int.not_le, ne_eq, Decidable.not_not] at hp1
  refine g_on (yi (t := 7) rfl rfl) ?_
  refine s_go (m_fieldAddr Try.underlying50 (hi := ti48)) ?_
  try simp only [opv, n1, n2, n3, n4, Value.cells, Nat.zero_add, Nat.add_zero, List.getElem_toArray, List.getElem_cons_zero, List.getElem_cons_succ]
  refine g_on (yi (t := 7) rfl rfl) ?_
  refine s_go (m_load_obj Try.underlying48 (hS := hS) (hv := by exact zi_get rfl (by omega))) ?_
  try simp only [opv, n1, n2, n3, n4, Value.cells, List.getElem_toArray, List.getElem_cons_zero, List.getElem_cons_succ]
  rw [hv.e0]
  refine g_on (yi (t := 7) rfl rfl) ?_
  refine s_go (s_geq) ?_
  try simp only [opv, n1, n2, n3, n4, Value.cells]
  refine s_go (s_pick_t) ?_
  try simp only [opv, n1, n2, n3, n4, Value.cells]
  refine s_go (s_move) ?_
  try simp only [opv, n1, n2, n3, n4, Value.cells]
  refine s_part 12 rfl (fun hp2 => ?_) (fun hp2 => ?_)
  ·
   try simp only [n3, n4]
   try simp only [decide_eq_true_eq, decide_eq_false_iff_not, Bool.not_eq_true', Bool.not_eq_false', Int.not_lt, Int.not_le, ne_eq, Decidable.not_not] at hp2
   refine g_on (yi (t := 12) rfl rfl) ?_
   refine s_go (m_fieldAddr Try.underlying50 (hi := ti48)) ?_
   try simp only [opv, n1, n2, n3, n4, Value.cells, Nat.zero_add, Nat.add_zero, List.getElem_toArray, List.getElem_cons_zero, List.getElem_cons_succ]
   refine g_on (yi (t := 12) rfl rfl) ?_
   refine s_go (m_load_obj Try.underlying48 (hS := hS) (hv := by exact zi_get rfl (by omega))) ?_
   try simp only [opv, n1, n2, n3, n4, Value.cells, List.getElem_toArray, List.getElem_cons_zero, List.getElem_cons_succ]
   rw [hv.e0]
   refine g_on (yi (t := 12) rfl rfl) ?_
   refine s_go (s_leq) ?_
   try simp only [opv, n1, n2, n3, n4, Value.cells]
   refine s_go (s_pick_t) ?_
   try simp only [opv, n1, n2, n3, n4, Value.cells]
   refine s_go (s_assign) ?_
   try simp only [opv, n1, n2, n3, n4, Value.cells]
   refine x_nil ?_
   refine hK2 _ _ ?_
   refine x_ret ?_
   refine r_tmp rfl ?_
   exact ⟨congrArg Value.bool (by (simp only [*, Bool.false_and, Bool.true_and]; exact decide_eq_decide.2 (by omega))), hS.ext_of⟩
  ·
   try simp only [n3, n4]
   try simp only [decide_eq_true_eq, decide_eq_false_iff_not, Bool.not_eq_true', Bool.not_eq_false', Int.not_lt, Int.not_le, ne_eq, Decidable.not_not] at hp2
   refine g_off (yi (t := 12) rfl rfl) ?_
   try simp only [opv, n1, n2, n3, n4, Value.cells]
   refine g_off (yi (t := 12) rfl rfl) ?_
   try simp only [opv, n1, n2, n3, n4, Value.cells]
   refine g_off (yi (t := 12) rfl rfl) ?_
   try simp only [opv, n1, n2, n3, n4, Value.cells]
   refine s_go (s_pick_f) ?_
   try simp only [opv, n1, n2, n3, n4, Value.cells]
   refine s_go (s_assign) ?_
   try simp only [opv, n1, n2, n3, n4, Value.cells]
   refine x_nil ?_
   refine hK2 _ _ ?_
   refine x_ret ?_
   refine r_tmp rfl ?_
   exact ⟨congrArg Value.bool (by (simp only [*, Bool.false_and, Bool.true_and]; exact (decide_eq_false (by omega)).symm)), hS.ext_of⟩
 ·
  try simp only [n3, n4]
  try simp only [decide_eq_true_eq, decide_eq_false_iff_not, Bool.not_eq_true', Bool.not_eq_false', Int.not_lt, Int.not_le, ne_eq, Decidable.not_not] at hp1
  refine g_off (yi (t := 7) rfl rfl) ?_
  try simp only [opv, n1, n2, n3, n4, Value.cells]
  refine g_off (yi (t := 7) rfl rfl) ?_
  try simp only [opv, n1, n2, n3, n4, Value.cells]
  refine g_off (yi (t := 7) rfl rfl) ?_
  try simp only [opv, n1, n2, n3, n4, Value.cells]
  refine s_go (s_pick_f) ?_
  try simp only [opv, n1, n2, n3, n4, Value.cells]
  refine s_go (s_move) ?_
  try simp only [opv, n1, n2, n3, n4, Value.cells]
  refine g_off (yi (t := 12) rfl rfl) ?_
  try simp only [opv, n1, n2, n3, n4, Value.cells]
  refine g_off (yi (t := 12) rfl rfl) ?_
  try simp only [opv, n1, n2, n3, n4, Value.cells]
  refine g_off (yi (t := 12) rfl rfl) ?_
  try simp only [opv, n1, n2, n3, n4, Value.cells]
  refine s_go (s_pick_f) ?_
  try simp only [opv, n1, n2, n3, n4, Value.cells]
  refine s_go (s_assign) ?_
  try simp only [opv, n1, n2, n3, n4, Value.cells]
  refine x_nil ?_
  refine hK2 _ _ ?_
  refine x_ret ?_
  refine r_tmp rfl ?_
  exact ⟨congrArg Value.bool (by (simp only [*, Bool.false_and, Bool.true_and, Bool.true_or, Bool.false_or]; done)), hS.ext_of⟩
theorem c_rule4 (w0 : World) (v : List Int) (hv : ValOk v) (q : Nat) (hq : Rd w0 (some ⟨q, 0, none⟩) 1 1 [.func (.func 131) #[] #[]]) :
    CallR Try.prog 135 #[.agg (VA v), .pointer (some ⟨q, 0, none⟩)] w0 fun u w' => u = .bool (bareV v && decide (kn v 0 = 1 ∨ kn v 0 = 2)) ∧ Ext w0 w' := by
 have hS := St.rd1 (S := NoB) hq
 refine c_enter (l := [.agg (VA v), .pointer (some ⟨q, 0, none⟩), undef, undef, undef, undef, undef, undef, undef, undef, undef, undef, undef, undef, undef, undef, undef]) Try.func135 rfl (by simp only [Try.ntmps135, List.size_toArray, List.length_cons, List.length_nil, Nat.reduceAdd, Nat.reduceSub, Array.replicate_succ, Array.replicate_zero, List.push_toArray, List.append_toArray, List.nil_append, List.cons_append]) ?_
 refine x_seq fun K1 hK1 => ?_
 refine x_region ?_
 have hvl := hv.len
 have htl := vtext_len hv.len
 have htb := hv.text
 have hvb := hv.b0
 refine m_box hS (fun w1 g1 hS => ?_)
 try simp only [opv, n1, n2, n3, n4, Value.cells, Array.toArray_toList] at hS ⊢
 refine s_go (s_assign) ?_
 try simp only [opv, n1, n2, n3, n4, Value.cells]
 refine x_nil ?_
 refine hK1 _ _ ?_
 refine x_seq fun K2 hK2 => ?_
 refine x_region ?_
 refine s_go (m_load_bx Try.underlying162 (hS := hS) (hv := by rfl)) ?_
 try simp only [opv, n1, n2, n3, n4, Value.cells, List.getElem_toArray, List.getElem_cons_zero, List.getElem_cons_succ]
 refine s_go (m_load_row Try.underlying50 (hi := ti50) (hS := hS) (hfit := by (rw [zi_size (by omega)]; rfl))) ?_
 try simp only [opv, n1, n2, n3, n4, Value.cells, List.getElem_toArray, List.getElem_cons_zero, List.getElem_cons_succ]
 refine s_callv (hv := rfl) en131 ?_
 try simp only [opv, n1, n2, n3, n4, Value.cells, List.map_toArray, List.map_cons, List.map_nil, List.append_toArray, List.cons_append, List.nil_append, Array.append_empty]
 refine CallR.mono (c_rule1 v hv _) ?_
 rintro _ w2 ⟨rfl, hE2⟩
 replace hS := hS.ext hE2
 try simp only [opv, n1, n2, n3, n4, Value.cells]
 refine s_go (s_move) ?_
 try simp only [opv, n1, n2, n3, n4, Value.cells]
 refine s_part 7 rfl (fun hp1 => ?_) (fun hp1 => ?_)
 ·
  try simp only [n3, n4]
  try simp only [decide_eq_true_eq, decide_eq_false_iff_not, Bool.not_eq_true', Bool.not_eq_false', Int.not_lt, Int.not_le, ne_eq, Decidable.not_not] at hp1
  refine g_on (yi (t := 7) rfl rfl) ?_
  refine s_go (m_fieldAddr Try.underlying50 (hi := ti48)) ?_
  try simp only [opv, n1, n2, n3, n4, Value.cells, Nat.zero_add, Nat.add_zero, List.getElem_toArray, List.getElem_cons_zero, List.getElem_cons_succ]
  refine g_on (yi (t := 7) rfl rfl) ?_
  refine s_go (m_load_obj Try.underlying48 (hS := hS) (hv := by exact zi_get rfl (by omega))) ?_
  try simp only [opv, n1, n2, n3, n4, Value.cells, List.getElem_toArray, List.getElem_cons_zero, List.getElem_cons_succ]
  rw [hv.e0]
  refine g_on (yi (t := 7) rfl rfl) ?_
  refine s_go (s_eql) ?_
  try simp only [opv, n1, n2, n3, n4, Value.cells]
  refine g_on (yi (t := 7) rfl rfl) ?_
  refine s_go (s_move) ?_
  try simp only [opv, n1, n2, n3, n4, Value.cells]
  refine s_part 11 rfl (fun hp2 => ?_) (fun hp2 => ?_)
  ·
   try simp only [n3, n4]
   try simp only [decide_eq_true_eq, decide_eq_false_iff_not, Bool.not_eq_true', Bool.not_eq_false', Int.not_lt, Int.not_le, ne_eq, Decidable.not_not] at hp2
   refine g_off (yi (t := 11) rfl rfl) ?_
   try simp only [opv, n1, n2, n3, n4, Value.cells]
   refine g_off (yi (t := 11) rfl rfl) ?_
   try simp only [opv, n1, n2, n3, n4, Value.cells]
   refine g_off (yi (t := 11) rfl rfl) ?_
   try simp only [opv, n1, n2, n3, n4, Value.cells]
   refine g_on (yi (t := 7) rfl rfl) ?_
   refine s_go (s_pick_t) ?_
   try simp only [opv, n1, n2, n3, n4, Value.cells]
   refine s_go (s_pick_t) ?_
   try simp only [opv, n1, n2, n3, n4, Value.cells]
   refine s_go (s_assign) ?_
   try simp only [opv, n1, n2, n3, n4, Value.cells]
   refine x_nil ?_
   refine hK2 _ _ ?_
   refine x_ret ?_
   refine r_tmp rfl ?_
   exact ⟨congrArg Value.bool (by (simp only [*, Bool.false_and, Bool.true_and]; exact (decide_eq_true (by omega)).symm)), hS.ext_of⟩
  ·
   try simp only [n3, n4]
   try simp only [decide_eq_true_eq, decide_eq_false_iff_not, Bool.not_eq_true', Bool.not_eq_false', Int.not_lt, Int.not_le, ne_eq, Decidable.not_not] at hp2
   refine g_on (yi (t := 11) rfl rfl) ?_
   refine s_go (m_fieldAddr Try.underlying50 (hi := ti48)) ?_
   try simp only [opv, n1, n2, n3, n4, Value.cells, Nat.zero_add, Nat.add_zero, List.getElem_toArray, List.getElem_cons_zero, List.getElem_cons_succ]
   refine g_on (yi (t := 11) rfl rfl) ?_
   refine s_go (m_load_obj Try.underlying48 (hS := hS) (hv := by exact zi_get rfl (by omega))) ?_
   try simp only [opv, n1, n2, n3, n4, Value.cells, List.getElem_toArray, List.getElem_cons_zero, List.getElem_cons_succ]
   rw [hv.e0]
   refine g_on (yi (t := 11) rfl rfl) ?_
   refine s_go (s_eql) ?_
   try simp only [opv, n1, n2, n3, n4, Value.cells]
   refine g_on (yi (t := 7) rfl rfl) ?_
   refine s_go (s_pick_f) ?_
   try simp only [opv, n1, n2, n3, n4, Value.cells]
   refine s_go (s_pick_t) ?_
   try simp only [opv, n1, n2, n3, n4, Value.cells]
   refine s_go (s_assign) ?_
   try simp only [opv, n1, n2, n3, n4, Value.cells]
   refine x_nil ?_
   refine hK2 _ _ ?_
   refine x_ret ?_
   refine r_tmp rfl ?_
   exact ⟨congrArg Value.bool (by (simp only [*, Bool.false_and, Bool.true_and]; exact decide_eq_decide.2 (by omega))), hS.ext_of⟩
 ·
  try simp only [n3, n4]
  try simp only [decide_eq_true_eq, decide_eq_false_iff_not, Bool.not_eq_true', Bool.not_eq_false', Int.not_lt, Int.not_le, ne_eq, Decidable.not_not] at hp1
  refine g_off (yi (t := 7) rfl rfl) ?_
  try simp only [opv, n1, n2, n3, n4, Value.cells]
  refine g_off (yi (t := 7) rfl rfl) ?_
  try simp only [opv, n1, n2, n3, n4, Value.cells]
  refine g_off (yi (t := 7) rfl rfl) ?_
  try simp only [opv, n1, n2, n3, n4, Value.cells]
  refine g_off (yi (t := 7) rfl rfl) ?_
  try simp only [opv, n1, n2, n3, n4, Value.cells]
  refine g_un (yn (t := 11) rfl rfl) ?_
  try simp only [opv, n1, n2, n3, n4, Value.cells]
  refine g_un (yn (t := 11) rfl rfl) ?_
  try simp only [opv, n1, n2, n3, n4, Value.cells]
  refine g_un (yn (t := 11) rfl rfl) ?_
  try simp only [opv, n1, n2, n3, n4, Value.cells]
  refine g_off (yi (t := 7) rfl rfl) ?_
  try simp only [opv, n1, n2, n3, n4, Value.cells]
  refine s_go (s_pick_f) ?_
  try simp only [opv, n1, n2, n3, n4, Value.cells]
  refine s_go (s_assign) ?_
  try simp only [opv, n1, n2, n3, n4, Value.cells]
  refine x_nil ?_
  refine hK2 _ _ ?_
  refine x_ret ?_
  refine r_tmp rfl ?_
  exact ⟨congrArg Value.bool (by (simp only [*, Bool.false_and, Bool.true_and, Bool.true_or, Bool.false_or]; done)), hS.ext_of⟩
theorem c_rule5 (w0 : World) (v : List Int) (hv : ValOk v) (q : Nat) (hq : Rd w0 (some ⟨q, 0, none⟩) 1 1 [.func (.func 131) #[] #[]]) :
    CallR Try.prog 136 #[.agg (VA v), .pointer (some ⟨q, 0, none⟩)] w0 fun u w' => u = .bool (decide (stampE (kn v 0) = 0) && (bareV v || nright (vtext v))) ∧ Ext w0 w' := by
 have hS := St.rd1 (S := NoB) hq
 refine c_enter (l := [.agg (VA v), .pointer (some ⟨q, 0, none⟩), undef, undef, undef, undef, undef, undef, undef, undef, undef, undef, undef, undef, undef, undef, undef, undef]) Try.func136 rfl (by simp only [Try.ntmps136, List.size_toArray, List.length_cons, List.length_nil, Nat.reduceAdd, Nat.reduceSub, Array.replicate_succ, Array.replicate_zero, List.push_toArray, List.append_toArray, List.nil_append, List.cons_append]) ?_
 refine x_seq fun K1 hK1 => ?_
 refine x_region ?_
 have hvl := hv.len
 have htl := vtext_len hv.len
 have htb := hv.text
 have hvb := hv.b0
 refine m_box hS (fun w1 g1 hS => ?_)
 try simp only [opv, n1, n2, n3, n4, Value.cells, Array.toArray_toList] at hS ⊢
 refine s_go (s_assign) ?_
 try simp only [opv, n1, n2, n3, n4, Value.cells]
 refine x_nil ?_
 refine hK1 _ _ ?_
 refine x_seq fun K2 hK2 => ?_
 refine x_region ?_
 refine s_go (m_fieldAddr Try.underlying50 (hi := ti48)) ?_
 try simp only [opv, n1, n2, n3, n4, Value.cells, Nat.zero_add, Nat.add_zero, List.getElem_toArray, List.getElem_cons_zero, List.getElem_cons_succ]
 refine s_go (m_load_obj Try.underlying48 (hS := hS) (hv := by exact zi_get rfl (by omega))) ?_
 try simp only [opv, n1, n2, n3, n4, Value.cells, List.getElem_toArray, List.getElem_cons_zero, List.getElem_cons_succ]
 rw [hv.e0]
 refine s_call en137 ?_
 try simp only [opv, n1, n2, n3, n4, Value.cells, List.map_toArray, List.map_cons, List.map_nil, List.append_toArray, List.cons_append, List.nil_append, Array.append_empty]
 refine CallR.mono (c_atomStamped _ hvb _) ?_
 rintro _ w2 ⟨rfl, hE2⟩
 replace hS := hS.ext hE2
 try simp only [opv, n1, n2, n3, n4, Value.cells]
 refine s_go (s_eql) ?_
 try simp only [opv, n1, n2, n3, n4, Value.cells]
 refine s_go (s_move) ?_
 try simp only [opv, n1, n2, n3, n4, Value.cells]
 refine s_part 8 rfl (fun hp1 => ?_) (fun hp1 => ?_)
 ·
  try simp only [n3, n4]
  try simp only [decide_eq_true_eq, decide_eq_false_iff_not, Bool.not_eq_true', Bool.not_eq_false', Int.not_lt, Int.not_le, ne_eq, Decidable.not_not] at hp1
  refine g_on (yi (t := 8) rfl rfl) ?_
  refine s_go (m_load_bx Try.underlying162 (hS := hS) (hv := by rfl)) ?_
  try simp only [opv, n1, n2, n3, n4, Value.cells, List.getElem_toArray, List.getElem_cons_zero, List.getElem_cons_succ]
  refine g_on (yi (t := 8) rfl rfl) ?_
  refine s_go (m_load_row Try.underlying50 (hi := ti50) (hS := hS) (hfit := by (rw [zi_size (by omega)]; rfl))) ?_
  try simp only [opv, n1, n2, n3, n4, Value.cells, List.getElem_toArray, List.getElem_cons_zero, List.getElem_cons_succ]
  refine g_on (yi (t := 8) rfl rfl) ?_
  refine s_callv (hv := rfl) en131 ?_
  try simp only [opv, n1, n2, n3, n4, Value.cells, List.map_toArray, List.map_cons, List.map_nil, List.append_toArray, List.cons_append, List.nil_append, Array.append_empty]
  refine CallR.mono (c_rule1 v hv _) ?_
  rintro _ w3 ⟨rfl, hE3⟩
  replace hS := hS.ext hE3
  try simp only [opv, n1, n2, n3, n4, Value.cells]
  refine g_on (yi (t := 8) rfl rfl) ?_
  refine s_go (s_move) ?_
  try simp only [opv, n1, n2, n3, n4, Value.cells]
  refine s_part 12 rfl (fun hp2 => ?_) (fun hp2 => ?_)
  ·
   try simp only [n3, n4]
   try simp only [decide_eq_true_eq, decide_eq_false_iff_not, Bool.not_eq_true', Bool.not_eq_false', Int.not_lt, Int.not_le, ne_eq, Decidable.not_not] at hp2
   refine g_off (yi (t := 12) rfl rfl) ?_
   try simp only [opv, n1, n2, n3, n4, Value.cells]
   refine g_off (yi (t := 12) rfl rfl) ?_
   try simp only [opv, n1, n2, n3, n4, Value.cells]
   refine g_off (yi (t := 12) rfl rfl) ?_
   try simp only [opv, n1, n2, n3, n4, Value.cells]
   refine g_on (yi (t := 8) rfl rfl) ?_
   refine s_go (s_pick_t) ?_
   try simp only [opv, n1, n2, n3, n4, Value.cells]
   refine s_go (s_pick_t) ?_
   try simp only [opv, n1, n2, n3, n4, Value.cells]
   refine s_go (s_assign) ?_
   try simp only [opv, n1, n2, n3, n4, Value.cells]
   refine x_nil ?_
   refine hK2 _ _ ?_
   refine x_ret ?_
   refine r_tmp rfl ?_
   exact ⟨congrArg Value.bool (by (simp only [*, Bool.false_and, Bool.true_and]; rfl)), hS.ext_of⟩
  ·
   try simp only [n3, n4]
   try simp only [decide_eq_true_eq, decide_eq_false_iff_not, Bool.not_eq_true', Bool.not_eq_false', Int.not_lt, Int.not_le, ne_eq, Decidable.not_not] at hp2
   refine g_on (yi (t := 12) rfl rfl) ?_
   refine s_go (m_fieldAddr Try.underlying50 (hi := ti25)) ?_
   try simp only [opv, n1, n2, n3, n4, Value.cells, Nat.zero_add, Nat.add_zero, List.getElem_toArray, List.getElem_cons_zero, List.getElem_cons_succ]
   refine g_on (yi (t := 12) rfl rfl) ?_
   refine s_go (m_loada_obj Try.underlying25 (hi := ti25) (hS := hS) (hfit := by (rw [zi_size (by omega)]; decide))) ?_
   try simp only [opv, n1, n2, n3, n4, Value.cells, List.getElem_toArray, List.getElem_cons_zero, List.getElem_cons_succ]
   rw [val_text hvl]
   refine g_on (yi (t := 12) rfl rfl) ?_
   refine s_call en54 ?_
   try simp only [opv, n1, n2, n3, n4, Value.cells, List.map_toArray, List.map_cons, List.map_nil, List.append_toArray, List.cons_append, List.nil_append, Array.append_empty]
   refine CallR.mono (c_nameRight _ htl htb _) ?_
   rintro _ w4 ⟨rfl, hE4⟩
   replace hS := hS.ext hE4
   try simp only [opv, n1, n2, n3, n4, Value.cells]
   refine g_on (yi (t := 8) rfl rfl) ?_
   refine s_go (s_pick_f) ?_
   try simp only [opv, n1, n2, n3, n4, Value.cells]
   refine s_go (s_pick_t) ?_
   try simp only [opv, n1, n2, n3, n4, Value.cells]
   refine s_go (s_assign) ?_
   try simp only [opv, n1, n2, n3, n4, Value.cells]
   refine x_nil ?_
   refine hK2 _ _ ?_
   refine x_ret ?_
   refine r_tmp rfl ?_
   exact ⟨congrArg Value.bool (by (simp only [*, Bool.false_and, Bool.true_and]; rfl)), hS.ext_of⟩
 ·
  try simp only [n3, n4]
  try simp only [decide_eq_true_eq, decide_eq_false_iff_not, Bool.not_eq_true', Bool.not_eq_false', Int.not_lt, Int.not_le, ne_eq, Decidable.not_not] at hp1
  refine g_off (yi (t := 8) rfl rfl) ?_
  try simp only [opv, n1, n2, n3, n4, Value.cells]
  refine g_off (yi (t := 8) rfl rfl) ?_
  try simp only [opv, n1, n2, n3, n4, Value.cells]
  refine g_off (yi (t := 8) rfl rfl) ?_
  try simp only [opv, n1, n2, n3, n4, Value.cells]
  refine g_off (yi (t := 8) rfl rfl) ?_
  try simp only [opv, n1, n2, n3, n4, Value.cells]
  refine g_un (yn (t := 12) rfl rfl) ?_
  try simp only [opv, n1, n2, n3, n4, Value.cells]
  refine g_un (yn (t := 12) rfl rfl) ?_
  try simp only [opv, n1, n2, n3, n4, Value.cells]
  refine g_un (yn (t := 12) rfl rfl) ?_
  try simp only [opv, n1, n2, n3, n4, Value.cells]
  refine g_off (yi (t := 8) rfl rfl) ?_
  try simp only [opv, n1, n2, n3, n4, Value.cells]
  refine s_go (s_pick_f) ?_
  try simp only [opv, n1, n2, n3, n4, Value.cells]
  refine s_go (s_assign) ?_
  try simp only [opv, n1, n2, n3, n4, Value.cells]
  refine x_nil ?_
  refine hK2 _ _ ?_
  refine x_ret ?_
  refine r_tmp rfl ?_
  exact ⟨congrArg Value.bool (by (simp only [*, Bool.false_and, Bool.true_and]; rfl)), hS.ext_of⟩
end Go.Proofs.Ytffmanidnlbjjaa
set_option linter.unusedSimpArgs false
set_option linter.unusedVariables false
set_option maxHeartbeats 800000
set_option maxRecDepth 100000
namespace Go.Proofs.Ytffmanidnlbjjaa
open Go.RowKit
theorem c_atomRules  (w0 : World) :
    CallR Try.prog 121 #[] w0 fun v w' => ∃ q, v = .agg #[.func (.func 134) #[] #[], .func (.func 135) #[] #[.pointer (some ⟨q, 0, none⟩)], .func (.func 133) #[] #[.pointer (some ⟨q, 0, none⟩)], .func (.func 133) #[] #[.pointer (some ⟨q, 0, none⟩)], .func (.func 136) #[] #[.pointer (some ⟨q, 0, none⟩)]] ∧ St NoB w0 w' [.obj q (.cells #[.func (.func 131) #[] #[]] 162 (0, 0))] := by
 have hS : St NoB w0 w0 [] := St.start w0
 refine c_enter (l := [undef, undef, undef, undef, undef, undef, undef, undef, undef]) Try.func121 rfl (by simp only [Try.ntmps121, List.size_toArray, List.length_cons, List.length_nil, Nat.reduceAdd, Nat.reduceSub, Array.replicate_succ, Array.replicate_zero, List.push_toArray, List.append_toArray, List.nil_append, List.cons_append]) ?_
 refine x_seq fun K1 hK1 => ?_
 refine x_region ?_
 refine m_alloc ti163 hS (fun w1 g1 hS => ?_)
 try simp only [opv, n1, n2, n3, n4, Value.cells, Array.toArray_toList] at hS ⊢
 refine x_nil ?_
 refine hK1 _ _ ?_
 refine x_seq fun K2 hK2 => ?_
 refine x_region ?_
 refine m_alloc ti162 hS (fun w2 g2 hS => ?_)
 try simp only [opv, n1, n2, n3, n4, Value.cells, Array.toArray_toList] at hS ⊢
 refine m_store_obj ti162 (hS := hS) (h := fun w3 hS => ?_)
 try simp only [opv, n1, n2, n3, n4, Value.cells, Array.toArray_toList] at hS ⊢
 refine x_nil ?_
 refine hK2 _ _ ?_
 refine x_seq fun K3 hK3 => ?_
 refine x_region ?_
 refine s_go (s_makeFunc) ?_
 try simp only [opv, n1, n2, n3, n4, Value.cells, List.map_toArray, List.map_cons, List.map_nil]
 refine s_go (s_assign) ?_
 try simp only [opv, n1, n2, n3, n4, Value.cells]
 refine x_nil ?_
 refine hK3 _ _ ?_
 refine x_seq fun K4 hK4 => ?_
 refine x_region ?_
 refine s_go (s_makeFunc) ?_
 try simp only [opv, n1, n2, n3, n4, Value.cells, List.map_toArray, List.map_cons, List.map_nil]
 refine s_go (s_move) ?_
 try simp only [opv, n1, n2, n3, n4, Value.cells]
 refine s_go (s_move) ?_
 try simp only [opv, n1, n2, n3, n4, Value.cells]
 refine s_go (s_makeFunc) ?_
 try simp only [opv, n1, n2, n3, n4, Value.cells, List.map_toArray, List.map_cons, List.map_nil]
 refine s_go (s_build_arr (cells := #[_, _, _, _, _]) Try.underlying163 ti163 ti162 (hc := by simp only [List.map_toArray, List.map_cons, List.map_nil, opv, n1, n2, n3, n4, Value.cells, List.toList_toArray]; (repeat (refine fill_cons rfl rfl (Nat.le_of_ble_eq_true rfl) ?_)); rfl)) ?_
 try simp only [opv, n1, n2, n3, n4, Value.cells]
 refine m_store_obj ti163 (hS := hS) (h := fun w4 hS => ?_)
 try simp only [opv, n1, n2, n3, n4, Value.cells, Array.toArray_toList] at hS ⊢
 refine x_nil ?_
 refine hK4 _ _ ?_
 refine x_ret ?_
 refine r_cell_agg rfl Try.underlying163 ti163 (hS := hS) (hR := ?_)
 exact ⟨_, rfl, hS.sel (by repeat (first | exact Sel.nil | (refine Sel.cons (by repeat (exact Del.head)) ?_)))⟩

def ruleN (s : Nat) : FuncId := if s = 1 then 135 else if s = 4 then 136 else 133
theorem rule_en {s : Nat} (h : 1 ≤ s ∧ s ≤ 4) : Enters Try.prog (ruleN s) := by
  have : s = 1 ∨ s = 2 ∨ s = 3 ∨ s = 4 := by omega
  rcases this with rfl | rfl | rfl | rfl
  · exact en135
  · exact en133
  · exact en133
  · exact en136
theorem rule_at {s q : Nat} (h : 1 ≤ s ∧ s ≤ 4) : (#[.func (.func 134) #[] #[], .func (.func 135) #[] #[.pointer (some ⟨q, 0, none⟩)], .func (.func 133) #[] #[.pointer (some ⟨q, 0, none⟩)], .func (.func 133) #[] #[.pointer (some ⟨q, 0, none⟩)], .func (.func 136) #[] #[.pointer (some ⟨q, 0, none⟩)]] : Array Value)[s * 1]? = some (.func (.func (ruleN s)) #[] #[.pointer (some ⟨q, 0, none⟩)]) := by
  have : s = 1 ∨ s = 2 ∨ s = 3 ∨ s = 4 := by omega
  rcases this with rfl | rfl | rfl | rfl <;> rfl
theorem c_rule (w0 : World) (s : Nat) (h : 1 ≤ s ∧ s ≤ 4) (v : List Int) (hv : ValOk v) (q : Nat) (hq : Rd w0 (some ⟨q, 0, none⟩) 1 1 [.func (.func 131) #[] #[]]) : CallR Try.prog (ruleN s) #[.agg (VA v), .pointer (some ⟨q, 0, none⟩)] w0 fun u w' => u = .bool (valR s v) ∧ Ext w0 w' := by
  have : s = 1 ∨ s = 2 ∨ s = 3 ∨ s = 4 := by omega
  rcases this with rfl | rfl | rfl | rfl
  · exact c_rule4 w0 v hv q hq
  · exact c_rule2 w0 v hv q hq
  · exact c_rule2 w0 v hv q hq
  · exact c_rule5 w0 v hv q hq
theorem keyR_sort {x : List Int} (h : keyR x = true) : 1 ≤ kn x 0 ∧ kn x 0 ≤ 4 := by
  unfold keyR at h
  split at h
  · omega
  split at h
  · omega
  split at h
  · omega
  · cases h
theorem akey_0 {a : List Int} (h : a.length = 21) : a.getD 0 0 = (akey a).getD 0 0 ∧ kn a 0 = kn (akey a) 0 := by
  match a, h with
  | _ :: _, _ => exact ⟨rfl, rfl⟩

theorem c_atomRight (a : List Int) (ha : AtomOk a)  (w0 : World) :
    CallR Try.prog 112 #[.agg (AA a)] w0 fun v w' => v = .bool (atomR a) ∧ Ext w0 w' := by
 have hS : St NoB w0 w0 [] := St.start w0
 refine c_enter (l := [.agg (AA a), undef, undef, undef, undef, undef, undef, undef, undef, undef, undef, undef, undef, undef, undef, undef]) Try.func112 rfl (by simp only [Try.ntmps112, List.size_toArray, List.length_cons, List.length_nil, Nat.reduceAdd, Nat.reduceSub, Array.replicate_succ, Array.replicate_zero, List.push_toArray, List.append_toArray, List.nil_append, List.cons_append]) ?_
 refine x_seq fun K1 hK1 => ?_
 refine x_region ?_
 have hal := ha.len
 have hk := ha.key
 have hv := ha.val
 have hvl := hv.len
 have hkl := hk.len
 have h00 := akey_0 hal
 have htl := vtext_len hvl
 have htb := hv.text
 have hvb := hv.b0
 refine m_box hS (fun w1 g1 hS => ?_)
 try simp only [opv, n1, n2, n3, n4, Value.cells, Array.toArray_toList] at hS ⊢
 refine s_go (s_assign) ?_
 try simp only [opv, n1, n2, n3, n4, Value.cells]
 refine x_nil ?_
 refine hK1 _ _ ?_
 refine x_seq fun K2 hK2 => ?_
 refine x_mixed_f [] 0 [2, 3, 4, 5, 6, 7, 8, 9, 10, 11, 12, 13, 14, 15] (fun f w => f 2 = .bool (atomR a) ∧ Ext w0 w) (by kernel_rfl) (by kernel_rfl) (by kernel_rfl) (by decide) hS (fun w2 hS => ?mixpre101) ?mixrest101
 case mixpre101 =>
  refine p_nil ?_
  simp only [List.length_cons, List.length_nil, Nat.reduceAdd, Nat.reduceSub]
  refine any_go (i := 0) (by rfl) (by decide +kernel) (by decide +kernel) noLate_nil (go_yields w_none (fun w hS => m_fieldAddr Try.underlying54 (hi := ti43))) ?_
  try simp only [opv, n1, n2, n3, n4, Value.cells, Nat.zero_add, Nat.add_zero, List.getElem_toArray, List.getElem_cons_zero, List.getElem_cons_succ]
  refine any_go (i := 1) (by rfl) (by decide +kernel) (by decide +kernel) noLate_nil (go_yields w_none (fun w hS => m_loada_obj Try.underlying43 (hi := ti43) (hS := hS) (hfit := by (rw [zi_size (by omega)]; decide)))) ?_
  try simp only [opv, n1, n2, n3, n4, Value.cells, List.getElem_toArray, List.getElem_cons_zero, List.getElem_cons_succ]
  rw [atom_key hal]
  apply any_go (i := 2) (by rfl) (by decide +kernel) (by decide +kernel) noLate_nil (call_yields w_none en120 ?H1) ?K1
  case H1 =>
    intro w hS
    try simp only [opv, n1, n2, n3, n4, List.map_toArray, List.map_cons, List.map_nil, List.append_toArray, List.cons_append, List.nil_append, Array.append_empty]
    refine CallR.mono (c_keyRight _ hk _) ?_
    rintro _ w1 ⟨rfl, hE⟩; exact ⟨rfl, hE⟩
  try simp only [opv, n1, n2, n3, n4, Value.cells]
  refine any_go (i := 3) (by rfl) (by decide +kernel) (by decide +kernel) noLate_nil (go_yields w_none (fun w hS => s_move)) ?_
  try simp only [opv, n1, n2, n3, n4, Value.cells]
  refine any_part 6 rfl (fun hp1 => ?_) (fun hp1 => ?_)
  ·
   try simp only [n3, n4]
   try simp only [decide_eq_true_eq, decide_eq_false_iff_not, Bool.not_eq_true', Bool.not_eq_false', Int.not_lt, Int.not_le, ne_eq, Decidable.not_not] at hp1
   have hs := keyR_sort hp1
   rw [← h00.2] at hs
   refine any_go (i := 5) (by rfl) (by decide +kernel) (by decide +kernel) noLate_nil (go_yields (w_on (yi (t := 6) rfl rfl)) (fun w hS => m_fieldAddr Try.underlying54 (hi := ti43))) ?_
   try simp only [opv, n1, n2, n3, n4, Value.cells, Nat.zero_add, Nat.add_zero, List.getElem_toArray, List.getElem_cons_zero, List.getElem_cons_succ]
   refine any_go (i := 6) (by rfl) (by decide +kernel) (by decide +kernel) noLate_nil (go_yields (w_on (yi (t := 6) rfl rfl)) (fun w hS => m_fieldAddr Try.underlying43 (hi := ti5))) ?_
   try simp only [opv, n1, n2, n3, n4, Value.cells, Nat.zero_add, Nat.add_zero, List.getElem_toArray, List.getElem_cons_zero, List.getElem_cons_succ]
   refine any_go (i := 7) (by rfl) (by decide +kernel) (by decide +kernel) noLate_nil (go_yields (w_on (yi (t := 6) rfl rfl)) (fun w hS => m_load_obj Try.underlying5 (hS := hS) (hv := by exact zi_get rfl (by omega)))) ?_
   try simp only [opv, n1, n2, n3, n4, Value.cells, List.getElem_toArray, List.getElem_cons_zero, List.getElem_cons_succ]
   rw [h00.1, hk.e0, ← h00.2]
   refine any_go (i := 9) (by rfl) (by decide +kernel) (by decide +kernel) noLate_nil (go_yields (w_on (yi (t := 6) rfl rfl)) (fun w hS => m_fieldAddr Try.underlying54 (hi := ti50))) ?_
   try simp only [opv, n1, n2, n3, n4, Value.cells, Nat.zero_add, Nat.add_zero, List.getElem_toArray, List.getElem_cons_zero, List.getElem_cons_succ]
   refine any_go (i := 10) (by rfl) (by decide +kernel) (by decide +kernel) noLate_nil (go_yields (w_on (yi (t := 6) rfl rfl)) (fun w hS => m_loada_obj Try.underlying50 (hi := ti50) (hS := hS) (hfit := by (rw [zi_size (by omega)]; decide)))) ?_
   try simp only [opv, n1, n2, n3, n4, Value.cells, List.getElem_toArray, List.getElem_cons_zero, List.getElem_cons_succ]
   rw [atom_val hal]
   refine any_step [4] (by kernel_rfl) (by decide) (fun w3 hE => ⟨fun _ => (hS.ext hE).sel (by repeat (first | exact Sel.nil | (refine Sel.cons (by repeat (exact Del.head)) ?_))), ?_⟩)
   replace hS := hS.ext hE
   intro i hi
   simp only [List.mem_cons, List.not_mem_nil, or_false] at hi
   subst hi
   ·
    refine any_op (by rfl) ?_
    refine g_on (yi (t := 6) rfl rfl) ?_
    refine s_call en121 ?_
    try simp only [opv, n1, n2, n3, n4, Value.cells, List.map_toArray, List.map_cons, List.map_nil, List.append_toArray, List.cons_append, List.nil_append, Array.append_empty]
    refine CallR.mono (c_atomRules _) ?_
    rintro _ w4 ⟨q, rfl, hC4⟩
    replace hS := hS.call hC4
    simp only [List.cons_append, List.nil_append] at hS
    try simp only [opv, n1, n2, n3, n4, Value.cells]
    refine x_nil ?_
    refine any_step [8] (by kernel_rfl) (by decide) (fun w5 hE => ⟨fun _ => (hS.ext hE).sel (by repeat (first | exact Sel.nil | (refine Sel.cons (by repeat (first | exact Del.head | apply Del.tail)) ?_))), ?_⟩)
    replace hS := hS.ext hE
    intro i hi
    simp only [List.mem_cons, List.not_mem_nil, or_false] at hi
    subst hi
    ·
     refine any_op (by rfl) ?_
     refine g_on (yi (t := 6) rfl rfl) ?_
     refine s_go (s_index_one Try.underlying163 ti162 Try.underlying162 (hv := by rw [Int.toNat_natCast]; exact rule_at hs)) ?_
     try simp only [opv, n1, n2, n3, n4, Value.cells]
     refine x_nil ?_
     refine any_step [11] (by kernel_rfl) (by decide) (fun w6 hE => ⟨fun _ => (hS.ext hE).sel (by repeat (first | exact Sel.nil | (refine Sel.cons (by repeat (first | exact Del.head | apply Del.tail)) ?_))), ?_⟩)
     replace hS := hS.ext hE
     intro i hi
     simp only [List.mem_cons, List.not_mem_nil, or_false] at hi
     subst hi
     ·
      refine any_op (by rfl) ?_
      refine g_on (yi (t := 6) rfl rfl) ?_
      refine s_callv (hv := rfl) (rule_en hs) ?_
      try simp only [opv, n1, n2, n3, n4, Value.cells, List.map_toArray, List.map_cons, List.map_nil, List.append_toArray, List.cons_append, List.nil_append, Array.append_empty]
      refine CallR.mono (c_rule _ _ hs _ hv q (by exact hS.objRd (g := q) (cs := #[.func (.func 131) #[] #[]]) (by repeat (exact Has.head)))) ?_
      rintro _ w7 ⟨rfl, hE7⟩
      replace hS := hS.ext hE7
      try simp only [opv, n1, n2, n3, n4, Value.cells]
      refine x_nil ?_
      refine any_go (i := 12) (by rfl) (by decide +kernel) (by decide +kernel) noLate_nil (go_yields w_none (fun w hS => s_pick_t)) ?_
      try simp only [opv, n1, n2, n3, n4, Value.cells]
      refine any_go (i := 13) (by rfl) (by decide +kernel) (by decide +kernel) noLate_nil (go_yields w_none (fun w hS => s_assign)) ?_
      try simp only [opv, n1, n2, n3, n4, Value.cells]
      refine any_nil (by kernel_rfl) (fun w8 hE => ?_)
      replace hS := hS.ext hE
      refine ⟨fun _ => hS.sel (by repeat (first | exact Sel.nil | (refine Sel.cons (by repeat (first | exact Del.head | apply Del.tail)) ?_))), ?_⟩
      refine mix_leaf (by simp only [clob, List.foldl, n1, n2, n3, n4]) ?_
      try simp only [n1, n2]
      exact ⟨congrArg Value.bool (by simp only [atomR, *, Bool.false_and, Bool.true_and]), hS.ext_of⟩
  ·
   try simp only [n3, n4]
   try simp only [decide_eq_true_eq, decide_eq_false_iff_not, Bool.not_eq_true', Bool.not_eq_false', Int.not_lt, Int.not_le, ne_eq, Decidable.not_not] at hp1
   refine any_go (i := 4) (by rfl) (by decide +kernel) (by decide +kernel) noLate_nil (off_yields (yi (t := 6) rfl rfl)) ?_
   try simp only [opv, n1, n2, n3, n4, Value.cells]
   refine any_go (i := 5) (by rfl) (by decide +kernel) (by decide +kernel) noLate_nil (off_yields (yi (t := 6) rfl rfl)) ?_
   try simp only [opv, n1, n2, n3, n4, Value.cells]
   refine any_go (i := 6) (by rfl) (by decide +kernel) (by decide +kernel) noLate_nil (off_yields (yi (t := 6) rfl rfl)) ?_
   try simp only [opv, n1, n2, n3, n4, Value.cells]
   refine any_go (i := 7) (by rfl) (by decide +kernel) (by decide +kernel) noLate_nil (off_yields (yi (t := 6) rfl rfl)) ?_
   try simp only [opv, n1, n2, n3, n4, Value.cells]
   refine any_go (i := 8) (by rfl) (by decide +kernel) (by decide +kernel) noLate_nil (off_yields (yi (t := 6) rfl rfl)) ?_
   try simp only [opv, n1, n2, n3, n4, Value.cells]
   refine any_go (i := 9) (by rfl) (by decide +kernel) (by decide +kernel) noLate_nil (off_yields (yi (t := 6) rfl rfl)) ?_
   try simp only [opv, n1, n2, n3, n4, Value.cells]
   refine any_go (i := 10) (by rfl) (by decide +kernel) (by decide +kernel) noLate_nil (off_yields (yi (t := 6) rfl rfl)) ?_
   try simp only [opv, n1, n2, n3, n4, Value.cells]
   refine any_go (i := 11) (by rfl) (by decide +kernel) (by decide +kernel) noLate_nil (off_yields (yi (t := 6) rfl rfl)) ?_
   try simp only [opv, n1, n2, n3, n4, Value.cells]
   refine any_go (i := 12) (by rfl) (by decide +kernel) (by decide +kernel) noLate_nil (go_yields w_none (fun w hS => s_pick_f)) ?_
   try simp only [opv, n1, n2, n3, n4, Value.cells]
   refine any_go (i := 13) (by rfl) (by decide +kernel) (by decide +kernel) noLate_nil (go_yields w_none (fun w hS => s_assign)) ?_
   try simp only [opv, n1, n2, n3, n4, Value.cells]
   refine any_nil (by kernel_rfl) (fun w9 hE => ?_)
   replace hS := hS.ext hE
   refine ⟨fun _ => hS.sel (by repeat (first | exact Sel.nil | (refine Sel.cons (by repeat (exact Del.head)) ?_))), ?_⟩
   refine mix_leaf (by simp only [clob, List.foldl, n1, n2, n3, n4]) ?_
   try simp only [n1, n2]
   exact ⟨congrArg Value.bool (by simp only [atomR, *, Bool.false_and, Bool.true_and]), hS.ext_of⟩
 intro fm1 w10 hM
 obtain ⟨h2, hEE⟩ := hM
 simp only [clob, List.foldl, n3, n4, h2]
 refine hK2 _ _ ?_
 refine x_ret ?_
 refine r_tmp rfl ?_
 exact ⟨rfl, hEE⟩
end Go.Proofs.Ytffmanidnlbjjaa
