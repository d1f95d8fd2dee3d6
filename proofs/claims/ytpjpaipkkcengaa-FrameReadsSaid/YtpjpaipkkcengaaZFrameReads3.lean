/- Rules, plain words and walks that the claim leans on: Di, Pframe, Dv, Pcrc, Cc. -/
import Derived.Test.YtpjpaipkkcengaaZFrameReads2
set_option linter.unusedSimpArgs false
set_option linter.unusedVariables false
set_option linter.unusedSimpArgs false
set_option linter.unusedVariables false
set_option maxHeartbeats 8000000
set_option maxRecDepth 100000
namespace Go.Proofs.Ytpjpaipkkcengaa
open Go.RowKit

theorem unv_cnt {l : List Int} : ∀ (k i x : Nat), ¬ (unv l k i x).2.2 = 0 → (unv l k i x).2.1 = 0 ∧ (unv l k i x).1 = 0
  | 0, _, _, _ => ⟨rfl, rfl⟩
  | k + 1, i, x, h => by
    unfold unv at h ⊢
    split
    · exact ⟨rfl, rfl⟩
    · next h1 =>
      rw [if_neg h1] at h
      split
      · exact ⟨rfl, rfl⟩
      · next h2 =>
        rw [if_neg h2] at h
        split
        · exact ⟨rfl, rfl⟩
        · next h3 =>
          rw [if_neg h3] at h
          split
          · next h4 => rw [if_pos h4] at h; exact absurd rfl h
          · next h4 => rw [if_neg h4] at h; exact unv_cnt k _ _ h
theorem unvar_cnt {xs : List Int} (hb : Byt xs) : (unvar xs).2.1 ≤ xs.length := by
  by_cases h : (unvar xs).2.2 = 0
  · exact (unvar_back hb h).1
  · have := (unv_cnt (l := xs) 10 0 0 h).1
    rw [unvar, this]; exact Nat.zero_le _
def CrSt (w0 w' : World) (M : List Res) (g : Nat) (e : Int) (xs : List Int) (R : List Res) : Prop := ∃ (A : Option Addr) (c : Nat), xs.length ≤ c ∧ RdIn w0 M A xs.length ∧ St (OwnB M) w0 w' (.obj g (.cells #[.slice A xs.length c, .int .i64 e] 66 (0, 0)) :: .rd A 1 xs.length (xs.map (Value.int .u8)) :: R)
/-- where a number that was read ends -/
def NumJ (A : Option Addr) (c : Nat) (xs : List Int) (m x : Nat) (B : Option Addr) (k d : Nat) : Prop := (numS m 0 xs).2.1 = 0 → x = (numS m 0 xs).1 ∧ ∃ j, j ≤ xs.length ∧ (numS m 0 xs).2.2 = xs.drop j ∧ k = xs.length - j ∧ d = c - j ∧ (j < xs.length → B = A.map (·.add j))

theorem c_ref07num (w0 : World) (A : Option Addr) (c : Nat) (xs : List Int) (hr : Rd w0 A 1 xs.length (xs.map (Value.int .u8))) (hw : Byt xs) (hn : xs.length ≤ 1000000000) (hc : xs.length ≤ c) (m : Nat) (hm : m < 18446744073709551616)  :
    CallR Try.prog 206 #[.slice A xs.length c, .int .u64 (m : Int)] w0 fun v w' => ∃ (x : Nat) (B : Option Addr) (k d : Nat), v = .tuple #[.int .u64 (x : Int), .slice B k d, .int .i64 (numS m 0 xs).2.1] ∧ Ext w0 w' ∧ NumJ A c xs m x B k d := by
 have hS := St.rd1 (S := NoB) hr
 have hul := unvar_lt hw
 have huc := unvar_cnt hw
 refine c_enter (l := [.slice A xs.length c, .int .u64 (m : Int), undef, undef, undef, undef, undef, undef, undef, undef, undef, undef, undef, undef, undef, undef, undef, undef, undef, undef, undef, undef, undef, undef, undef, undef, undef, undef]) Try.func206 rfl (by simp only [Try.ntmps206, List.size_toArray, List.length_cons, List.length_nil, Nat.reduceAdd, Nat.reduceSub, Array.replicate_succ, Array.replicate_zero, List.push_toArray, List.append_toArray, List.nil_append, List.cons_append]) ?_
 refine x_seq fun K1 hK1 => ?_
 refine x_region ?_
 refine s_go (s_assign) ?_
 try simp only [opv, n1, n2, n3, n4, Value.cells]
 refine s_go (s_assign) ?_
 try simp only [opv, n1, n2, n3, n4, Value.cells]
 refine s_go (s_assign) ?_
 try simp only [opv, n1, n2, n3, n4, Value.cells]
 refine x_nil ?_
 refine hK1 _ _ ?_
 refine x_seq fun K2 hK2 => ?_
 refine x_region ?_
 refine s_go (s_move) ?_
 try simp only [opv, n1, n2, n3, n4, Value.cells]
 refine s_call en245 ?_
 try simp only [opv, n1, n2, n3, n4, Value.cells, List.map_toArray, List.map_cons, List.map_nil, List.append_toArray, List.cons_append, List.nil_append, Array.append_empty]
 refine CallR.mono (c_ref03Unvar _ A _ c xs (hS.hasRd (by repeat (exact Has.head))) rfl hw (by omega) hc) ?_
 rintro _ w1 ⟨rfl, hE1⟩
 replace hS := hS.ext hE1
 try simp only [opv, n1, n2, n3, n4, Value.cells]
 unfold UnvP
 refine s_go (s_move) ?_
 try simp only [opv, n1, n2, n3, n4, Value.cells]
 refine s_go (s_extract (hv := rfl)) ?_
 try simp only [List.getElem_toArray, List.getElem_cons_zero, List.getElem_cons_succ]
 try simp only [opv, n1, n2, n3, n4, Value.cells]
 refine s_go (s_extract (hv := rfl)) ?_
 try simp only [List.getElem_toArray, List.getElem_cons_zero, List.getElem_cons_succ]
 try simp only [opv, n1, n2, n3, n4, Value.cells]
 refine s_go (s_extract (hv := rfl)) ?_
 try simp only [List.getElem_toArray, List.getElem_cons_zero, List.getElem_cons_succ]
 try simp only [opv, n1, n2, n3, n4, Value.cells]
 refine s_go (s_assign) ?_
 try simp only [opv, n1, n2, n3, n4, Value.cells]
 refine s_go (s_assign) ?_
 try simp only [opv, n1, n2, n3, n4, Value.cells]
 refine s_go (s_assign) ?_
 try simp only [opv, n1, n2, n3, n4, Value.cells]
 refine x_nil ?_
 refine hK2 _ _ ?_
 refine x_seq fun K3 hK3 => ?_
 refine x_seq fun K4 hK4 => ?_
 refine x_region ?_
 refine s_go (s_move) ?_
 try simp only [opv, n1, n2, n3, n4, Value.cells]
 refine s_go (s_eql) ?_
 try simp only [opv, n1, n2, n3, n4, Value.cells]
 refine s_go (s_move) ?_
 try simp only [opv, n1, n2, n3, n4, Value.cells]
 refine s_part 18 rfl (fun hp1 => ?_) (fun hp1 => ?_)
 ·
  try simp only [n3, n4]
  try simp only [decide_eq_true_eq, decide_eq_false_iff_not, Bool.not_eq_true', Bool.not_eq_false', Int.not_lt, Int.not_le, ne_eq, Decidable.not_not] at hp1
  have h0 : (unvar xs).2.2 = 0 := by omega
  refine g_on (yi (t := 18) rfl rfl) ?_
  refine s_go (s_move) ?_
  try simp only [opv, n1, n2, n3, n4, Value.cells]
  refine g_on (yi (t := 18) rfl rfl) ?_
  refine s_go (s_move) ?_
  try simp only [opv, n1, n2, n3, n4, Value.cells]
  refine g_on (yi (t := 18) rfl rfl) ?_
  refine s_go (s_gtr) ?_
  try simp only [opv, n1, n2, n3, n4, Value.cells]
  refine s_go (s_pick_t) ?_
  try simp only [opv, n1, n2, n3, n4, Value.cells]
  refine x_nil ?_
  refine hK4 _ _ ?_
  refine x_cond (ht := fun hc1 => ?_) (hf := fun hc1 => ?_)
  ·
   try simp only [decide_eq_true_eq, decide_eq_false_iff_not, Bool.not_eq_true', Bool.not_eq_false', Int.not_lt, Int.not_le, ne_eq, Decidable.not_not, bne_iff_ne, beq_iff_eq, not_true_eq_false, not_false_eq_true] at hc1
   have hN : numS m 0 xs = (0, 2, []) := by simp only [numS, if_true]; rw [if_pos h0, if_neg (by omega)]
   refine x_seq fun K5 hK5 => ?_
   refine x_region ?_
   refine s_go (s_assign) ?_
   try simp only [opv, n1, n2, n3, n4, Value.cells]
   refine s_go (s_assign) ?_
   try simp only [opv, n1, n2, n3, n4, Value.cells]
   refine s_go (s_assign) ?_
   try simp only [opv, n1, n2, n3, n4, Value.cells]
   refine x_nil ?_
   refine hK5 _ _ ?_
   refine x_ret ?_
   refine r_tmp3 rfl ?_
   exact ⟨0, none, 0, 0, by rw [hN]; rfl, hS.ext_of, fun h => by rw [hN] at h; exact absurd h (by decide)⟩
  ·
   try simp only [decide_eq_true_eq, decide_eq_false_iff_not, Bool.not_eq_true', Bool.not_eq_false', Int.not_lt, Int.not_le, ne_eq, Decidable.not_not, bne_iff_ne, beq_iff_eq, not_true_eq_false, not_false_eq_true] at hc1
   have hN : numS m 0 xs = ((unvar xs).1, 0, xs.drop (unvar xs).2.1) := by (simp only [numS, if_true]; rw [if_pos h0, if_pos (by omega)])
   refine x_skip ?_
   refine hK3 _ _ ?_
   refine x_seq fun K6 hK6 => ?_
   refine x_mixed_f [] 0 [4, 5, 6, 23, 24, 25, 26, 27] (fun f w => ∃ B : Option Addr, f 4 = .int .u64 ((unvar xs).1 : Int) ∧ f 5 = .slice B (xs.length - (unvar xs).2.1) (c - (unvar xs).2.1) ∧ f 6 = .int .i64 ((unvar xs).2.2 : Int) ∧ ((unvar xs).2.1 < xs.length → B = A.map (·.add (unvar xs).2.1)) ∧ Ext w0 w) (by kernel_rfl) (by kernel_rfl) (by kernel_rfl) (by decide) hS (fun w2 hS => ?mixpre401) ?mixrest401
   case mixpre401 =>
    refine p_nil ?_
    simp only [List.length_cons, List.length_nil, Nat.reduceAdd, Nat.reduceSub]
    refine any_go (i := 0) (by rfl) (by decide +kernel) (by decide +kernel) noLate_nil (go_yields w_none (fun w hS => s_move)) ?_
    try simp only [opv, n1, n2, n3, n4, Value.cells]
    refine any_go (i := 1) (by rfl) (by decide +kernel) (by decide +kernel) noLate_nil (go_yields w_none (fun w hS => s_move)) ?_
    try simp only [opv, n1, n2, n3, n4, Value.cells]
    refine any_go (i := 2) (by rfl) (by decide +kernel) (by decide +kernel) noLate_nil (go_yields w_none (fun w hS => s_move)) ?_
    try simp only [opv, n1, n2, n3, n4, Value.cells]
    refine any_go (i := 4) (by rfl) (by decide +kernel) (by decide +kernel) noLate_nil (go_yields w_none (fun w hS => s_move)) ?_
    try simp only [opv, n1, n2, n3, n4, Value.cells]
    refine any_go (i := 5) (by rfl) (by decide +kernel) (by decide +kernel) noLate_nil (go_yields w_none (fun w hS => s_assign)) ?_
    try simp only [opv, n1, n2, n3, n4, Value.cells]
    refine any_step [3] (by kernel_rfl) (by decide) (fun w3 hE => ⟨fun _ => (hS.ext hE).sel (by repeat (first | exact Sel.nil | (refine Sel.cons (by repeat (exact Del.head)) ?_))), ?_⟩)
    replace hS := hS.ext hE
    intro i hi
    simp only [List.mem_cons, List.not_mem_nil, or_false] at hi
    subst hi
    ·
     refine any_op (by rfl) ?_
     refine m_slice_rd (lo := (unvar xs).2.1) (hi := xs.length) (m := c) Try.underlying43 ti5 (hlo := ⟨_, rfl⟩) (hhi := ⟨rfl, rfl⟩) (hmx := rfl) (hS := hS) (h := fun A1 hA1 hS => ?_)
     try simp only [Nat.mul_one, Nat.zero_mul] at hA1
     try simp only [← List.map_append, ← List.map_drop, ← List.map_take, Nat.mul_one, Nat.zero_mul, Nat.sub_zero, List.drop_zero, List.nil_append, Nat.zero_add] at hS ⊢
     try simp only [opv, n1, n2, n3, n4, Value.cells, Array.toArray_toList] at hS ⊢
     refine x_nil ?_
     refine any_go (i := 6) (by rfl) (by decide +kernel) (by decide +kernel) noLate_nil (go_yields w_none (fun w hS => s_assign)) ?_
     try simp only [opv, n1, n2, n3, n4, Value.cells]
     refine any_go (i := 7) (by rfl) (by decide +kernel) (by decide +kernel) noLate_nil (go_yields w_none (fun w hS => s_assign)) ?_
     try simp only [opv, n1, n2, n3, n4, Value.cells]
     refine any_nil (by kernel_rfl) (fun w4 hE => ?_)
     replace hS := hS.ext hE
     refine ⟨fun _ => hS.sel (by repeat (first | exact Sel.nil | (refine Sel.cons (by repeat (first | exact Del.head | apply Del.tail)) ?_))), ?_⟩
     refine mix_leaf (by simp only [clob, List.foldl, n1, n2, n3, n4]) ?_
     try simp only [n1, n2]
     exact ⟨_, by trivial, rfl, by trivial, by assumption, hS.ext_of⟩
   intro fm1 w5 hM
   obtain ⟨B, h4, h5, h6, hB, hEE⟩ := hM
   simp only [clob, List.foldl, n3, n4, h4, h5, h6]
   refine hK6 _ _ ?_
   refine x_ret ?_
   refine r_tmp3 rfl ?_
   exact ⟨_, B, _, _, by rw [hN, h0]; rfl, hEE, fun _ => by rw [hN]; exact ⟨rfl, _, huc, rfl, rfl, rfl, hB⟩⟩
 ·
  try simp only [n3, n4]
  try simp only [decide_eq_true_eq, decide_eq_false_iff_not, Bool.not_eq_true', Bool.not_eq_false', Int.not_lt, Int.not_le, ne_eq, Decidable.not_not] at hp1
  have h0 : ¬ (unvar xs).2.2 = 0 := by omega
  have hN : numS m 0 xs = (0, ((unvar xs).2.2 : Int), []) := by simp only [numS, if_true]; rw [if_neg h0]
  refine g_off (yi (t := 18) rfl rfl) ?_
  try simp only [opv, n1, n2, n3, n4, Value.cells]
  refine g_off (yi (t := 18) rfl rfl) ?_
  try simp only [opv, n1, n2, n3, n4, Value.cells]
  refine g_off (yi (t := 18) rfl rfl) ?_
  try simp only [opv, n1, n2, n3, n4, Value.cells]
  refine s_go (s_pick_f) ?_
  try simp only [opv, n1, n2, n3, n4, Value.cells]
  refine x_nil ?_
  refine hK4 _ _ ?_
  refine x_cond_f (h := ?_)
  skip
  refine x_skip ?_
  refine hK3 _ _ ?_
  refine x_seq fun K7 hK7 => ?_
  refine x_mixed_f [] 0 [4, 5, 6, 23, 24, 25, 26, 27] (fun f w => ∃ B : Option Addr, f 4 = .int .u64 ((unvar xs).1 : Int) ∧ f 5 = .slice B (xs.length - (unvar xs).2.1) (c - (unvar xs).2.1) ∧ f 6 = .int .i64 ((unvar xs).2.2 : Int) ∧ ((unvar xs).2.1 < xs.length → B = A.map (·.add (unvar xs).2.1)) ∧ Ext w0 w) (by kernel_rfl) (by kernel_rfl) (by kernel_rfl) (by decide) hS (fun w6 hS => ?mixpre402) ?mixrest402
  case mixpre402 =>
   refine p_nil ?_
   simp only [List.length_cons, List.length_nil, Nat.reduceAdd, Nat.reduceSub]
   refine any_go (i := 0) (by rfl) (by decide +kernel) (by decide +kernel) noLate_nil (go_yields w_none (fun w hS => s_move)) ?_
   try simp only [opv, n1, n2, n3, n4, Value.cells]
   refine any_go (i := 1) (by rfl) (by decide +kernel) (by decide +kernel) noLate_nil (go_yields w_none (fun w hS => s_move)) ?_
   try simp only [opv, n1, n2, n3, n4, Value.cells]
   refine any_go (i := 2) (by rfl) (by decide +kernel) (by decide +kernel) noLate_nil (go_yields w_none (fun w hS => s_move)) ?_
   try simp only [opv, n1, n2, n3, n4, Value.cells]
   refine any_go (i := 4) (by rfl) (by decide +kernel) (by decide +kernel) noLate_nil (go_yields w_none (fun w hS => s_move)) ?_
   try simp only [opv, n1, n2, n3, n4, Value.cells]
   refine any_go (i := 5) (by rfl) (by decide +kernel) (by decide +kernel) noLate_nil (go_yields w_none (fun w hS => s_assign)) ?_
   try simp only [opv, n1, n2, n3, n4, Value.cells]
   refine any_step [3] (by kernel_rfl) (by decide) (fun w7 hE => ⟨fun _ => (hS.ext hE).sel (by repeat (first | exact Sel.nil | (refine Sel.cons (by repeat (exact Del.head)) ?_))), ?_⟩)
   replace hS := hS.ext hE
   intro i hi
   simp only [List.mem_cons, List.not_mem_nil, or_false] at hi
   subst hi
   ·
    refine any_op (by rfl) ?_
    refine m_slice_rd (lo := (unvar xs).2.1) (hi := xs.length) (m := c) Try.underlying43 ti5 (hlo := ⟨_, rfl⟩) (hhi := ⟨rfl, rfl⟩) (hmx := rfl) (hS := hS) (h := fun A2 hA2 hS => ?_)
    try simp only [Nat.mul_one, Nat.zero_mul] at hA2
    try simp only [← List.map_append, ← List.map_drop, ← List.map_take, Nat.mul_one, Nat.zero_mul, Nat.sub_zero, List.drop_zero, List.nil_append, Nat.zero_add] at hS ⊢
    try simp only [opv, n1, n2, n3, n4, Value.cells, Array.toArray_toList] at hS ⊢
    refine x_nil ?_
    refine any_go (i := 6) (by rfl) (by decide +kernel) (by decide +kernel) noLate_nil (go_yields w_none (fun w hS => s_assign)) ?_
    try simp only [opv, n1, n2, n3, n4, Value.cells]
    refine any_go (i := 7) (by rfl) (by decide +kernel) (by decide +kernel) noLate_nil (go_yields w_none (fun w hS => s_assign)) ?_
    try simp only [opv, n1, n2, n3, n4, Value.cells]
    refine any_nil (by kernel_rfl) (fun w8 hE => ?_)
    replace hS := hS.ext hE
    refine ⟨fun _ => hS.sel (by repeat (first | exact Sel.nil | (refine Sel.cons (by repeat (first | exact Del.head | apply Del.tail)) ?_))), ?_⟩
    refine mix_leaf (by simp only [clob, List.foldl, n1, n2, n3, n4]) ?_
    try simp only [n1, n2]
    exact ⟨_, by trivial, rfl, by trivial, by assumption, hS.ext_of⟩
  intro fm2 w9 hM
  obtain ⟨B, h4, h5, h6, hB, hEE⟩ := hM
  simp only [clob, List.foldl, n3, n4, h4, h5, h6]
  refine hK7 _ _ ?_
  refine x_ret ?_
  refine r_tmp3 rfl ?_
  exact ⟨_, B, _, _, by rw [hN]; rfl, hEE, fun h => by rw [hN] at h; exact absurd h (by simpa using h0)⟩

theorem rdS_err {d : Int} {x : Nat} {n e : Int} {xs : List Int} (h : ¬ e = 0) : rdS d x n e xs = ((0, 0, nm0, []), e, xs) := by
  unfold rdS
  repeat' split
  · rw [numS_err h]
  · rw [oneS_err h]
  · rw [namS_err h]
  · rw [bytS_err h]
section
variable {d : Int} {x : Nat} {n : Int} {xs : List Int}
theorem rdS_0y (h0 : d = 0) (hE : (numS x 0 xs).2.1 = 0) : rdS d x n 0 xs = (((numS x 0 xs).1, 0, nm0, []), 0, (numS x 0 xs).2.2) := by rw [rdS, if_pos h0]; exact Prod.ext rfl (Prod.ext hE rfl)
theorem rdS_0e (h0 : d = 0) (hE : ¬ (numS x 0 xs).2.1 = 0) : rdS d x n 0 xs = ((0, 0, nm0, []), (numS x 0 xs).2.1, []) := by
  rw [rdS, if_pos h0]
  have h1 := numS_bad hE
  have h2 : (numS x 0 xs).2.2 = [] := numS_ok (xs := xs) (fun h => absurd rfl h) hE
  rw [h1, ← h2]
theorem rdS_1s (h0 : ¬ d = 0) (h1 : d = 1) (hl : ¬ 1 ≤ xs.length) : rdS d x n 0 xs = ((0, 0, nm0, []), 4, []) := by
  rw [rdS, if_neg h0, if_pos h1]; simp only [oneS, if_true]; rw [if_neg hl]
theorem rdS_1y (h0 : ¬ d = 0) (h1 : d = 1) (hl : 1 ≤ xs.length) : rdS d x n 0 xs = ((0, xs.getD 0 0, nm0, []), 0, xs.drop 1) := by
  rw [rdS, if_neg h0, if_pos h1]; simp only [oneS, if_true]; rw [if_pos hl]
theorem rdS_2 (h0 : ¬ d = 0) (h1 : ¬ d = 1) (h2 : d = 2) {nm ys : List Int} {e : Int} (h : namS 0 xs = (nm, e, ys)) : rdS d x n 0 xs = ((0, 0, nm, []), e, ys) := by
  rw [rdS, if_neg h0, if_neg h1, if_pos h2, h]
theorem rdS_3e (h0 : ¬ d = 0) (h1 : ¬ d = 1) (h2 : ¬ d = 2) (hE : ¬ (numS n.toNat 0 xs).2.1 = 0) : rdS d x n 0 xs = ((0, 0, nm0, []), (numS n.toNat 0 xs).2.1, []) := by
  have h3 : (numS n.toNat 0 xs).2.2 = [] := numS_ok (xs := xs) (fun h => absurd rfl h) hE
  rw [rdS, if_neg h0, if_neg h1, if_neg h2, bytS, if_neg hE, h3]
theorem rdS_3s (h0 : ¬ d = 0) (h1 : ¬ d = 1) (h2 : ¬ d = 2) (hE : (numS n.toNat 0 xs).2.1 = 0) (hl : ¬ (numS n.toNat 0 xs).1 ≤ (numS n.toNat 0 xs).2.2.length) : rdS d x n 0 xs = ((0, 0, nm0, []), 4, []) := by
  rw [rdS, if_neg h0, if_neg h1, if_neg h2, bytS, if_pos hE, if_neg hl]
theorem rdS_3y (h0 : ¬ d = 0) (h1 : ¬ d = 1) (h2 : ¬ d = 2) (hE : (numS n.toNat 0 xs).2.1 = 0) {ys : List Int} (hy : (numS n.toNat 0 xs).2.2 = ys) (hl : (numS n.toNat 0 xs).1 ≤ ys.length) : rdS d x n 0 xs = ((0, 0, nm0, ys.take (numS n.toNat 0 xs).1), 0, ys.drop (numS n.toNat 0 xs).1) := by
  subst hy
  rw [rdS, if_neg h0, if_neg h1, if_neg h2, bytS, if_pos hE, if_pos hl]
end
theorem add_block (A : Option Addr) (k : Nat) : (A.map (·.add k)).map (·.block) = A.map (·.block) := by
  rcases A with _ | ⟨g, o, p⟩ <;> simp only [Option.map, Addr.add] <;> (try (split <;> rfl))
theorem RdIn.sub2 {w0 : World} {M : List Res} {A A' : Option Addr} {n n' : Nat} {xs : List Value} (hm : Res.rd A 1 n xs ∈ M) (h : 0 < n' → 0 < n ∧ A'.map (·.block) = A.map (·.block)) : RdIn w0 M A' n' := fun b hb => by
  by_cases h0 : n' = 0
  · rw [if_pos h0] at hb; cases hb
  · obtain ⟨h1, h2⟩ := h (by omega)
    rw [if_neg h0, h2] at hb
    exact .inr ⟨_, hm, .inr (by simp only [Res.reads, if_neg (show ¬ n = 0 by omega)]; exact hb)⟩
theorem pA_nm {d : Int} {x : Nat} {c : Int} {nm' nm : List Int} {B : Option Addr} {m k : Nat} {n : Int} (h : nm.length = 8) : splice (pA d x c nm' B m k n).toList 3 (ic .u8 nm).toList = (pA d x c nm B m k n).toList := by
  rw [← ic8 h]; rfl

theorem c_ref07Read (w0 : World) (g : Nat) (e : Int) (A : Option Addr) (c : Nat) (xs : List Int) (hc : xs.length ≤ c) (hw : Byt xs) (hn : xs.length ≤ 1000000000) (p : Pc) (hpx : p.x < 18446744073709551616) (hpn : p.n ≤ 9223372036854775807) (hM : St (OwnB [.obj g (.cells #[.slice A xs.length c, .int .i64 e] 66 (0, 0)), .rd A 1 xs.length (xs.map (Value.int .u8))]) w0 w0 [.obj g (.cells #[.slice A xs.length c, .int .i64 e] 66 (0, 0)), .rd A 1 xs.length (xs.map (Value.int .u8))]) :
    CallR Try.prog 137 #[.pointer (some ⟨g, 0, none⟩), .agg (pP p)] w0 fun v w' => ∃ (B : Option Addr) (k : Nat), v = .agg (pA p.d (rdS p.d p.x p.n e xs).1.1 (rdS p.d p.x p.n e xs).1.2.1 (rdS p.d p.x p.n e xs).1.2.2.1 B (rdS p.d p.x p.n e xs).1.2.2.2.length k 0) ∧ RdIn w0 [.obj g (.cells #[.slice A xs.length c, .int .i64 e] 66 (0, 0)), .rd A 1 xs.length (xs.map (Value.int .u8))] B (rdS p.d p.x p.n e xs).1.2.2.2.length ∧ CrSt w0 w' [.obj g (.cells #[.slice A xs.length c, .int .i64 e] 66 (0, 0)), .rd A 1 xs.length (xs.map (Value.int .u8))] g (rdS p.d p.x p.n e xs).2.1 (rdS p.d p.x p.n e xs).2.2 [.rd B 1 (rdS p.d p.x p.n e xs).1.2.2.2.length ((rdS p.d p.x p.n e xs).1.2.2.2.map (Value.int .u8))] := by
 have hS := hM
 refine c_enter (l := [.pointer (some ⟨g, 0, none⟩), .agg (pP p), undef, undef, undef, undef, undef, undef, undef, undef, undef, undef, undef, undef, undef, undef, undef, undef, undef, undef, undef, undef, undef, undef, undef, undef, undef, undef, undef, undef, undef, undef, undef, undef, undef, undef, undef, undef, undef, undef, undef, undef, undef, undef, undef, undef, undef, undef, undef, undef, undef, undef, undef, undef, undef, undef, undef, undef, undef, undef, undef, undef, undef, undef, undef, undef, undef, undef, undef, undef, undef, undef, undef, undef, undef, undef, undef, undef, undef, undef, undef, undef, undef, undef, undef, undef, undef, undef, undef, undef, undef, undef, undef, undef, undef, undef, undef, undef, undef, undef, undef, undef, undef, undef, undef, undef, undef, undef, undef, undef, undef, undef, undef, undef, undef, undef, undef, undef, undef, undef, undef, undef, undef, undef, undef, undef, undef, undef, undef, undef, undef, undef, undef, undef, undef, undef, undef, undef, undef, undef, undef, undef, undef, undef, undef, undef, undef, undef, undef, undef, undef, undef, undef, undef, undef, undef, undef, undef, undef, undef, undef]) Try.func137 rfl (by simp only [Try.ntmps137, List.size_toArray, List.length_cons, List.length_nil, Nat.reduceAdd, Nat.reduceSub, Array.replicate_succ, Array.replicate_zero, List.push_toArray, List.append_toArray, List.nil_append, List.cons_append]) ?_
 refine x_seq fun K1 hK1 => ?_
 refine x_region ?_
 refine m_box hS (fun w1 g1 hS => ?_)
 try simp only [opv, n1, n2, n3, n4, Value.cells, Array.toArray_toList] at hS ⊢
 refine m_alloc ti45 hS (fun w2 g2 hS => ?_)
 try simp only [opv, n1, n2, n3, n4, Value.cells, Array.toArray_toList] at hS ⊢
 replace hS : St (OwnB [.obj g (.cells #[.slice A xs.length c, .int .i64 e] 66 (0, 0)), .rd A 1 xs.length (xs.map (Value.int .u8))]) w0 w2 [.obj g2 (.cells (pA 0 0 0 nm0 none 0 0 0) 45 (0, 0)), .obj g1 (.cells (pP p) 45 (0, 0)), .obj g (.cells #[.slice A xs.length c, .int .i64 e] 66 (0, 0)), .rd A 1 xs.length (xs.map (Value.int .u8))] := hS
 refine x_nil ?_
 refine hK1 _ _ ?_
 refine x_seq fun K2 hK2 => ?_
 refine x_region ?_
 refine s_go (m_fieldAddr Try.underlying45 (hi := ti3)) ?_
 try simp only [opv, n1, n2, n3, n4, Value.cells, Nat.zero_add, Nat.add_zero, List.getElem_toArray, List.getElem_cons_zero, List.getElem_cons_succ]
 refine s_go (m_load_obj Try.underlying3 (hS := hS)) ?_
 try simp only [opv, n1, n2, n3, n4, Value.cells, List.getElem_toArray, List.getElem_cons_zero, List.getElem_cons_succ]
 refine s_go (s_build_struct (cells := #[_, .int .u64 0, .int .u8 0, .int .u8 0, .int .u8 0, .int .u8 0, .int .u8 0, .int .u8 0, .int .u8 0, .int .u8 0, .int .u8 0, .slice none 0 0, .int .i64 0]) Try.underlying45 ti45 bp45 (hc := by simp only [List.map_toArray, List.map_cons, List.map_nil, opv, n1, n2, n3, n4, Value.cells, List.toList_toArray]; (repeat (refine fill_cons rfl rfl (Nat.le_of_ble_eq_true rfl) ?_)); rfl)) ?_
 try simp only [opv, n1, n2, n3, n4, Value.cells]
 refine m_alloc ti45 hS (fun w3 g3 hS => ?_)
 try simp only [opv, n1, n2, n3, n4, Value.cells, Array.toArray_toList] at hS ⊢
 refine m_store_obj ti45 (hS := hS) (h := fun w4 hS => ?_)
 try simp only [opv, n1, n2, n3, n4, Value.cells, Array.toArray_toList] at hS ⊢
 replace hS : St (OwnB [.obj g (.cells #[.slice A xs.length c, .int .i64 e] 66 (0, 0)), .rd A 1 xs.length (xs.map (Value.int .u8))]) w0 w4 [.obj g3 (.cells (pA p.d 0 0 nm0 none 0 0 0) 45 (0, 0)), .obj g2 (.cells (pA 0 0 0 nm0 none 0 0 0) 45 (0, 0)), .obj g1 (.cells (pP p) 45 (0, 0)), .obj g (.cells #[.slice A xs.length c, .int .i64 e] 66 (0, 0)), .rd A 1 xs.length (xs.map (Value.int .u8))] := hS
 refine x_nil ?_
 refine hK2 _ _ ?_
 refine x_seq fun K3 hK3 => ?_
 refine x_seq fun K4 hK4 => ?_
 refine x_region ?_
 refine s_go (s_move) ?_
 try simp only [opv, n1, n2, n3, n4, Value.cells]
 refine s_go (s_nilCheck) ?_
 try simp only [opv, n1, n2, n3, n4, Value.cells]
 refine s_go (m_fieldAddr Try.underlying66 (hi := ti53)) ?_
 try simp only [opv, n1, n2, n3, n4, Value.cells, Nat.zero_add, Nat.add_zero, List.getElem_toArray, List.getElem_cons_zero, List.getElem_cons_succ]
 refine s_go (m_load_obj Try.underlying53 (hS := hS)) ?_
 try simp only [opv, n1, n2, n3, n4, Value.cells, List.getElem_toArray, List.getElem_cons_zero, List.getElem_cons_succ]
 refine s_go (s_neq) ?_
 try simp only [opv, n1, n2, n3, n4, Value.cells]
 refine x_nil ?_
 refine hK4 _ _ ?_
 refine x_cond (ht := fun hc1 => ?_) (hf := fun hc1 => ?_)
 ·
  try simp only [decide_eq_true_eq, decide_eq_false_iff_not, Bool.not_eq_true', Bool.not_eq_false', Int.not_lt, Int.not_le, ne_eq, Decidable.not_not, bne_iff_ne, beq_iff_eq, not_true_eq_false, not_false_eq_true] at hc1
  have hz := rdS_err (d := p.d) (x := p.x) (n := p.n) (xs := xs) hc1
  refine x_seq fun K5 hK5 => ?_
  refine x_region ?_
  refine s_go (m_load_row Try.underlying45 (hi := ti45) (hS := hS)) ?_
  try simp only [opv, n1, n2, n3, n4, Value.cells, List.getElem_toArray, List.getElem_cons_zero, List.getElem_cons_succ]
  refine m_store_obj ti45 (hS := hS) (h := fun w5 hS => ?_)
  try simp only [opv, n1, n2, n3, n4, Value.cells, Array.toArray_toList] at hS ⊢
  refine x_nil ?_
  refine hK5 _ _ ?_
  refine x_ret ?_
  refine r_cell_agg rfl Try.underlying45 ti45 (hS := hS) (hR := ?_)
  replace hS := hS.rd_none none 1
  exact ⟨none, 0, by rw [hz]; rfl, by rw [hz]; exact RdIn.none _ _ _, A, c, by rw [hz]; exact hc, by rw [hz]; exact RdIn.self (List.mem_cons_of_mem _ (List.mem_cons_self ..)), by rw [hz]; exact hS.sel (by repeat (first | exact Sel.nil | (refine Sel.cons (by repeat (first | exact Del.head | apply Del.tail)) ?_)))⟩
 ·
  try simp only [decide_eq_true_eq, decide_eq_false_iff_not, Bool.not_eq_true', Bool.not_eq_false', Int.not_lt, Int.not_le, ne_eq, Decidable.not_not, bne_iff_ne, beq_iff_eq, not_true_eq_false, not_false_eq_true] at hc1
  have he0 : e = 0 := hc1
  subst he0
  refine x_skip ?_
  refine hK3 _ _ ?_
  refine x_seq fun K6 hK6 => ?_
  refine x_region ?_
  refine s_go (s_move) ?_
  try simp only [opv, n1, n2, n3, n4, Value.cells]
  refine s_go (s_nilCheck) ?_
  try simp only [opv, n1, n2, n3, n4, Value.cells]
  refine s_go (m_fieldAddr Try.underlying66 (hi := ti43)) ?_
  try simp only [opv, n1, n2, n3, n4, Value.cells, Nat.zero_add, Nat.add_zero, List.getElem_toArray, List.getElem_cons_zero, List.getElem_cons_succ]
  refine s_go (m_load_obj Try.underlying43 (hS := hS)) ?_
  try simp only [opv, n1, n2, n3, n4, Value.cells, List.getElem_toArray, List.getElem_cons_zero, List.getElem_cons_succ]
  refine s_go (s_assign) ?_
  try simp only [opv, n1, n2, n3, n4, Value.cells]
  refine s_go (s_assign) ?_
  try simp only [opv, n1, n2, n3, n4, Value.cells]
  refine x_nil ?_
  refine hK6 _ _ ?_
  refine x_seq fun K7 hK7 => ?_
  refine x_seq fun K8 hK8 => ?_
  refine x_region ?_
  refine s_go (m_fieldAddr Try.underlying45 (hi := ti3)) ?_
  try simp only [opv, n1, n2, n3, n4, Value.cells, Nat.zero_add, Nat.add_zero, List.getElem_toArray, List.getElem_cons_zero, List.getElem_cons_succ]
  refine s_go (m_load_obj Try.underlying3 (hS := hS)) ?_
  try simp only [opv, n1, n2, n3, n4, Value.cells, List.getElem_toArray, List.getElem_cons_zero, List.getElem_cons_succ]
  refine x_nil ?_
  refine hK8 _ _ ?_
  refine x_block ?_
  refine x_seq fun K9 hK9 => ?_
  refine x_region ?_
  refine s_go (s_eql) ?_
  try simp only [opv, n1, n2, n3, n4, Value.cells]
  refine s_go (s_assign) ?_
  try simp only [opv, n1, n2, n3, n4, Value.cells]
  refine x_nil ?_
  refine hK9 _ _ ?_
  refine x_cond (ht := fun hc2 => ?_) (hf := fun hc2 => ?_)
  ·
   try simp only [decide_eq_true_eq, decide_eq_false_iff_not, Bool.not_eq_true', Bool.not_eq_false', Int.not_lt, Int.not_le, ne_eq, Decidable.not_not, bne_iff_ne, beq_iff_eq, not_true_eq_false, not_false_eq_true] at hc2
   have h0 : p.d = 0 := hc2
   refine x_mixed_c (Lc := [.obj g1 (.cells (pP p) 45 (0, 0)), .obj g (.cells #[.slice A xs.length c, .int .i64 0] 66 (0, 0)), .rd A 1 xs.length (xs.map (Value.int .u8))]) [] 0 [6, 7, 62, 63, 64, 65, 66, 67, 68, 69, 70, 71, 72, 73] (fun f w => ∃ (x : Nat) (B : Option Addr) (k d : Nat), f 6 = .slice B k d ∧ f 7 = .int .i64 (numS p.x 0 xs).2.1 ∧ NumJ A c xs p.x x B k d ∧ St (OwnB [.obj g (.cells #[.slice A xs.length c, .int .i64 0] 66 (0, 0)), .rd A 1 xs.length (xs.map (Value.int .u8))]) w0 w [.obj g3 (.cells (pA p.d x 0 nm0 none 0 0 0) 45 (0, 0)), .obj g2 (.cells (pA 0 0 0 nm0 none 0 0 0) 45 (0, 0)), .obj g1 (.cells (pP p) 45 (0, 0)), .obj g (.cells #[.slice A xs.length c, .int .i64 0] 66 (0, 0)), .rd A 1 xs.length (xs.map (Value.int .u8))]) (by kernel_rfl) (by kernel_rfl) (by kernel_rfl) (by decide) hS (fun w6 hS => ?mixpre1301) ?mixrest1301
   case mixpre1301 =>
    refine p_nil ?_
    simp only [List.length_cons, List.length_nil, Nat.reduceAdd, Nat.reduceSub]
    refine any_go (i := 0) (by rfl) (by decide +kernel) (by decide +kernel) noLate_nil (go_yields w_none (fun w hS => s_move)) ?_
    try simp only [opv, n1, n2, n3, n4, Value.cells]
    refine any_go (i := 1) (by rfl) (by decide +kernel) (by decide +kernel) noLate_nil (go_yields w_none (fun w hS => s_nilCheck)) ?_
    try simp only [opv, n1, n2, n3, n4, Value.cells]
    refine any_go (i := 2) (by rfl) (by decide +kernel) (by decide +kernel) noLate_nil (go_yields w_none (fun w hS => m_fieldAddr Try.underlying66 (hi := ti43))) ?_
    try simp only [opv, n1, n2, n3, n4, Value.cells, Nat.zero_add, Nat.add_zero, List.getElem_toArray, List.getElem_cons_zero, List.getElem_cons_succ]
    refine any_go (i := 3) (by rfl) (by decide +kernel) (by decide +kernel) noLate_nil (go_yields w_none (fun w hS => m_load_obj Try.underlying43 (hS := hS))) ?_
    try simp only [opv, n1, n2, n3, n4, Value.cells, List.getElem_toArray, List.getElem_cons_zero, List.getElem_cons_succ]
    refine any_go (i := 4) (by rfl) (by decide +kernel) (by decide +kernel) noLate_nil (go_yields w_none (fun w hS => m_fieldAddr Try.underlying45 (hi := ti40))) ?_
    try simp only [opv, n1, n2, n3, n4, Value.cells, Nat.zero_add, Nat.add_zero, List.getElem_toArray, List.getElem_cons_zero, List.getElem_cons_succ]
    refine any_go (i := 5) (by rfl) (by decide +kernel) (by decide +kernel) noLate_nil (go_yields w_none (fun w hS => m_load_obj Try.underlying40 (hS := hS))) ?_
    try simp only [opv, n1, n2, n3, n4, Value.cells, List.getElem_toArray, List.getElem_cons_zero, List.getElem_cons_succ]
    refine any_step [6] (by kernel_rfl) (by decide) (fun w7 hE => ⟨fun _ => (hS.ext hE).sel (by repeat (first | exact Sel.nil | (refine Sel.cons (by repeat (first | exact Del.head | apply Del.tail)) ?_))), ?_⟩)
    replace hS := hS.ext hE
    intro i hi
    simp only [List.mem_cons, List.not_mem_nil, or_false] at hi
    subst hi
    ·
     refine any_op (by rfl) ?_
     refine s_call en206 ?_
     try simp only [opv, n1, n2, n3, n4, Value.cells, List.map_toArray, List.map_cons, List.map_nil, List.append_toArray, List.cons_append, List.nil_append, Array.append_empty]
     refine CallR.mono (c_ref07num _ A c xs (hS.hasRd (by repeat (first | exact Has.head | apply Has.tail))) hw hn hc p.x hpx) ?_
     rintro _ w8 ⟨x8, B8, k8, d8, rfl, hE8, hj8⟩
     replace hS := hS.ext hE8
     try simp only [opv, n1, n2, n3, n4, Value.cells]
     refine x_nil ?_
     refine any_go (i := 7) (by rfl) (by decide +kernel) (by decide +kernel) noLate_nil (go_yields w_none (fun w hS => s_move)) ?_
     try simp only [opv, n1, n2, n3, n4, Value.cells]
     refine any_go (i := 8) (by rfl) (by decide +kernel) (by decide +kernel) noLate_nil (go_yields w_none (fun w hS => s_extract (hv := rfl))) ?_
     try simp only [List.getElem_toArray, List.getElem_cons_zero, List.getElem_cons_succ]
     try simp only [opv, n1, n2, n3, n4, Value.cells]
     refine any_go (i := 9) (by rfl) (by decide +kernel) (by decide +kernel) noLate_nil (go_yields w_none (fun w hS => s_extract (hv := rfl))) ?_
     try simp only [List.getElem_toArray, List.getElem_cons_zero, List.getElem_cons_succ]
     try simp only [opv, n1, n2, n3, n4, Value.cells]
     refine any_go (i := 10) (by rfl) (by decide +kernel) (by decide +kernel) noLate_nil (go_yields w_none (fun w hS => s_extract (hv := rfl))) ?_
     try simp only [List.getElem_toArray, List.getElem_cons_zero, List.getElem_cons_succ]
     try simp only [opv, n1, n2, n3, n4, Value.cells]
     refine any_go (i := 11) (by rfl) (by decide +kernel) (by decide +kernel) noLate_nil (go_yields w_none (fun w hS => m_fieldAddr Try.underlying45 (hi := ti40))) ?_
     try simp only [opv, n1, n2, n3, n4, Value.cells, Nat.zero_add, Nat.add_zero, List.getElem_toArray, List.getElem_cons_zero, List.getElem_cons_succ]
     refine any_step [12] (by kernel_rfl) (by decide) (fun w9 hE => ⟨fun _ => (hS.ext hE).sel (by repeat (first | exact Sel.nil | (refine Sel.cons (by repeat (first | exact Del.head | apply Del.tail)) ?_))), ?_⟩)
     replace hS := hS.ext hE
     intro i hi
     simp only [List.mem_cons, List.not_mem_nil, or_false] at hi
     subst hi
     ·
      refine any_op (by rfl) ?_
      refine m_store_obj ti40 (hS := hS) (h := fun w10 hS => ?_)
      try simp only [opv, n1, n2, n3, n4, Value.cells, Array.toArray_toList] at hS ⊢
      refine x_nil ?_
      refine any_go (i := 13) (by rfl) (by decide +kernel) (by decide +kernel) noLate_nil (go_yields w_none (fun w hS => s_assign)) ?_
      try simp only [opv, n1, n2, n3, n4, Value.cells]
      refine any_go (i := 14) (by rfl) (by decide +kernel) (by decide +kernel) noLate_nil (go_yields w_none (fun w hS => s_assign)) ?_
      try simp only [opv, n1, n2, n3, n4, Value.cells]
      refine any_nil (by kernel_rfl) (fun w11 hE => ?_)
      replace hS := hS.ext hE
      refine ⟨fun _ => hS.sel (by repeat (first | exact Sel.nil | (refine Sel.cons (by repeat (first | exact Del.head | apply Del.tail)) ?_))), ?_⟩
      refine mix_leaf (by simp only [clob, List.foldl, n1, n2, n3, n4]) ?_
      try simp only [n1, n2]
      exact ⟨_, _, _, _, rfl, by trivial, by assumption, hS.sel (by repeat (first | exact Sel.nil | (refine Sel.cons (by repeat (exact Del.head)) ?_)))⟩
   intro fm1 w12 hM
   obtain ⟨xv, B, kb, db, h6, h7, hj, hS⟩ := hM
   simp only [clob, List.foldl, n3, n4, h6, h7]
   refine hK7 _ _ ?_
   refine x_seq fun K10 hK10 => ?_
   refine x_seq fun K11 hK11 => ?_
   refine x_region ?_
   refine s_go (s_move) ?_
   try simp only [opv, n1, n2, n3, n4, Value.cells]
   refine s_go (s_neq) ?_
   try simp only [opv, n1, n2, n3, n4, Value.cells]
   refine x_nil ?_
   refine hK11 _ _ ?_
   refine x_cond (ht := fun hc3 => ?_) (hf := fun hc3 => ?_)
   ·
    try simp only [decide_eq_true_eq, decide_eq_false_iff_not, Bool.not_eq_true', Bool.not_eq_false', Int.not_lt, Int.not_le, ne_eq, Decidable.not_not, bne_iff_ne, beq_iff_eq, not_true_eq_false, not_false_eq_true] at hc3
    have hz := rdS_0e (n := p.n) h0 (by assumption)
    refine x_seq fun K12 hK12 => ?_
    refine x_region ?_
    refine s_go (s_move) ?_
    try simp only [opv, n1, n2, n3, n4, Value.cells]
    refine s_go (s_move) ?_
    try simp only [opv, n1, n2, n3, n4, Value.cells]
    refine s_go (s_move) ?_
    try simp only [opv, n1, n2, n3, n4, Value.cells]
    refine s_go (s_nilCheck) ?_
    try simp only [opv, n1, n2, n3, n4, Value.cells]
    refine s_go (m_fieldAddr Try.underlying66 (hi := ti43)) ?_
    try simp only [opv, n1, n2, n3, n4, Value.cells, Nat.zero_add, Nat.add_zero, List.getElem_toArray, List.getElem_cons_zero, List.getElem_cons_succ]
    refine m_store_obj ti43 (hS := hS) (h := fun w13 hS => ?_)
    try simp only [opv, n1, n2, n3, n4, Value.cells, Array.toArray_toList] at hS ⊢
    refine s_go (s_nilCheck) ?_
    try simp only [opv, n1, n2, n3, n4, Value.cells]
    refine s_go (m_fieldAddr Try.underlying66 (hi := ti53)) ?_
    try simp only [opv, n1, n2, n3, n4, Value.cells, Nat.zero_add, Nat.add_zero, List.getElem_toArray, List.getElem_cons_zero, List.getElem_cons_succ]
    refine m_store_obj ti53 (hS := hS) (h := fun w14 hS => ?_)
    try simp only [opv, n1, n2, n3, n4, Value.cells, Array.toArray_toList] at hS ⊢
    refine x_nil ?_
    refine hK12 _ _ ?_
    refine x_seq fun K13 hK13 => ?_
    refine x_region ?_
    refine s_go (m_fieldAddr Try.underlying45 (hi := ti3)) ?_
    try simp only [opv, n1, n2, n3, n4, Value.cells, Nat.zero_add, Nat.add_zero, List.getElem_toArray, List.getElem_cons_zero, List.getElem_cons_succ]
    refine s_go (m_load_obj Try.underlying3 (hS := hS)) ?_
    try simp only [opv, n1, n2, n3, n4, Value.cells, List.getElem_toArray, List.getElem_cons_zero, List.getElem_cons_succ]
    refine s_go (s_build_struct (cells := #[_, .int .u64 0, .int .u8 0, .int .u8 0, .int .u8 0, .int .u8 0, .int .u8 0, .int .u8 0, .int .u8 0, .int .u8 0, .int .u8 0, .slice none 0 0, .int .i64 0]) Try.underlying45 ti45 bp45 (hc := by simp only [List.map_toArray, List.map_cons, List.map_nil, opv, n1, n2, n3, n4, Value.cells, List.toList_toArray]; (repeat (refine fill_cons rfl rfl (Nat.le_of_ble_eq_true rfl) ?_)); rfl)) ?_
    try simp only [opv, n1, n2, n3, n4, Value.cells]
    refine m_store_obj ti45 (hS := hS) (h := fun w15 hS => ?_)
    try simp only [opv, n1, n2, n3, n4, Value.cells, Array.toArray_toList] at hS ⊢
    refine x_nil ?_
    refine hK13 _ _ ?_
    refine x_ret ?_
    refine r_cell_agg rfl Try.underlying45 ti45 (hS := hS) (hR := ?_)
    replace hS := (hS.rd_none none 1).rd_none none 1
    exact ⟨none, 0, by rw [hz]; rfl, by rw [hz]; exact RdIn.none _ _ _, none, 0, by rw [hz]; exact Nat.le_refl 0, by rw [hz]; exact RdIn.none _ _ _, by rw [hz]; exact hS.sel (by repeat (first | exact Sel.nil | (refine Sel.cons (by repeat (first | exact Del.head | apply Del.tail)) ?_)))⟩
   ·
    try simp only [decide_eq_true_eq, decide_eq_false_iff_not, Bool.not_eq_true', Bool.not_eq_false', Int.not_lt, Int.not_le, ne_eq, Decidable.not_not, bne_iff_ne, beq_iff_eq, not_true_eq_false, not_false_eq_true] at hc3
    (obtain ⟨rfl, j, hjl, hdr, rfl, rfl, hB⟩ := hj (by assumption); have hz := rdS_0y (n := p.n) h0 (by assumption); rw [hdr] at hz)
    refine x_skip ?_
    refine hK10 _ _ ?_
    refine x_seq fun K14 hK14 => ?_
    refine x_region ?_
    refine s_go (s_move) ?_
    try simp only [opv, n1, n2, n3, n4, Value.cells]
    refine s_go (s_move) ?_
    try simp only [opv, n1, n2, n3, n4, Value.cells]
    refine s_go (s_nilCheck) ?_
    try simp only [opv, n1, n2, n3, n4, Value.cells]
    refine s_go (m_fieldAddr Try.underlying66 (hi := ti43)) ?_
    try simp only [opv, n1, n2, n3, n4, Value.cells, Nat.zero_add, Nat.add_zero, List.getElem_toArray, List.getElem_cons_zero, List.getElem_cons_succ]
    refine m_store_obj ti43 (hS := hS) (h := fun w16 hS => ?_)
    try simp only [opv, n1, n2, n3, n4, Value.cells, Array.toArray_toList] at hS ⊢
    refine x_nil ?_
    refine hK14 _ _ ?_
    refine x_seq fun K15 hK15 => ?_
    refine x_region ?_
    refine s_go (m_load_row Try.underlying45 (hi := ti45) (hS := hS)) ?_
    try simp only [opv, n1, n2, n3, n4, Value.cells, List.getElem_toArray, List.getElem_cons_zero, List.getElem_cons_succ]
    refine m_store_obj ti45 (hS := hS) (h := fun w17 hS => ?_)
    try simp only [opv, n1, n2, n3, n4, Value.cells, Array.toArray_toList] at hS ⊢
    refine x_nil ?_
    refine hK15 _ _ ?_
    refine x_ret ?_
    refine r_cell_agg rfl Try.underlying45 ti45 (hS := hS) (hR := ?_)
    have hcpo : (xs.drop (j)).length ≤ c - (j) := by simp; omega
    have hRo : RdIn w0 [.obj g (.cells #[.slice A xs.length c, .int .i64 0] 66 (0, 0)), .rd A 1 xs.length (xs.map (Value.int .u8))] B (xs.drop (j)).length := RdIn.sub (List.mem_cons_of_mem _ (List.mem_cons_self ..)) (fun h => by simp at h; exact ⟨by omega, hB (by omega)⟩)
    replace hS := (hS.rd_drop (by repeat (first | exact Has.head | apply Has.tail)) (j) (by omega) B hB).rd_none none 1
    try rw [← List.length_drop] at hS
    exact ⟨_, _, by rw [hz]; rfl, by rw [hz]; exact RdIn.none _ _ _, _, _, by rw [hz]; exact hcpo, by rw [hz]; exact hRo, by rw [hz]; exact hS.sel (by repeat (first | exact Sel.nil | (refine Sel.cons (by repeat (first | exact Del.head | apply Del.tail)) ?_)))⟩
  ·
   try simp only [decide_eq_true_eq, decide_eq_false_iff_not, Bool.not_eq_true', Bool.not_eq_false', Int.not_lt, Int.not_le, ne_eq, Decidable.not_not, bne_iff_ne, beq_iff_eq, not_true_eq_false, not_false_eq_true] at hc2
   have h0 : ¬ p.d = 0 := hc2
   refine x_seq fun K16 hK16 => ?_
   refine x_region ?_
   refine s_go (s_eql) ?_
   try simp only [opv, n1, n2, n3, n4, Value.cells]
   refine s_go (s_assign) ?_
   try simp only [opv, n1, n2, n3, n4, Value.cells]
   refine x_nil ?_
   refine hK16 _ _ ?_
   refine x_cond (ht := fun hc4 => ?_) (hf := fun hc4 => ?_)
   ·
    try simp only [decide_eq_true_eq, decide_eq_false_iff_not, Bool.not_eq_true', Bool.not_eq_false', Int.not_lt, Int.not_le, ne_eq, Decidable.not_not, bne_iff_ne, beq_iff_eq, not_true_eq_false, not_false_eq_true] at hc4
    have h1 : p.d = 1 := hc4
    refine x_seq fun K17 hK17 => ?_
    refine x_region ?_
    refine s_go (s_move) ?_
    try simp only [opv, n1, n2, n3, n4, Value.cells]
    refine s_go (s_nilCheck) ?_
    try simp only [opv, n1, n2, n3, n4, Value.cells]
    refine s_go (m_fieldAddr Try.underlying66 (hi := ti43)) ?_
    try simp only [opv, n1, n2, n3, n4, Value.cells, Nat.zero_add, Nat.add_zero, List.getElem_toArray, List.getElem_cons_zero, List.getElem_cons_succ]
    refine s_go (m_load_obj Try.underlying43 (hS := hS)) ?_
    try simp only [opv, n1, n2, n3, n4, Value.cells, List.getElem_toArray, List.getElem_cons_zero, List.getElem_cons_succ]
    refine s_go (s_len_sl Try.underlying43) ?_
    try simp only [opv, n1, n2, n3, n4, Value.cells]
    refine s_go (s_eql) ?_
    try simp only [opv, n1, n2, n3, n4, Value.cells]
    refine x_nil ?_
    refine hK17 _ _ ?_
    refine x_cond (ht := fun hc5 => ?_) (hf := fun hc5 => ?_)
    ·
     try simp only [decide_eq_true_eq, decide_eq_false_iff_not, Bool.not_eq_true', Bool.not_eq_false', Int.not_lt, Int.not_le, ne_eq, Decidable.not_not, bne_iff_ne, beq_iff_eq, not_true_eq_false, not_false_eq_true] at hc5
     have hz := rdS_1s (x := p.x) (n := p.n) (xs := xs) h0 h1 (by omega)
     refine x_region ?_
     refine s_go (s_assign) ?_
     try simp only [opv, n1, n2, n3, n4, Value.cells]
     refine x_nil ?_
     refine hK7 _ _ ?_
     refine x_seq fun K18 hK18 => ?_
     refine x_seq fun K19 hK19 => ?_
     refine x_region ?_
     refine s_go (s_move) ?_
     try simp only [opv, n1, n2, n3, n4, Value.cells]
     refine s_go (s_neq) ?_
     try simp only [opv, n1, n2, n3, n4, Value.cells]
     refine x_nil ?_
     refine hK19 _ _ ?_
     refine x_cond_t (h := ?_)
     skip
     refine x_seq fun K20 hK20 => ?_
     refine x_region ?_
     refine s_go (s_move) ?_
     try simp only [opv, n1, n2, n3, n4, Value.cells]
     refine s_go (s_move) ?_
     try simp only [opv, n1, n2, n3, n4, Value.cells]
     refine s_go (s_move) ?_
     try simp only [opv, n1, n2, n3, n4, Value.cells]
     refine s_go (s_nilCheck) ?_
     try simp only [opv, n1, n2, n3, n4, Value.cells]
     refine s_go (m_fieldAddr Try.underlying66 (hi := ti43)) ?_
     try simp only [opv, n1, n2, n3, n4, Value.cells, Nat.zero_add, Nat.add_zero, List.getElem_toArray, List.getElem_cons_zero, List.getElem_cons_succ]
     refine m_store_obj ti43 (hS := hS) (h := fun w18 hS => ?_)
     try simp only [opv, n1, n2, n3, n4, Value.cells, Array.toArray_toList] at hS ⊢
     refine s_go (s_nilCheck) ?_
     try simp only [opv, n1, n2, n3, n4, Value.cells]
     refine s_go (m_fieldAddr Try.underlying66 (hi := ti53)) ?_
     try simp only [opv, n1, n2, n3, n4, Value.cells, Nat.zero_add, Nat.add_zero, List.getElem_toArray, List.getElem_cons_zero, List.getElem_cons_succ]
     refine m_store_obj ti53 (hS := hS) (h := fun w19 hS => ?_)
     try simp only [opv, n1, n2, n3, n4, Value.cells, Array.toArray_toList] at hS ⊢
     refine x_nil ?_
     refine hK20 _ _ ?_
     refine x_seq fun K21 hK21 => ?_
     refine x_region ?_
     refine s_go (m_fieldAddr Try.underlying45 (hi := ti3)) ?_
     try simp only [opv, n1, n2, n3, n4, Value.cells, Nat.zero_add, Nat.add_zero, List.getElem_toArray, List.getElem_cons_zero, List.getElem_cons_succ]
     refine s_go (m_load_obj Try.underlying3 (hS := hS)) ?_
     try simp only [opv, n1, n2, n3, n4, Value.cells, List.getElem_toArray, List.getElem_cons_zero, List.getElem_cons_succ]
     refine s_go (s_build_struct (cells := #[_, .int .u64 0, .int .u8 0, .int .u8 0, .int .u8 0, .int .u8 0, .int .u8 0, .int .u8 0, .int .u8 0, .int .u8 0, .int .u8 0, .slice none 0 0, .int .i64 0]) Try.underlying45 ti45 bp45 (hc := by simp only [List.map_toArray, List.map_cons, List.map_nil, opv, n1, n2, n3, n4, Value.cells, List.toList_toArray]; (repeat (refine fill_cons rfl rfl (Nat.le_of_ble_eq_true rfl) ?_)); rfl)) ?_
     try simp only [opv, n1, n2, n3, n4, Value.cells]
     refine m_store_obj ti45 (hS := hS) (h := fun w20 hS => ?_)
     try simp only [opv, n1, n2, n3, n4, Value.cells, Array.toArray_toList] at hS ⊢
     refine x_nil ?_
     refine hK21 _ _ ?_
     refine x_ret ?_
     refine r_cell_agg rfl Try.underlying45 ti45 (hS := hS) (hR := ?_)
     replace hS := (hS.rd_none none 1).rd_none none 1
     exact ⟨none, 0, by rw [hz]; rfl, by rw [hz]; exact RdIn.none _ _ _, none, 0, by rw [hz]; exact Nat.le_refl 0, by rw [hz]; exact RdIn.none _ _ _, by rw [hz]; exact hS.sel (by repeat (first | exact Sel.nil | (refine Sel.cons (by repeat (first | exact Del.head | apply Del.tail)) ?_)))⟩
    ·
     try simp only [decide_eq_true_eq, decide_eq_false_iff_not, Bool.not_eq_true', Bool.not_eq_false', Int.not_lt, Int.not_le, ne_eq, Decidable.not_not, bne_iff_ne, beq_iff_eq, not_true_eq_false, not_false_eq_true] at hc5
     have hl1 : 1 ≤ xs.length := by omega
     have hz := rdS_1y (x := p.x) (n := p.n) h0 h1 hl1
     refine x_mixed_c (Lc := [.obj g (.cells #[.slice A xs.length c, .int .i64 0] 66 (0, 0)), .rd A 1 xs.length (xs.map (Value.int .u8))]) [] 0 [6, 82, 83, 84, 85, 86, 87, 88, 89, 90, 91, 92, 93] (fun f w => ∃ B : Option Addr, f 6 = .slice B (xs.length - 1) (c - 1) ∧ (1 < xs.length → B = A.map (·.add 1)) ∧ St (OwnB [.obj g (.cells #[.slice A xs.length c, .int .i64 0] 66 (0, 0)), .rd A 1 xs.length (xs.map (Value.int .u8))]) w0 w [.obj g3 (.cells (pA p.d 0 (xs.getD 0 0) nm0 none 0 0 0) 45 (0, 0)), .obj g2 (.cells (pA 0 0 0 nm0 none 0 0 0) 45 (0, 0)), .obj g1 (.cells (pP p) 45 (0, 0)), .obj g (.cells #[.slice A xs.length c, .int .i64 0] 66 (0, 0)), .rd A 1 xs.length (xs.map (Value.int .u8))]) (by kernel_rfl) (by kernel_rfl) (by kernel_rfl) (by decide) hS (fun w21 hS => ?mixpre1702) ?mixrest1702
     case mixpre1702 =>
      refine p_nil ?_
      simp only [List.length_cons, List.length_nil, Nat.reduceAdd, Nat.reduceSub]
      refine any_go (i := 0) (by rfl) (by decide +kernel) (by decide +kernel) noLate_nil (go_yields w_none (fun w hS => s_move)) ?_
      try simp only [opv, n1, n2, n3, n4, Value.cells]
      refine any_go (i := 1) (by rfl) (by decide +kernel) (by decide +kernel) noLate_nil (go_yields w_none (fun w hS => s_nilCheck)) ?_
      try simp only [opv, n1, n2, n3, n4, Value.cells]
      refine any_go (i := 2) (by rfl) (by decide +kernel) (by decide +kernel) noLate_nil (go_yields w_none (fun w hS => m_fieldAddr Try.underlying66 (hi := ti43))) ?_
      try simp only [opv, n1, n2, n3, n4, Value.cells, Nat.zero_add, Nat.add_zero, List.getElem_toArray, List.getElem_cons_zero, List.getElem_cons_succ]
      refine any_go (i := 3) (by rfl) (by decide +kernel) (by decide +kernel) noLate_nil (go_yields w_none (fun w hS => m_load_obj Try.underlying43 (hS := hS))) ?_
      try simp only [opv, n1, n2, n3, n4, Value.cells, List.getElem_toArray, List.getElem_cons_zero, List.getElem_cons_succ]
      refine any_go (i := 4) (by rfl) (by decide +kernel) (by decide +kernel) noLate_nil (go_yields w_none (fun w hS => m_indexAddr_rd Try.underlying43 ti5 (hS := hS))) ?_
      try simp only [opv, n1, n2, n3, n4, Value.cells, Nat.mul_one, Nat.zero_add, Int.toNat_natCast, Int.reduceToNat]
      refine any_go (i := 5) (by rfl) (by decide +kernel) (by decide +kernel) noLate_nil (go_yields w_none (fun w hS => m_load_rd Try.underlying5 (hS := hS))) ?_
      try simp only [opv, n1, n2, n3, n4, Value.cells, List.getElem_toArray, List.getElem_cons_zero, List.getElem_cons_succ]
      refine any_go (i := 6) (by rfl) (by decide +kernel) (by decide +kernel) noLate_nil (go_yields w_none (fun w hS => s_move)) ?_
      try simp only [opv, n1, n2, n3, n4, Value.cells]
      refine any_go (i := 7) (by rfl) (by decide +kernel) (by decide +kernel) noLate_nil (go_yields w_none (fun w hS => s_nilCheck)) ?_
      try simp only [opv, n1, n2, n3, n4, Value.cells]
      refine any_go (i := 8) (by rfl) (by decide +kernel) (by decide +kernel) noLate_nil (go_yields w_none (fun w hS => m_fieldAddr Try.underlying66 (hi := ti43))) ?_
      try simp only [opv, n1, n2, n3, n4, Value.cells, Nat.zero_add, Nat.add_zero, List.getElem_toArray, List.getElem_cons_zero, List.getElem_cons_succ]
      refine any_go (i := 9) (by rfl) (by decide +kernel) (by decide +kernel) noLate_nil (go_yields w_none (fun w hS => m_load_obj Try.underlying43 (hS := hS))) ?_
      try simp only [opv, n1, n2, n3, n4, Value.cells, List.getElem_toArray, List.getElem_cons_zero, List.getElem_cons_succ]
      refine any_go (i := 11) (by rfl) (by decide +kernel) (by decide +kernel) noLate_nil (go_yields w_none (fun w hS => m_fieldAddr Try.underlying45 (hi := ti5))) ?_
      try simp only [opv, n1, n2, n3, n4, Value.cells, Nat.zero_add, Nat.add_zero, List.getElem_toArray, List.getElem_cons_zero, List.getElem_cons_succ]
      refine any_step [10, 12] (by kernel_rfl) (by decide) (fun w22 hE => ⟨fun _ => (hS.ext hE).sel (by repeat (first | exact Sel.nil | (refine Sel.cons (by repeat (first | exact Del.head | apply Del.tail)) ?_))), ?_⟩)
      replace hS := hS.ext hE
      intro i hi
      simp only [List.mem_cons, List.not_mem_nil, or_false] at hi
      rcases hi with rfl | rfl
      ·
       refine any_op (by rfl) ?_
       refine m_slice_rd (lo := 1) (hi := xs.length) (m := c) Try.underlying43 ti5 (hlo := ⟨_, rfl⟩) (hhi := ⟨rfl, rfl⟩) (hmx := rfl) (hS := hS) (h := fun A1 hA1 hS => ?_)
       try simp only [Nat.mul_one, Nat.zero_mul] at hA1
       try simp only [← List.map_append, ← List.map_drop, ← List.map_take, Nat.mul_one, Nat.zero_mul, Nat.sub_zero, List.drop_zero, List.nil_append, Nat.zero_add] at hS ⊢
       try simp only [opv, n1, n2, n3, n4, Value.cells, Array.toArray_toList] at hS ⊢
       refine x_nil ?_
       refine any_step [12] (by kernel_rfl) (by decide) (fun w23 hE => ⟨fun _ => (hS.ext hE).sel (by repeat (first | exact Sel.nil | (refine Sel.cons (by repeat (first | exact Del.head | apply Del.tail)) ?_))), ?_⟩)
       replace hS := hS.ext hE
       intro i hi
       simp only [List.mem_cons, List.not_mem_nil, or_false] at hi
       subst hi
       ·
        refine any_op (by rfl) ?_
        refine m_store_obj ti5 (hS := hS) (h := fun w24 hS => ?_)
        try simp only [opv, n1, n2, n3, n4, Value.cells, Array.toArray_toList] at hS ⊢
        refine x_nil ?_
        refine any_go (i := 13) (by rfl) (by decide +kernel) (by decide +kernel) noLate_nil (go_yields w_none (fun w hS => s_assign)) ?_
        try simp only [opv, n1, n2, n3, n4, Value.cells]
        refine any_nil (by kernel_rfl) (fun w25 hE => ?_)
        replace hS := hS.ext hE
        refine ⟨fun _ => hS.sel (by repeat (first | exact Sel.nil | (refine Sel.cons (by repeat (first | exact Del.head | apply Del.tail)) ?_))), ?_⟩
        refine mix_leaf (by simp only [clob, List.foldl, n1, n2, n3, n4]) ?_
        try simp only [n1, n2]
        exact ⟨_, rfl, by assumption, hS.sel (by repeat (first | exact Sel.nil | (refine Sel.cons (by repeat (first | exact Del.head | apply Del.tail)) ?_)))⟩
      ·
       refine any_op (by rfl) ?_
       refine m_store_obj ti5 (hS := hS) (h := fun w26 hS => ?_)
       try simp only [opv, n1, n2, n3, n4, Value.cells, Array.toArray_toList] at hS ⊢
       refine x_nil ?_
       refine any_step [10] (by kernel_rfl) (by decide) (fun w27 hE => ⟨fun _ => (hS.ext hE).sel (by repeat (first | exact Sel.nil | (refine Sel.cons (by repeat (first | exact Del.head | apply Del.tail)) ?_))), ?_⟩)
       replace hS := hS.ext hE
       intro i hi
       simp only [List.mem_cons, List.not_mem_nil, or_false] at hi
       subst hi
       ·
        refine any_op (by rfl) ?_
        refine m_slice_rd (lo := 1) (hi := xs.length) (m := c) Try.underlying43 ti5 (hlo := ⟨_, rfl⟩) (hhi := ⟨rfl, rfl⟩) (hmx := rfl) (hS := hS) (h := fun A2 hA2 hS => ?_)
        try simp only [Nat.mul_one, Nat.zero_mul] at hA2
        try simp only [← List.map_append, ← List.map_drop, ← List.map_take, Nat.mul_one, Nat.zero_mul, Nat.sub_zero, List.drop_zero, List.nil_append, Nat.zero_add] at hS ⊢
        try simp only [opv, n1, n2, n3, n4, Value.cells, Array.toArray_toList] at hS ⊢
        refine x_nil ?_
        refine any_go (i := 13) (by rfl) (by decide +kernel) (by decide +kernel) noLate_nil (go_yields w_none (fun w hS => s_assign)) ?_
        try simp only [opv, n1, n2, n3, n4, Value.cells]
        refine any_nil (by kernel_rfl) (fun w28 hE => ?_)
        replace hS := hS.ext hE
        refine ⟨fun _ => hS.sel (by repeat (first | exact Sel.nil | (refine Sel.cons (by repeat (first | exact Del.head | apply Del.tail)) ?_))), ?_⟩
        refine mix_leaf (by simp only [clob, List.foldl, n1, n2, n3, n4]) ?_
        try simp only [n1, n2]
        exact ⟨_, rfl, by assumption, hS.sel (by repeat (first | exact Sel.nil | (refine Sel.cons (by repeat (first | exact Del.head | apply Del.tail)) ?_)))⟩
     intro fm2 w29 hM
     obtain ⟨B, h6, hB, hS⟩ := hM
     simp only [clob, List.foldl, n3, n4, h6]
     refine hK7 _ _ ?_
     refine x_seq fun K22 hK22 => ?_
     refine x_seq fun K23 hK23 => ?_
     refine x_region ?_
     refine s_go (s_move) ?_
     try simp only [opv, n1, n2, n3, n4, Value.cells]
     refine s_go (s_neq) ?_
     try simp only [opv, n1, n2, n3, n4, Value.cells]
     refine x_nil ?_
     refine hK23 _ _ ?_
     refine x_cond_f (h := ?_)
     skip
     refine x_skip ?_
     refine hK22 _ _ ?_
     refine x_seq fun K24 hK24 => ?_
     refine x_region ?_
     refine s_go (s_move) ?_
     try simp only [opv, n1, n2, n3, n4, Value.cells]
     refine s_go (s_move) ?_
     try simp only [opv, n1, n2, n3, n4, Value.cells]
     refine s_go (s_nilCheck) ?_
     try simp only [opv, n1, n2, n3, n4, Value.cells]
     refine s_go (m_fieldAddr Try.underlying66 (hi := ti43)) ?_
     try simp only [opv, n1, n2, n3, n4, Value.cells, Nat.zero_add, Nat.add_zero, List.getElem_toArray, List.getElem_cons_zero, List.getElem_cons_succ]
     refine m_store_obj ti43 (hS := hS) (h := fun w30 hS => ?_)
     try simp only [opv, n1, n2, n3, n4, Value.cells, Array.toArray_toList] at hS ⊢
     refine x_nil ?_
     refine hK24 _ _ ?_
     refine x_seq fun K25 hK25 => ?_
     refine x_region ?_
     refine s_go (m_load_row Try.underlying45 (hi := ti45) (hS := hS)) ?_
     try simp only [opv, n1, n2, n3, n4, Value.cells, List.getElem_toArray, List.getElem_cons_zero, List.getElem_cons_succ]
     refine m_store_obj ti45 (hS := hS) (h := fun w31 hS => ?_)
     try simp only [opv, n1, n2, n3, n4, Value.cells, Array.toArray_toList] at hS ⊢
     refine x_nil ?_
     refine hK25 _ _ ?_
     refine x_ret ?_
     refine r_cell_agg rfl Try.underlying45 ti45 (hS := hS) (hR := ?_)
     have hcpo : (xs.drop (1)).length ≤ c - (1) := by simp; omega
     have hRo : RdIn w0 [.obj g (.cells #[.slice A xs.length c, .int .i64 0] 66 (0, 0)), .rd A 1 xs.length (xs.map (Value.int .u8))] B (xs.drop (1)).length := RdIn.sub (List.mem_cons_of_mem _ (List.mem_cons_self ..)) (fun h => by simp at h; exact ⟨by omega, hB (by omega)⟩)
     replace hS := (hS.rd_drop (by repeat (first | exact Has.head | apply Has.tail)) (1) (by omega) B hB).rd_none none 1
     try rw [← List.length_drop] at hS
     exact ⟨_, _, by rw [hz]; rfl, by rw [hz]; exact RdIn.none _ _ _, _, _, by rw [hz]; exact hcpo, by rw [hz]; exact hRo, by rw [hz]; exact hS.sel (by repeat (first | exact Sel.nil | (refine Sel.cons (by repeat (first | exact Del.head | apply Del.tail)) ?_)))⟩
   ·
    try simp only [decide_eq_true_eq, decide_eq_false_iff_not, Bool.not_eq_true', Bool.not_eq_false', Int.not_lt, Int.not_le, ne_eq, Decidable.not_not, bne_iff_ne, beq_iff_eq, not_true_eq_false, not_false_eq_true] at hc4
    have h1 : ¬ p.d = 1 := hc4
    refine x_seq fun K26 hK26 => ?_
    refine x_region ?_
    refine s_go (s_eql) ?_
    try simp only [opv, n1, n2, n3, n4, Value.cells]
    refine s_go (s_assign) ?_
    try simp only [opv, n1, n2, n3, n4, Value.cells]
    refine x_nil ?_
    refine hK26 _ _ ?_
    refine x_cond (ht := fun hc8 => ?_) (hf := fun hc8 => ?_)
    ·
     try simp only [decide_eq_true_eq, decide_eq_false_iff_not, Bool.not_eq_true', Bool.not_eq_false', Int.not_lt, Int.not_le, ne_eq, Decidable.not_not, bne_iff_ne, beq_iff_eq, not_true_eq_false, not_false_eq_true] at hc8
     have h2 : p.d = 2 := hc8
     refine x_seq fun K27 hK27 => ?_
     refine x_seq fun K28 hK28 => ?_
     refine x_region ?_
     refine s_go (s_move) ?_
     try simp only [opv, n1, n2, n3, n4, Value.cells]
     refine s_go (s_nilCheck) ?_
     try simp only [opv, n1, n2, n3, n4, Value.cells]
     refine s_go (m_fieldAddr Try.underlying66 (hi := ti43)) ?_
     try simp only [opv, n1, n2, n3, n4, Value.cells, Nat.zero_add, Nat.add_zero, List.getElem_toArray, List.getElem_cons_zero, List.getElem_cons_succ]
     refine s_go (m_load_obj Try.underlying43 (hS := hS)) ?_
     try simp only [opv, n1, n2, n3, n4, Value.cells, List.getElem_toArray, List.getElem_cons_zero, List.getElem_cons_succ]
     refine s_go (s_len_sl Try.underlying43) ?_
     try simp only [opv, n1, n2, n3, n4, Value.cells]
     refine s_go (s_eql) ?_
     try simp only [opv, n1, n2, n3, n4, Value.cells]
     refine x_nil ?_
     refine hK28 _ _ ?_
     refine x_cond (ht := fun hc9 => ?_) (hf := fun hc9 => ?_)
     ·
      try simp only [decide_eq_true_eq, decide_eq_false_iff_not, Bool.not_eq_true', Bool.not_eq_false', Int.not_lt, Int.not_le, ne_eq, Decidable.not_not, bne_iff_ne, beq_iff_eq, not_true_eq_false, not_false_eq_true] at hc9
      have hz := rdS_2 (x := p.x) (n := p.n) h0 h1 h2 (namS_short (xs := xs) (by omega))
      refine x_seq fun K29 hK29 => ?_
      refine x_region ?_
      refine s_go (s_assign) ?_
      try simp only [opv, n1, n2, n3, n4, Value.cells]
      refine x_nil ?_
      refine hK29 _ _ ?_
      refine x_exit (look_here ?_)
      refine hK7 _ _ ?_
      refine x_seq fun K30 hK30 => ?_
      refine x_seq fun K31 hK31 => ?_
      refine x_region ?_
      refine s_go (s_move) ?_
      try simp only [opv, n1, n2, n3, n4, Value.cells]
      refine s_go (s_neq) ?_
      try simp only [opv, n1, n2, n3, n4, Value.cells]
      refine x_nil ?_
      refine hK31 _ _ ?_
      refine x_cond_t (h := ?_)
      skip
      refine x_seq fun K32 hK32 => ?_
      refine x_region ?_
      refine s_go (s_move) ?_
      try simp only [opv, n1, n2, n3, n4, Value.cells]
      refine s_go (s_move) ?_
      try simp only [opv, n1, n2, n3, n4, Value.cells]
      refine s_go (s_move) ?_
      try simp only [opv, n1, n2, n3, n4, Value.cells]
      refine s_go (s_nilCheck) ?_
      try simp only [opv, n1, n2, n3, n4, Value.cells]
      refine s_go (m_fieldAddr Try.underlying66 (hi := ti43)) ?_
      try simp only [opv, n1, n2, n3, n4, Value.cells, Nat.zero_add, Nat.add_zero, List.getElem_toArray, List.getElem_cons_zero, List.getElem_cons_succ]
      refine m_store_obj ti43 (hS := hS) (h := fun w32 hS => ?_)
      try simp only [opv, n1, n2, n3, n4, Value.cells, Array.toArray_toList] at hS ⊢
      refine s_go (s_nilCheck) ?_
      try simp only [opv, n1, n2, n3, n4, Value.cells]
      refine s_go (m_fieldAddr Try.underlying66 (hi := ti53)) ?_
      try simp only [opv, n1, n2, n3, n4, Value.cells, Nat.zero_add, Nat.add_zero, List.getElem_toArray, List.getElem_cons_zero, List.getElem_cons_succ]
      refine m_store_obj ti53 (hS := hS) (h := fun w33 hS => ?_)
      try simp only [opv, n1, n2, n3, n4, Value.cells, Array.toArray_toList] at hS ⊢
      refine x_nil ?_
      refine hK32 _ _ ?_
      refine x_seq fun K33 hK33 => ?_
      refine x_region ?_
      refine s_go (m_fieldAddr Try.underlying45 (hi := ti3)) ?_
      try simp only [opv, n1, n2, n3, n4, Value.cells, Nat.zero_add, Nat.add_zero, List.getElem_toArray, List.getElem_cons_zero, List.getElem_cons_succ]
      refine s_go (m_load_obj Try.underlying3 (hS := hS)) ?_
      try simp only [opv, n1, n2, n3, n4, Value.cells, List.getElem_toArray, List.getElem_cons_zero, List.getElem_cons_succ]
      refine s_go (s_build_struct (cells := #[_, .int .u64 0, .int .u8 0, .int .u8 0, .int .u8 0, .int .u8 0, .int .u8 0, .int .u8 0, .int .u8 0, .int .u8 0, .int .u8 0, .slice none 0 0, .int .i64 0]) Try.underlying45 ti45 bp45 (hc := by simp only [List.map_toArray, List.map_cons, List.map_nil, opv, n1, n2, n3, n4, Value.cells, List.toList_toArray]; (repeat (refine fill_cons rfl rfl (Nat.le_of_ble_eq_true rfl) ?_)); rfl)) ?_
      try simp only [opv, n1, n2, n3, n4, Value.cells]
      refine m_store_obj ti45 (hS := hS) (h := fun w34 hS => ?_)
      try simp only [opv, n1, n2, n3, n4, Value.cells, Array.toArray_toList] at hS ⊢
      refine x_nil ?_
      refine hK33 _ _ ?_
      refine x_ret ?_
      refine r_cell_agg rfl Try.underlying45 ti45 (hS := hS) (hR := ?_)
      replace hS := (hS.rd_none none 1).rd_none none 1
      exact ⟨none, 0, by rw [hz]; rfl, by rw [hz]; exact RdIn.none _ _ _, none, 0, by rw [hz]; exact Nat.le_refl 0, by rw [hz]; exact RdIn.none _ _ _, by rw [hz]; exact hS.sel (by repeat (first | exact Sel.nil | (refine Sel.cons (by repeat (first | exact Del.head | apply Del.tail)) ?_)))⟩
     ·
      try simp only [decide_eq_true_eq, decide_eq_false_iff_not, Bool.not_eq_true', Bool.not_eq_false', Int.not_lt, Int.not_le, ne_eq, Decidable.not_not, bne_iff_ne, beq_iff_eq, not_true_eq_false, not_false_eq_true] at hc9
      have hl1 : 1 ≤ xs.length := by omega
      refine x_skip ?_
      refine hK27 _ _ ?_
      refine x_seq fun K34 hK34 => ?_
      refine x_region ?_
      refine s_go (s_move) ?_
      try simp only [opv, n1, n2, n3, n4, Value.cells]
      refine s_go (s_nilCheck) ?_
      try simp only [opv, n1, n2, n3, n4, Value.cells]
      refine s_go (m_fieldAddr Try.underlying66 (hi := ti43)) ?_
      try simp only [opv, n1, n2, n3, n4, Value.cells, Nat.zero_add, Nat.add_zero, List.getElem_toArray, List.getElem_cons_zero, List.getElem_cons_succ]
      refine s_go (m_load_obj Try.underlying43 (hS := hS)) ?_
      try simp only [opv, n1, n2, n3, n4, Value.cells, List.getElem_toArray, List.getElem_cons_zero, List.getElem_cons_succ]
      refine s_go (m_indexAddr_rd Try.underlying43 ti5 (hS := hS)) ?_
      try simp only [opv, n1, n2, n3, n4, Value.cells, Nat.mul_one, Nat.zero_add, Int.toNat_natCast, Int.reduceToNat]
      refine s_go (m_load_rd Try.underlying5 (hS := hS)) ?_
      try simp only [opv, n1, n2, n3, n4, Value.cells, List.getElem_toArray, List.getElem_cons_zero, List.getElem_cons_succ]
      have hgb := hw.get 0
      obtain ⟨k, hk⟩ := Int.eq_ofNat_of_zero_le hgb.1
      rw [hk] at hgb ⊢
      refine s_go (s_conv Try.underlying5 Try.underlying3 (hc := by exact wr_i64 (by omega) (by omega))) ?_
      try simp only [opv, n1, n2, n3, n4, Value.cells]
      refine s_go (s_assign) ?_
      try simp only [opv, n1, n2, n3, n4, Value.cells]
      refine x_nil ?_
      refine hK34 _ _ ?_
      refine x_seq fun K35 hK35 => ?_
      refine x_region ?_
      refine s_go (s_move) ?_
      try simp only [opv, n1, n2, n3, n4, Value.cells]
      refine s_go (s_gtr) ?_
      try simp only [opv, n1, n2, n3, n4, Value.cells]
      refine x_nil ?_
      refine hK35 _ _ ?_
      refine x_cond (ht := fun hc11 => ?_) (hf := fun hc11 => ?_)
      ·
       try simp only [decide_eq_true_eq, decide_eq_false_iff_not, Bool.not_eq_true', Bool.not_eq_false', Int.not_lt, Int.not_le, ne_eq, Decidable.not_not, bne_iff_ne, beq_iff_eq, not_true_eq_false, not_false_eq_true] at hc11
       have hz := rdS_2 (x := p.x) (n := p.n) h0 h1 h2 (namS_long hl1 (by omega))
       refine x_region ?_
       refine s_go (s_assign) ?_
       try simp only [opv, n1, n2, n3, n4, Value.cells]
       refine x_nil ?_
       refine hK7 _ _ ?_
       refine x_seq fun K36 hK36 => ?_
       refine x_seq fun K37 hK37 => ?_
       refine x_region ?_
       refine s_go (s_move) ?_
       try simp only [opv, n1, n2, n3, n4, Value.cells]
       refine s_go (s_neq) ?_
       try simp only [opv, n1, n2, n3, n4, Value.cells]
       refine x_nil ?_
       refine hK37 _ _ ?_
       refine x_cond_t (h := ?_)
       skip
       refine x_seq fun K38 hK38 => ?_
       refine x_region ?_
       refine s_go (s_move) ?_
       try simp only [opv, n1, n2, n3, n4, Value.cells]
       refine s_go (s_move) ?_
       try simp only [opv, n1, n2, n3, n4, Value.cells]
       refine s_go (s_move) ?_
       try simp only [opv, n1, n2, n3, n4, Value.cells]
       refine s_go (s_nilCheck) ?_
       try simp only [opv, n1, n2, n3, n4, Value.cells]
       refine s_go (m_fieldAddr Try.underlying66 (hi := ti43)) ?_
       try simp only [opv, n1, n2, n3, n4, Value.cells, Nat.zero_add, Nat.add_zero, List.getElem_toArray, List.getElem_cons_zero, List.getElem_cons_succ]
       refine m_store_obj ti43 (hS := hS) (h := fun w35 hS => ?_)
       try simp only [opv, n1, n2, n3, n4, Value.cells, Array.toArray_toList] at hS ⊢
       refine s_go (s_nilCheck) ?_
       try simp only [opv, n1, n2, n3, n4, Value.cells]
       refine s_go (m_fieldAddr Try.underlying66 (hi := ti53)) ?_
       try simp only [opv, n1, n2, n3, n4, Value.cells, Nat.zero_add, Nat.add_zero, List.getElem_toArray, List.getElem_cons_zero, List.getElem_cons_succ]
       refine m_store_obj ti53 (hS := hS) (h := fun w36 hS => ?_)
       try simp only [opv, n1, n2, n3, n4, Value.cells, Array.toArray_toList] at hS ⊢
       refine x_nil ?_
       refine hK38 _ _ ?_
       refine x_seq fun K39 hK39 => ?_
       refine x_region ?_
       refine s_go (m_fieldAddr Try.underlying45 (hi := ti3)) ?_
       try simp only [opv, n1, n2, n3, n4, Value.cells, Nat.zero_add, Nat.add_zero, List.getElem_toArray, List.getElem_cons_zero, List.getElem_cons_succ]
       refine s_go (m_load_obj Try.underlying3 (hS := hS)) ?_
       try simp only [opv, n1, n2, n3, n4, Value.cells, List.getElem_toArray, List.getElem_cons_zero, List.getElem_cons_succ]
       refine s_go (s_build_struct (cells := #[_, .int .u64 0, .int .u8 0, .int .u8 0, .int .u8 0, .int .u8 0, .int .u8 0, .int .u8 0, .int .u8 0, .int .u8 0, .int .u8 0, .slice none 0 0, .int .i64 0]) Try.underlying45 ti45 bp45 (hc := by simp only [List.map_toArray, List.map_cons, List.map_nil, opv, n1, n2, n3, n4, Value.cells, List.toList_toArray]; (repeat (refine fill_cons rfl rfl (Nat.le_of_ble_eq_true rfl) ?_)); rfl)) ?_
       try simp only [opv, n1, n2, n3, n4, Value.cells]
       refine m_store_obj ti45 (hS := hS) (h := fun w37 hS => ?_)
       try simp only [opv, n1, n2, n3, n4, Value.cells, Array.toArray_toList] at hS ⊢
       refine x_nil ?_
       refine hK39 _ _ ?_
       refine x_ret ?_
       refine r_cell_agg rfl Try.underlying45 ti45 (hS := hS) (hR := ?_)
       replace hS := (hS.rd_none none 1).rd_none none 1
       exact ⟨none, 0, by rw [hz]; rfl, by rw [hz]; exact RdIn.none _ _ _, none, 0, by rw [hz]; exact Nat.le_refl 0, by rw [hz]; exact RdIn.none _ _ _, by rw [hz]; exact hS.sel (by repeat (first | exact Sel.nil | (refine Sel.cons (by repeat (first | exact Del.head | apply Del.tail)) ?_)))⟩
      ·
       try simp only [decide_eq_true_eq, decide_eq_false_iff_not, Bool.not_eq_true', Bool.not_eq_false', Int.not_lt, Int.not_le, ne_eq, Decidable.not_not, bne_iff_ne, beq_iff_eq, not_true_eq_false, not_false_eq_true] at hc11
       refine x_seq fun K40 hK40 => ?_
       refine x_region ?_
       refine s_go (s_move) ?_
       try simp only [opv, n1, n2, n3, n4, Value.cells]
       refine s_go (s_nilCheck) ?_
       try simp only [opv, n1, n2, n3, n4, Value.cells]
       refine s_go (m_fieldAddr Try.underlying66 (hi := ti43)) ?_
       try simp only [opv, n1, n2, n3, n4, Value.cells, Nat.zero_add, Nat.add_zero, List.getElem_toArray, List.getElem_cons_zero, List.getElem_cons_succ]
       refine s_go (m_load_obj Try.underlying43 (hS := hS)) ?_
       try simp only [opv, n1, n2, n3, n4, Value.cells, List.getElem_toArray, List.getElem_cons_zero, List.getElem_cons_succ]
       refine s_go (s_len_sl Try.underlying43) ?_
       try simp only [opv, n1, n2, n3, n4, Value.cells]
       refine s_go (s_move) ?_
       try simp only [opv, n1, n2, n3, n4, Value.cells]
       refine s_go (s_add (hc := by exact wr_i64 (by omega) (by omega))) ?_
       try simp only [opv, n1, n2, n3, n4, Value.cells]
       refine s_go (s_lss) ?_
       try simp only [opv, n1, n2, n3, n4, Value.cells]
       refine x_nil ?_
       refine hK40 _ _ ?_
       refine x_cond (ht := fun hc13 => ?_) (hf := fun hc13 => ?_)
       ·
        try simp only [decide_eq_true_eq, decide_eq_false_iff_not, Bool.not_eq_true', Bool.not_eq_false', Int.not_lt, Int.not_le, ne_eq, Decidable.not_not, bne_iff_ne, beq_iff_eq, not_true_eq_false, not_false_eq_true] at hc13
        have hz := rdS_2 (x := p.x) (n := p.n) h0 h1 h2 (namS_cut hl1 hk (by omega) (by simp; omega))
        refine x_region ?_
        refine s_go (s_assign) ?_
        try simp only [opv, n1, n2, n3, n4, Value.cells]
        refine x_nil ?_
        refine hK7 _ _ ?_
        refine x_seq fun K41 hK41 => ?_
        refine x_seq fun K42 hK42 => ?_
        refine x_region ?_
        refine s_go (s_move) ?_
        try simp only [opv, n1, n2, n3, n4, Value.cells]
        refine s_go (s_neq) ?_
        try simp only [opv, n1, n2, n3, n4, Value.cells]
        refine x_nil ?_
        refine hK42 _ _ ?_
        refine x_cond_t (h := ?_)
        skip
        refine x_seq fun K43 hK43 => ?_
        refine x_region ?_
        refine s_go (s_move) ?_
        try simp only [opv, n1, n2, n3, n4, Value.cells]
        refine s_go (s_move) ?_
        try simp only [opv, n1, n2, n3, n4, Value.cells]
        refine s_go (s_move) ?_
        try simp only [opv, n1, n2, n3, n4, Value.cells]
        refine s_go (s_nilCheck) ?_
        try simp only [opv, n1, n2, n3, n4, Value.cells]
        refine s_go (m_fieldAddr Try.underlying66 (hi := ti43)) ?_
        try simp only [opv, n1, n2, n3, n4, Value.cells, Nat.zero_add, Nat.add_zero, List.getElem_toArray, List.getElem_cons_zero, List.getElem_cons_succ]
        refine m_store_obj ti43 (hS := hS) (h := fun w38 hS => ?_)
        try simp only [opv, n1, n2, n3, n4, Value.cells, Array.toArray_toList] at hS ⊢
        refine s_go (s_nilCheck) ?_
        try simp only [opv, n1, n2, n3, n4, Value.cells]
        refine s_go (m_fieldAddr Try.underlying66 (hi := ti53)) ?_
        try simp only [opv, n1, n2, n3, n4, Value.cells, Nat.zero_add, Nat.add_zero, List.getElem_toArray, List.getElem_cons_zero, List.getElem_cons_succ]
        refine m_store_obj ti53 (hS := hS) (h := fun w39 hS => ?_)
        try simp only [opv, n1, n2, n3, n4, Value.cells, Array.toArray_toList] at hS ⊢
        refine x_nil ?_
        refine hK43 _ _ ?_
        refine x_seq fun K44 hK44 => ?_
        refine x_region ?_
        refine s_go (m_fieldAddr Try.underlying45 (hi := ti3)) ?_
        try simp only [opv, n1, n2, n3, n4, Value.cells, Nat.zero_add, Nat.add_zero, List.getElem_toArray, List.getElem_cons_zero, List.getElem_cons_succ]
        refine s_go (m_load_obj Try.underlying3 (hS := hS)) ?_
        try simp only [opv, n1, n2, n3, n4, Value.cells, List.getElem_toArray, List.getElem_cons_zero, List.getElem_cons_succ]
        refine s_go (s_build_struct (cells := #[_, .int .u64 0, .int .u8 0, .int .u8 0, .int .u8 0, .int .u8 0, .int .u8 0, .int .u8 0, .int .u8 0, .int .u8 0, .int .u8 0, .slice none 0 0, .int .i64 0]) Try.underlying45 ti45 bp45 (hc := by simp only [List.map_toArray, List.map_cons, List.map_nil, opv, n1, n2, n3, n4, Value.cells, List.toList_toArray]; (repeat (refine fill_cons rfl rfl (Nat.le_of_ble_eq_true rfl) ?_)); rfl)) ?_
        try simp only [opv, n1, n2, n3, n4, Value.cells]
        refine m_store_obj ti45 (hS := hS) (h := fun w40 hS => ?_)
        try simp only [opv, n1, n2, n3, n4, Value.cells, Array.toArray_toList] at hS ⊢
        refine x_nil ?_
        refine hK44 _ _ ?_
        refine x_ret ?_
        refine r_cell_agg rfl Try.underlying45 ti45 (hS := hS) (hR := ?_)
        replace hS := (hS.rd_none none 1).rd_none none 1
        exact ⟨none, 0, by rw [hz]; rfl, by rw [hz]; exact RdIn.none _ _ _, none, 0, by rw [hz]; exact Nat.le_refl 0, by rw [hz]; exact RdIn.none _ _ _, by rw [hz]; exact hS.sel (by repeat (first | exact Sel.nil | (refine Sel.cons (by repeat (first | exact Del.head | apply Del.tail)) ?_)))⟩
       ·
        try simp only [decide_eq_true_eq, decide_eq_false_iff_not, Bool.not_eq_true', Bool.not_eq_false', Int.not_lt, Int.not_le, ne_eq, Decidable.not_not, bne_iff_ne, beq_iff_eq, not_true_eq_false, not_false_eq_true] at hc13
        have h3 : k ≤ (xs.drop 1).length := by simp; omega
        have htb : Byt ((xs.drop 1).take k) := (hw.drop 1).take k
        have htl : ((xs.drop 1).take k).length = k := by simp; omega
        refine x_seq fun K45 hK45 => ?_
        refine x_region ?_
        refine s_go (s_move) ?_
        try simp only [opv, n1, n2, n3, n4, Value.cells]
        refine s_go (s_nilCheck) ?_
        try simp only [opv, n1, n2, n3, n4, Value.cells]
        refine s_go (m_fieldAddr Try.underlying66 (hi := ti43)) ?_
        try simp only [opv, n1, n2, n3, n4, Value.cells, Nat.zero_add, Nat.add_zero, List.getElem_toArray, List.getElem_cons_zero, List.getElem_cons_succ]
        refine s_go (m_load_obj Try.underlying43 (hS := hS)) ?_
        try simp only [opv, n1, n2, n3, n4, Value.cells, List.getElem_toArray, List.getElem_cons_zero, List.getElem_cons_succ]
        refine s_go (s_move) ?_
        try simp only [opv, n1, n2, n3, n4, Value.cells]
        refine s_go (s_add (hc := by exact wr_i64 (by omega) (by omega))) ?_
        try simp only [opv, n1, n2, n3, n4, Value.cells]
        rw [show (1 : Int) + (k : Int) = ((1 + k : Nat) : Int) by omega]
        refine m_slice_rd (lo := 1) (hi := 1 + k) (m := c) Try.underlying43 ti5 (hlo := ⟨_, rfl⟩) (hhi := ⟨_, rfl⟩) (hmx := rfl) (hS := hS) (h := fun A3 hA3 hS => ?_)
        try simp only [Nat.mul_one, Nat.zero_mul] at hA3
        try simp only [← List.map_append, ← List.map_drop, ← List.map_take, Nat.mul_one, Nat.zero_mul, Nat.sub_zero, List.drop_zero, List.nil_append, Nat.zero_add] at hS ⊢
        try simp only [opv, n1, n2, n3, n4, Value.cells, Array.toArray_toList] at hS ⊢
        rw [show 1 + k - 1 = k by omega] at hS ⊢
        obtain ⟨ns, hns⟩ : ∃ ns, (xs.drop 1).take k = ns := ⟨_, rfl⟩
        rw [hns] at htb htl hS
        have hpl := padN_len ns
        refine s_go (m_bytes_str Try.underlying43 Try.underlying9 Try.underlying5 (hS := hS)) ?_
        try simp only [opv, n1, n2, n3, n4, Value.cells]
        refine s_go (s_assign) ?_
        try simp only [opv, n1, n2, n3, n4, Value.cells]
        refine x_nil ?_
        refine hK45 _ _ ?_
        refine x_seq fun K46 hK46 => ?_
        refine x_region ?_
        refine s_go (s_move) ?_
        try simp only [opv, n1, n2, n3, n4, Value.cells]
        refine s_go (s_gtr) ?_
        try simp only [opv, n1, n2, n3, n4, Value.cells]
        refine s_go (s_move) ?_
        try simp only [opv, n1, n2, n3, n4, Value.cells]
        refine s_part 129 rfl (fun hp1 => ?_) (fun hp1 => ?_)
        ·
         try simp only [n3, n4]
         try simp only [decide_eq_true_eq, decide_eq_false_iff_not, Bool.not_eq_true', Bool.not_eq_false', Int.not_lt, Int.not_le, ne_eq, Decidable.not_not] at hp1
         refine g_on (yi (t := 129) rfl rfl) ?_
         refine s_go (s_move) ?_
         try simp only [opv, n1, n2, n3, n4, Value.cells]
         refine g_on (yi (t := 129) rfl rfl) ?_
         refine s_call en117 ?_
         try simp only [opv, n1, n2, n3, n4, Value.cells, List.map_toArray, List.map_cons, List.map_nil, List.append_toArray, List.cons_append, List.nil_append, Array.append_empty]
         refine CallR.mono (c_ref06Is _ (by assumption) (by omega) _) ?_
         rintro _ w41 ⟨rfl, hE41⟩
         replace hS := hS.ext hE41
         try simp only [opv, n1, n2, n3, n4, Value.cells]
         refine g_on (yi (t := 129) rfl rfl) ?_
         refine s_go (s_not) ?_
         try simp only [opv, n1, n2, n3, n4, Value.cells]
         refine s_go (s_pick_t) ?_
         try simp only [opv, n1, n2, n3, n4, Value.cells]
         refine x_nil ?_
         refine hK46 _ _ ?_
         refine x_cond (ht := fun hc15 => ?_) (hf := fun hc15 => ?_)
         ·
          try simp only [decide_eq_true_eq, decide_eq_false_iff_not, Bool.not_eq_true', Bool.not_eq_false', Int.not_lt, Int.not_le, ne_eq, Decidable.not_not, bne_iff_ne, beq_iff_eq, not_true_eq_false, not_false_eq_true] at hc15
          have hz := rdS_2 (x := p.x) (n := p.n) h0 h1 h2 (namS_no hl1 hk (by omega) h3 (by omega) (by rw [hns]; simpa using hc15))
          refine x_region ?_
          refine s_go (s_assign) ?_
          try simp only [opv, n1, n2, n3, n4, Value.cells]
          refine x_nil ?_
          refine hK7 _ _ ?_
          refine x_seq fun K47 hK47 => ?_
          refine x_seq fun K48 hK48 => ?_
          refine x_region ?_
          refine s_go (s_move) ?_
          try simp only [opv, n1, n2, n3, n4, Value.cells]
          refine s_go (s_neq) ?_
          try simp only [opv, n1, n2, n3, n4, Value.cells]
          refine x_nil ?_
          refine hK48 _ _ ?_
          refine x_cond_t (h := ?_)
          skip
          refine x_seq fun K49 hK49 => ?_
          refine x_region ?_
          refine s_go (s_move) ?_
          try simp only [opv, n1, n2, n3, n4, Value.cells]
          refine s_go (s_move) ?_
          try simp only [opv, n1, n2, n3, n4, Value.cells]
          refine s_go (s_move) ?_
          try simp only [opv, n1, n2, n3, n4, Value.cells]
          refine s_go (s_nilCheck) ?_
          try simp only [opv, n1, n2, n3, n4, Value.cells]
          refine s_go (m_fieldAddr Try.underlying66 (hi := ti43)) ?_
          try simp only [opv, n1, n2, n3, n4, Value.cells, Nat.zero_add, Nat.add_zero, List.getElem_toArray, List.getElem_cons_zero, List.getElem_cons_succ]
          refine m_store_obj ti43 (hS := hS) (h := fun w42 hS => ?_)
          try simp only [opv, n1, n2, n3, n4, Value.cells, Array.toArray_toList] at hS ⊢
          refine s_go (s_nilCheck) ?_
          try simp only [opv, n1, n2, n3, n4, Value.cells]
          refine s_go (m_fieldAddr Try.underlying66 (hi := ti53)) ?_
          try simp only [opv, n1, n2, n3, n4, Value.cells, Nat.zero_add, Nat.add_zero, List.getElem_toArray, List.getElem_cons_zero, List.getElem_cons_succ]
          refine m_store_obj ti53 (hS := hS) (h := fun w43 hS => ?_)
          try simp only [opv, n1, n2, n3, n4, Value.cells, Array.toArray_toList] at hS ⊢
          refine x_nil ?_
          refine hK49 _ _ ?_
          refine x_seq fun K50 hK50 => ?_
          refine x_region ?_
          refine s_go (m_fieldAddr Try.underlying45 (hi := ti3)) ?_
          try simp only [opv, n1, n2, n3, n4, Value.cells, Nat.zero_add, Nat.add_zero, List.getElem_toArray, List.getElem_cons_zero, List.getElem_cons_succ]
          refine s_go (m_load_obj Try.underlying3 (hS := hS)) ?_
          try simp only [opv, n1, n2, n3, n4, Value.cells, List.getElem_toArray, List.getElem_cons_zero, List.getElem_cons_succ]
          refine s_go (s_build_struct (cells := #[_, .int .u64 0, .int .u8 0, .int .u8 0, .int .u8 0, .int .u8 0, .int .u8 0, .int .u8 0, .int .u8 0, .int .u8 0, .int .u8 0, .slice none 0 0, .int .i64 0]) Try.underlying45 ti45 bp45 (hc := by simp only [List.map_toArray, List.map_cons, List.map_nil, opv, n1, n2, n3, n4, Value.cells, List.toList_toArray]; (repeat (refine fill_cons rfl rfl (Nat.le_of_ble_eq_true rfl) ?_)); rfl)) ?_
          try simp only [opv, n1, n2, n3, n4, Value.cells]
          refine m_store_obj ti45 (hS := hS) (h := fun w44 hS => ?_)
          try simp only [opv, n1, n2, n3, n4, Value.cells, Array.toArray_toList] at hS ⊢
          refine x_nil ?_
          refine hK50 _ _ ?_
          refine x_ret ?_
          refine r_cell_agg rfl Try.underlying45 ti45 (hS := hS) (hR := ?_)
          replace hS := (hS.rd_none none 1).rd_none none 1
          exact ⟨none, 0, by rw [hz]; rfl, by rw [hz]; exact RdIn.none _ _ _, none, 0, by rw [hz]; exact Nat.le_refl 0, by rw [hz]; exact RdIn.none _ _ _, by rw [hz]; exact hS.sel (by repeat (first | exact Sel.nil | (refine Sel.cons (by repeat (first | exact Del.head | apply Del.tail)) ?_)))⟩
         ·
          try simp only [decide_eq_true_eq, decide_eq_false_iff_not, Bool.not_eq_true', Bool.not_eq_false', Int.not_lt, Int.not_le, ne_eq, Decidable.not_not, bne_iff_ne, beq_iff_eq, not_true_eq_false, not_false_eq_true] at hc15
          have hz := rdS_2 (x := p.x) (n := p.n) h0 h1 h2 (namS_yes hl1 hk (by omega) h3 (.inr (by rw [hns]; simpa using hc15)))
          rw [hns, List.drop_drop] at hz
          refine x_mixed_c (Lc := [.obj g (.cells #[.slice A xs.length c, .int .i64 0] 66 (0, 0)), .rd A 1 xs.length (xs.map (Value.int .u8))]) [] 0 [6, 134, 135, 136, 137, 138, 139, 140, 141, 142, 143] (fun f w => ∃ B : Option Addr, f 6 = .slice B (xs.length - (1 + k)) (c - (1 + k)) ∧ (1 + k < xs.length → B = A.map (·.add (1 + k))) ∧ St (OwnB [.obj g (.cells #[.slice A xs.length c, .int .i64 0] 66 (0, 0)), .rd A 1 xs.length (xs.map (Value.int .u8))]) w0 w [.obj g3 (.cells (pA p.d 0 0 (padN ns) none 0 0 0) 45 (0, 0)), .obj g2 (.cells (pA 0 0 0 nm0 none 0 0 0) 45 (0, 0)), .obj g1 (.cells (pP p) 45 (0, 0)), .obj g (.cells #[.slice A xs.length c, .int .i64 0] 66 (0, 0)), .rd A 1 xs.length (xs.map (Value.int .u8))]) (by kernel_rfl) (by kernel_rfl) (by kernel_rfl) (by decide) hS (fun w45 hS => ?mixpre2903) ?mixrest2903
          case mixpre2903 =>
           refine p_nil ?_
           simp only [List.length_cons, List.length_nil, Nat.reduceAdd, Nat.reduceSub]
           refine any_go (i := 0) (by rfl) (by decide +kernel) (by decide +kernel) noLate_nil (go_yields w_none (fun w hS => s_move)) ?_
           try simp only [opv, n1, n2, n3, n4, Value.cells]
           apply any_go (i := 1) (by rfl) (by decide +kernel) (by decide +kernel) noLate_nil (call_yields w_none en119 ?H1) ?K1
           case H1 =>
             intro w hS
             try simp only [opv, n1, n2, n3, n4, List.map_toArray, List.map_cons, List.map_nil, List.append_toArray, List.cons_append, List.nil_append, Array.append_empty]
             refine CallR.mono (c_ref06Pad _ (by assumption) (by omega) _) ?_
             rintro _ w1 ⟨rfl, hE⟩; exact ⟨rfl, hE⟩
           try simp only [opv, n1, n2, n3, n4, Value.cells]
           refine any_go (i := 2) (by rfl) (by decide +kernel) (by decide +kernel) noLate_nil (go_yields w_none (fun w hS => s_move)) ?_
           try simp only [opv, n1, n2, n3, n4, Value.cells]
           refine any_go (i := 3) (by rfl) (by decide +kernel) (by decide +kernel) noLate_nil (go_yields w_none (fun w hS => s_nilCheck)) ?_
           try simp only [opv, n1, n2, n3, n4, Value.cells]
           refine any_go (i := 4) (by rfl) (by decide +kernel) (by decide +kernel) noLate_nil (go_yields w_none (fun w hS => m_fieldAddr Try.underlying66 (hi := ti43))) ?_
           try simp only [opv, n1, n2, n3, n4, Value.cells, Nat.zero_add, Nat.add_zero, List.getElem_toArray, List.getElem_cons_zero, List.getElem_cons_succ]
           refine any_go (i := 5) (by rfl) (by decide +kernel) (by decide +kernel) noLate_nil (go_yields w_none (fun w hS => m_load_obj Try.underlying43 (hS := hS))) ?_
           try simp only [opv, n1, n2, n3, n4, Value.cells, List.getElem_toArray, List.getElem_cons_zero, List.getElem_cons_succ]
           refine any_go (i := 6) (by rfl) (by decide +kernel) (by decide +kernel) noLate_nil (go_yields w_none (fun w hS => s_move)) ?_
           try simp only [opv, n1, n2, n3, n4, Value.cells]
           refine any_go (i := 7) (by rfl) (by decide +kernel) (by decide +kernel) noLate_nil (go_yields w_none (fun w hS => s_add (hc := by exact wr_i64 (by omega) (by omega)))) ?_
           try simp only [opv, n1, n2, n3, n4, Value.cells]
           rw [show (1 : Int) + (k : Int) = ((1 + k : Nat) : Int) by omega]
           refine any_go (i := 9) (by rfl) (by decide +kernel) (by decide +kernel) noLate_nil (go_yields w_none (fun w hS => m_fieldAddr Try.underlying45 (hi := ti42))) ?_
           try simp only [opv, n1, n2, n3, n4, Value.cells, Nat.zero_add, Nat.add_zero, List.getElem_toArray, List.getElem_cons_zero, List.getElem_cons_succ]
           refine any_step [8, 10] (by kernel_rfl) (by decide) (fun w46 hE => ⟨fun _ => (hS.ext hE).sel (by repeat (first | exact Sel.nil | (refine Sel.cons (by repeat (first | exact Del.head | apply Del.tail)) ?_))), ?_⟩)
           replace hS := hS.ext hE
           intro i hi
           simp only [List.mem_cons, List.not_mem_nil, or_false] at hi
           rcases hi with rfl | rfl
           ·
            refine any_op (by rfl) ?_
            refine m_slice_rd (lo := 1 + k) (hi := xs.length) (m := c) Try.underlying43 ti5 (hlo := ⟨_, rfl⟩) (hhi := ⟨rfl, rfl⟩) (hmx := rfl) (hS := hS) (h := fun A4 hA4 hS => ?_)
            try simp only [Nat.mul_one, Nat.zero_mul] at hA4
            try simp only [← List.map_append, ← List.map_drop, ← List.map_take, Nat.mul_one, Nat.zero_mul, Nat.sub_zero, List.drop_zero, List.nil_append, Nat.zero_add] at hS ⊢
            try simp only [opv, n1, n2, n3, n4, Value.cells, Array.toArray_toList] at hS ⊢
            refine x_nil ?_
            refine any_step [10] (by kernel_rfl) (by decide) (fun w47 hE => ⟨fun _ => (hS.ext hE).sel (by repeat (first | exact Sel.nil | (refine Sel.cons (by repeat (first | exact Del.head | apply Del.tail)) ?_))), ?_⟩)
            replace hS := hS.ext hE
            intro i hi
            simp only [List.mem_cons, List.not_mem_nil, or_false] at hi
            subst hi
            ·
             refine any_op (by rfl) ?_
             refine m_store_obj ti42 (hS := hS) (hc := pA_nm (padN_len ns)) (h := fun w48 hS => ?_)
             try simp only [opv, n1, n2, n3, n4, Value.cells, Array.toArray_toList] at hS ⊢
             refine x_nil ?_
             refine any_go (i := 11) (by rfl) (by decide +kernel) (by decide +kernel) noLate_nil (go_yields w_none (fun w hS => s_assign)) ?_
             try simp only [opv, n1, n2, n3, n4, Value.cells]
             refine any_nil (by kernel_rfl) (fun w49 hE => ?_)
             replace hS := hS.ext hE
             refine ⟨fun _ => hS.sel (by repeat (first | exact Sel.nil | (refine Sel.cons (by repeat (first | exact Del.head | apply Del.tail)) ?_))), ?_⟩
             refine mix_leaf (by simp only [clob, List.foldl, n1, n2, n3, n4]) ?_
             try simp only [n1, n2]
             exact ⟨_, rfl, by assumption, hS.sel (by repeat (first | exact Sel.nil | (refine Sel.cons (by repeat (first | exact Del.head | apply Del.tail)) ?_)))⟩
           ·
            refine any_op (by rfl) ?_
            refine m_store_obj ti42 (hS := hS) (hc := pA_nm (padN_len ns)) (h := fun w50 hS => ?_)
            try simp only [opv, n1, n2, n3, n4, Value.cells, Array.toArray_toList] at hS ⊢
            refine x_nil ?_
            refine any_step [8] (by kernel_rfl) (by decide) (fun w51 hE => ⟨fun _ => (hS.ext hE).sel (by repeat (first | exact Sel.nil | (refine Sel.cons (by repeat (first | exact Del.head | apply Del.tail)) ?_))), ?_⟩)
            replace hS := hS.ext hE
            intro i hi
            simp only [List.mem_cons, List.not_mem_nil, or_false] at hi
            subst hi
            ·
             refine any_op (by rfl) ?_
             refine m_slice_rd (lo := 1 + k) (hi := xs.length) (m := c) Try.underlying43 ti5 (hlo := ⟨_, rfl⟩) (hhi := ⟨rfl, rfl⟩) (hmx := rfl) (hS := hS) (h := fun A5 hA5 hS => ?_)
             try simp only [Nat.mul_one, Nat.zero_mul] at hA5
             try simp only [← List.map_append, ← List.map_drop, ← List.map_take, Nat.mul_one, Nat.zero_mul, Nat.sub_zero, List.drop_zero, List.nil_append, Nat.zero_add] at hS ⊢
             try simp only [opv, n1, n2, n3, n4, Value.cells, Array.toArray_toList] at hS ⊢
             refine x_nil ?_
             refine any_go (i := 11) (by rfl) (by decide +kernel) (by decide +kernel) noLate_nil (go_yields w_none (fun w hS => s_assign)) ?_
             try simp only [opv, n1, n2, n3, n4, Value.cells]
             refine any_nil (by kernel_rfl) (fun w52 hE => ?_)
             replace hS := hS.ext hE
             refine ⟨fun _ => hS.sel (by repeat (first | exact Sel.nil | (refine Sel.cons (by repeat (first | exact Del.head | apply Del.tail)) ?_))), ?_⟩
             refine mix_leaf (by simp only [clob, List.foldl, n1, n2, n3, n4]) ?_
             try simp only [n1, n2]
             exact ⟨_, rfl, by assumption, hS.sel (by repeat (first | exact Sel.nil | (refine Sel.cons (by repeat (first | exact Del.head | apply Del.tail)) ?_)))⟩
          intro fm3 w53 hM
          obtain ⟨B, h6, hB, hS⟩ := hM
          simp only [clob, List.foldl, n3, n4, h6]
          refine hK7 _ _ ?_
          refine x_seq fun K51 hK51 => ?_
          refine x_seq fun K52 hK52 => ?_
          refine x_region ?_
          refine s_go (s_move) ?_
          try simp only [opv, n1, n2, n3, n4, Value.cells]
          refine s_go (s_neq) ?_
          try simp only [opv, n1, n2, n3, n4, Value.cells]
          refine x_nil ?_
          refine hK52 _ _ ?_
          refine x_cond_f (h := ?_)
          skip
          refine x_skip ?_
          refine hK51 _ _ ?_
          refine x_seq fun K53 hK53 => ?_
          refine x_region ?_
          refine s_go (s_move) ?_
          try simp only [opv, n1, n2, n3, n4, Value.cells]
          refine s_go (s_move) ?_
          try simp only [opv, n1, n2, n3, n4, Value.cells]
          refine s_go (s_nilCheck) ?_
          try simp only [opv, n1, n2, n3, n4, Value.cells]
          refine s_go (m_fieldAddr Try.underlying66 (hi := ti43)) ?_
          try simp only [opv, n1, n2, n3, n4, Value.cells, Nat.zero_add, Nat.add_zero, List.getElem_toArray, List.getElem_cons_zero, List.getElem_cons_succ]
          refine m_store_obj ti43 (hS := hS) (h := fun w54 hS => ?_)
          try simp only [opv, n1, n2, n3, n4, Value.cells, Array.toArray_toList] at hS ⊢
          refine x_nil ?_
          refine hK53 _ _ ?_
          refine x_seq fun K54 hK54 => ?_
          refine x_region ?_
          refine s_go (m_load_row Try.underlying45 (hi := ti45) (hS := hS)) ?_
          try simp only [opv, n1, n2, n3, n4, Value.cells, List.getElem_toArray, List.getElem_cons_zero, List.getElem_cons_succ]
          refine m_store_obj ti45 (hS := hS) (h := fun w55 hS => ?_)
          try simp only [opv, n1, n2, n3, n4, Value.cells, Array.toArray_toList] at hS ⊢
          refine x_nil ?_
          refine hK54 _ _ ?_
          refine x_ret ?_
          refine r_cell_agg rfl Try.underlying45 ti45 (hS := hS) (hR := ?_)
          have hcpo : (xs.drop (1 + k)).length ≤ c - (1 + k) := by simp; omega
          have hRo : RdIn w0 [.obj g (.cells #[.slice A xs.length c, .int .i64 0] 66 (0, 0)), .rd A 1 xs.length (xs.map (Value.int .u8))] B (xs.drop (1 + k)).length := RdIn.sub (List.mem_cons_of_mem _ (List.mem_cons_self ..)) (fun h => by simp at h; exact ⟨by omega, hB (by omega)⟩)
          replace hS := (hS.rd_drop (by repeat (first | exact Has.head | apply Has.tail)) (1 + k) (by omega) B hB).rd_none none 1
          try rw [← List.length_drop] at hS
          exact ⟨_, _, by rw [hz]; rfl, by rw [hz]; exact RdIn.none _ _ _, _, _, by rw [hz]; exact hcpo, by rw [hz]; exact hRo, by rw [hz]; exact hS.sel (by repeat (first | exact Sel.nil | (refine Sel.cons (by repeat (first | exact Del.head | apply Del.tail)) ?_)))⟩
        ·
         try simp only [n3, n4]
         try simp only [decide_eq_true_eq, decide_eq_false_iff_not, Bool.not_eq_true', Bool.not_eq_false', Int.not_lt, Int.not_le, ne_eq, Decidable.not_not] at hp1
         have hk0 : k = 0 := by omega
         have hz := rdS_2 (x := p.x) (n := p.n) h0 h1 h2 (namS_yes hl1 hk (by omega) h3 (.inl hk0))
         refine g_off (yi (t := 129) rfl rfl) ?_
         try simp only [opv, n1, n2, n3, n4, Value.cells]
         refine g_off (yi (t := 129) rfl rfl) ?_
         try simp only [opv, n1, n2, n3, n4, Value.cells]
         refine g_off (yi (t := 129) rfl rfl) ?_
         try simp only [opv, n1, n2, n3, n4, Value.cells]
         refine s_go (s_pick_f) ?_
         try simp only [opv, n1, n2, n3, n4, Value.cells]
         refine x_nil ?_
         refine hK46 _ _ ?_
         refine x_cond_f (h := ?_)
         skip
         rw [hns, List.drop_drop] at hz
         refine x_mixed_c (Lc := [.obj g (.cells #[.slice A xs.length c, .int .i64 0] 66 (0, 0)), .rd A 1 xs.length (xs.map (Value.int .u8))]) [] 0 [6, 134, 135, 136, 137, 138, 139, 140, 141, 142, 143] (fun f w => ∃ B : Option Addr, f 6 = .slice B (xs.length - (1 + k)) (c - (1 + k)) ∧ (1 + k < xs.length → B = A.map (·.add (1 + k))) ∧ St (OwnB [.obj g (.cells #[.slice A xs.length c, .int .i64 0] 66 (0, 0)), .rd A 1 xs.length (xs.map (Value.int .u8))]) w0 w [.obj g3 (.cells (pA p.d 0 0 (padN ns) none 0 0 0) 45 (0, 0)), .obj g2 (.cells (pA 0 0 0 nm0 none 0 0 0) 45 (0, 0)), .obj g1 (.cells (pP p) 45 (0, 0)), .obj g (.cells #[.slice A xs.length c, .int .i64 0] 66 (0, 0)), .rd A 1 xs.length (xs.map (Value.int .u8))]) (by kernel_rfl) (by kernel_rfl) (by kernel_rfl) (by decide) hS (fun w56 hS => ?mixpre2904) ?mixrest2904
         case mixpre2904 =>
          refine p_nil ?_
          simp only [List.length_cons, List.length_nil, Nat.reduceAdd, Nat.reduceSub]
          refine any_go (i := 0) (by rfl) (by decide +kernel) (by decide +kernel) noLate_nil (go_yields w_none (fun w hS => s_move)) ?_
          try simp only [opv, n1, n2, n3, n4, Value.cells]
          apply any_go (i := 1) (by rfl) (by decide +kernel) (by decide +kernel) noLate_nil (call_yields w_none en119 ?H2) ?K2
          case H2 =>
            intro w hS
            try simp only [opv, n1, n2, n3, n4, List.map_toArray, List.map_cons, List.map_nil, List.append_toArray, List.cons_append, List.nil_append, Array.append_empty]
            refine CallR.mono (c_ref06Pad _ (by assumption) (by omega) _) ?_
            rintro _ w1 ⟨rfl, hE⟩; exact ⟨rfl, hE⟩
          try simp only [opv, n1, n2, n3, n4, Value.cells]
          refine any_go (i := 2) (by rfl) (by decide +kernel) (by decide +kernel) noLate_nil (go_yields w_none (fun w hS => s_move)) ?_
          try simp only [opv, n1, n2, n3, n4, Value.cells]
          refine any_go (i := 3) (by rfl) (by decide +kernel) (by decide +kernel) noLate_nil (go_yields w_none (fun w hS => s_nilCheck)) ?_
          try simp only [opv, n1, n2, n3, n4, Value.cells]
          refine any_go (i := 4) (by rfl) (by decide +kernel) (by decide +kernel) noLate_nil (go_yields w_none (fun w hS => m_fieldAddr Try.underlying66 (hi := ti43))) ?_
          try simp only [opv, n1, n2, n3, n4, Value.cells, Nat.zero_add, Nat.add_zero, List.getElem_toArray, List.getElem_cons_zero, List.getElem_cons_succ]
          refine any_go (i := 5) (by rfl) (by decide +kernel) (by decide +kernel) noLate_nil (go_yields w_none (fun w hS => m_load_obj Try.underlying43 (hS := hS))) ?_
          try simp only [opv, n1, n2, n3, n4, Value.cells, List.getElem_toArray, List.getElem_cons_zero, List.getElem_cons_succ]
          refine any_go (i := 6) (by rfl) (by decide +kernel) (by decide +kernel) noLate_nil (go_yields w_none (fun w hS => s_move)) ?_
          try simp only [opv, n1, n2, n3, n4, Value.cells]
          refine any_go (i := 7) (by rfl) (by decide +kernel) (by decide +kernel) noLate_nil (go_yields w_none (fun w hS => s_add (hc := by exact wr_i64 (by omega) (by omega)))) ?_
          try simp only [opv, n1, n2, n3, n4, Value.cells]
          rw [show (1 : Int) + (k : Int) = ((1 + k : Nat) : Int) by omega]
          refine any_go (i := 9) (by rfl) (by decide +kernel) (by decide +kernel) noLate_nil (go_yields w_none (fun w hS => m_fieldAddr Try.underlying45 (hi := ti42))) ?_
          try simp only [opv, n1, n2, n3, n4, Value.cells, Nat.zero_add, Nat.add_zero, List.getElem_toArray, List.getElem_cons_zero, List.getElem_cons_succ]
          refine any_step [8, 10] (by kernel_rfl) (by decide) (fun w57 hE => ⟨fun _ => (hS.ext hE).sel (by repeat (first | exact Sel.nil | (refine Sel.cons (by repeat (first | exact Del.head | apply Del.tail)) ?_))), ?_⟩)
          replace hS := hS.ext hE
          intro i hi
          simp only [List.mem_cons, List.not_mem_nil, or_false] at hi
          rcases hi with rfl | rfl
          ·
           refine any_op (by rfl) ?_
           refine m_slice_rd (lo := 1 + k) (hi := xs.length) (m := c) Try.underlying43 ti5 (hlo := ⟨_, rfl⟩) (hhi := ⟨rfl, rfl⟩) (hmx := rfl) (hS := hS) (h := fun A6 hA6 hS => ?_)
           try simp only [Nat.mul_one, Nat.zero_mul] at hA6
           try simp only [← List.map_append, ← List.map_drop, ← List.map_take, Nat.mul_one, Nat.zero_mul, Nat.sub_zero, List.drop_zero, List.nil_append, Nat.zero_add] at hS ⊢
           try simp only [opv, n1, n2, n3, n4, Value.cells, Array.toArray_toList] at hS ⊢
           refine x_nil ?_
           refine any_step [10] (by kernel_rfl) (by decide) (fun w58 hE => ⟨fun _ => (hS.ext hE).sel (by repeat (first | exact Sel.nil | (refine Sel.cons (by repeat (first | exact Del.head | apply Del.tail)) ?_))), ?_⟩)
           replace hS := hS.ext hE
           intro i hi
           simp only [List.mem_cons, List.not_mem_nil, or_false] at hi
           subst hi
           ·
            refine any_op (by rfl) ?_
            refine m_store_obj ti42 (hS := hS) (hc := pA_nm (padN_len ns)) (h := fun w59 hS => ?_)
            try simp only [opv, n1, n2, n3, n4, Value.cells, Array.toArray_toList] at hS ⊢
            refine x_nil ?_
            refine any_go (i := 11) (by rfl) (by decide +kernel) (by decide +kernel) noLate_nil (go_yields w_none (fun w hS => s_assign)) ?_
            try simp only [opv, n1, n2, n3, n4, Value.cells]
            refine any_nil (by kernel_rfl) (fun w60 hE => ?_)
            replace hS := hS.ext hE
            refine ⟨fun _ => hS.sel (by repeat (first | exact Sel.nil | (refine Sel.cons (by repeat (first | exact Del.head | apply Del.tail)) ?_))), ?_⟩
            refine mix_leaf (by simp only [clob, List.foldl, n1, n2, n3, n4]) ?_
            try simp only [n1, n2]
            exact ⟨_, rfl, by assumption, hS.sel (by repeat (first | exact Sel.nil | (refine Sel.cons (by repeat (first | exact Del.head | apply Del.tail)) ?_)))⟩
          ·
           refine any_op (by rfl) ?_
           refine m_store_obj ti42 (hS := hS) (hc := pA_nm (padN_len ns)) (h := fun w61 hS => ?_)
           try simp only [opv, n1, n2, n3, n4, Value.cells, Array.toArray_toList] at hS ⊢
           refine x_nil ?_
           refine any_step [8] (by kernel_rfl) (by decide) (fun w62 hE => ⟨fun _ => (hS.ext hE).sel (by repeat (first | exact Sel.nil | (refine Sel.cons (by repeat (first | exact Del.head | apply Del.tail)) ?_))), ?_⟩)
           replace hS := hS.ext hE
           intro i hi
           simp only [List.mem_cons, List.not_mem_nil, or_false] at hi
           subst hi
           ·
            refine any_op (by rfl) ?_
            refine m_slice_rd (lo := 1 + k) (hi := xs.length) (m := c) Try.underlying43 ti5 (hlo := ⟨_, rfl⟩) (hhi := ⟨rfl, rfl⟩) (hmx := rfl) (hS := hS) (h := fun A7 hA7 hS => ?_)
            try simp only [Nat.mul_one, Nat.zero_mul] at hA7
            try simp only [← List.map_append, ← List.map_drop, ← List.map_take, Nat.mul_one, Nat.zero_mul, Nat.sub_zero, List.drop_zero, List.nil_append, Nat.zero_add] at hS ⊢
            try simp only [opv, n1, n2, n3, n4, Value.cells, Array.toArray_toList] at hS ⊢
            refine x_nil ?_
            refine any_go (i := 11) (by rfl) (by decide +kernel) (by decide +kernel) noLate_nil (go_yields w_none (fun w hS => s_assign)) ?_
            try simp only [opv, n1, n2, n3, n4, Value.cells]
            refine any_nil (by kernel_rfl) (fun w63 hE => ?_)
            replace hS := hS.ext hE
            refine ⟨fun _ => hS.sel (by repeat (first | exact Sel.nil | (refine Sel.cons (by repeat (first | exact Del.head | apply Del.tail)) ?_))), ?_⟩
            refine mix_leaf (by simp only [clob, List.foldl, n1, n2, n3, n4]) ?_
            try simp only [n1, n2]
            exact ⟨_, rfl, by assumption, hS.sel (by repeat (first | exact Sel.nil | (refine Sel.cons (by repeat (first | exact Del.head | apply Del.tail)) ?_)))⟩
         intro fm4 w64 hM
         obtain ⟨B, h6, hB, hS⟩ := hM
         simp only [clob, List.foldl, n3, n4, h6]
         refine hK7 _ _ ?_
         refine x_seq fun K55 hK55 => ?_
         refine x_seq fun K56 hK56 => ?_
         refine x_region ?_
         refine s_go (s_move) ?_
         try simp only [opv, n1, n2, n3, n4, Value.cells]
         refine s_go (s_neq) ?_
         try simp only [opv, n1, n2, n3, n4, Value.cells]
         refine x_nil ?_
         refine hK56 _ _ ?_
         refine x_cond_f (h := ?_)
         skip
         refine x_skip ?_
         refine hK55 _ _ ?_
         refine x_seq fun K57 hK57 => ?_
         refine x_region ?_
         refine s_go (s_move) ?_
         try simp only [opv, n1, n2, n3, n4, Value.cells]
         refine s_go (s_move) ?_
         try simp only [opv, n1, n2, n3, n4, Value.cells]
         refine s_go (s_nilCheck) ?_
         try simp only [opv, n1, n2, n3, n4, Value.cells]
         refine s_go (m_fieldAddr Try.underlying66 (hi := ti43)) ?_
         try simp only [opv, n1, n2, n3, n4, Value.cells, Nat.zero_add, Nat.add_zero, List.getElem_toArray, List.getElem_cons_zero, List.getElem_cons_succ]
         refine m_store_obj ti43 (hS := hS) (h := fun w65 hS => ?_)
         try simp only [opv, n1, n2, n3, n4, Value.cells, Array.toArray_toList] at hS ⊢
         refine x_nil ?_
         refine hK57 _ _ ?_
         refine x_seq fun K58 hK58 => ?_
         refine x_region ?_
         refine s_go (m_load_row Try.underlying45 (hi := ti45) (hS := hS)) ?_
         try simp only [opv, n1, n2, n3, n4, Value.cells, List.getElem_toArray, List.getElem_cons_zero, List.getElem_cons_succ]
         refine m_store_obj ti45 (hS := hS) (h := fun w66 hS => ?_)
         try simp only [opv, n1, n2, n3, n4, Value.cells, Array.toArray_toList] at hS ⊢
         refine x_nil ?_
         refine hK58 _ _ ?_
         refine x_ret ?_
         refine r_cell_agg rfl Try.underlying45 ti45 (hS := hS) (hR := ?_)
         have hcpo : (xs.drop (1 + k)).length ≤ c - (1 + k) := by simp; omega
         have hRo : RdIn w0 [.obj g (.cells #[.slice A xs.length c, .int .i64 0] 66 (0, 0)), .rd A 1 xs.length (xs.map (Value.int .u8))] B (xs.drop (1 + k)).length := RdIn.sub (List.mem_cons_of_mem _ (List.mem_cons_self ..)) (fun h => by simp at h; exact ⟨by omega, hB (by omega)⟩)
         replace hS := (hS.rd_drop (by repeat (first | exact Has.head | apply Has.tail)) (1 + k) (by omega) B hB).rd_none none 1
         try rw [← List.length_drop] at hS
         exact ⟨_, _, by rw [hz]; rfl, by rw [hz]; exact RdIn.none _ _ _, _, _, by rw [hz]; exact hcpo, by rw [hz]; exact hRo, by rw [hz]; exact hS.sel (by repeat (first | exact Sel.nil | (refine Sel.cons (by repeat (first | exact Del.head | apply Del.tail)) ?_)))⟩
    ·
     try simp only [decide_eq_true_eq, decide_eq_false_iff_not, Bool.not_eq_true', Bool.not_eq_false', Int.not_lt, Int.not_le, ne_eq, Decidable.not_not, bne_iff_ne, beq_iff_eq, not_true_eq_false, not_false_eq_true] at hc8
     have h2 : ¬ p.d = 2 := hc8
     refine x_seq fun K59 hK59 => ?_
     refine x_mixed_c (Lc := [.obj g1 (.cells (pP p) 45 (0, 0)), .obj g (.cells #[.slice A xs.length c, .int .i64 0] 66 (0, 0)), .rd A 1 xs.length (xs.map (Value.int .u8))]) [] 0 [10, 11, 12, 28, 29, 30, 31, 32, 33, 34, 35, 36, 37, 38, 39, 40] (fun f w => ∃ (x : Nat) (B : Option Addr) (k d : Nat), f 10 = .int .u64 (x : Int) ∧ f 11 = .slice B k d ∧ f 12 = .int .i64 (numS p.n.toNat 0 xs).2.1 ∧ NumJ A c xs p.n.toNat x B k d ∧ St (OwnB [.obj g (.cells #[.slice A xs.length c, .int .i64 0] 66 (0, 0)), .rd A 1 xs.length (xs.map (Value.int .u8))]) w0 w [.obj g3 (.cells (pA p.d 0 0 nm0 none 0 0 0) 45 (0, 0)), .obj g2 (.cells (pA 0 0 0 nm0 none 0 0 0) 45 (0, 0)), .obj g1 (.cells (pP p) 45 (0, 0)), .obj g (.cells #[.slice A xs.length c, .int .i64 0] 66 (0, 0)), .rd A 1 xs.length (xs.map (Value.int .u8))]) (by kernel_rfl) (by kernel_rfl) (by kernel_rfl) (by decide) hS (fun w67 hS => ?mixpre605) ?mixrest605
     case mixpre605 =>
      refine p_nil ?_
      simp only [List.length_cons, List.length_nil, Nat.reduceAdd, Nat.reduceSub]
      refine any_go (i := 0) (by rfl) (by decide +kernel) (by decide +kernel) noLate_nil (go_yields w_none (fun w hS => s_move)) ?_
      try simp only [opv, n1, n2, n3, n4, Value.cells]
      refine any_go (i := 1) (by rfl) (by decide +kernel) (by decide +kernel) noLate_nil (go_yields w_none (fun w hS => s_nilCheck)) ?_
      try simp only [opv, n1, n2, n3, n4, Value.cells]
      refine any_go (i := 2) (by rfl) (by decide +kernel) (by decide +kernel) noLate_nil (go_yields w_none (fun w hS => m_fieldAddr Try.underlying66 (hi := ti43))) ?_
      try simp only [opv, n1, n2, n3, n4, Value.cells, Nat.zero_add, Nat.add_zero, List.getElem_toArray, List.getElem_cons_zero, List.getElem_cons_succ]
      refine any_go (i := 3) (by rfl) (by decide +kernel) (by decide +kernel) noLate_nil (go_yields w_none (fun w hS => m_load_obj Try.underlying43 (hS := hS))) ?_
      try simp only [opv, n1, n2, n3, n4, Value.cells, List.getElem_toArray, List.getElem_cons_zero, List.getElem_cons_succ]
      refine any_go (i := 4) (by rfl) (by decide +kernel) (by decide +kernel) noLate_nil (go_yields w_none (fun w hS => m_fieldAddr Try.underlying45 (hi := ti3))) ?_
      try simp only [opv, n1, n2, n3, n4, Value.cells, Nat.zero_add, Nat.add_zero, List.getElem_toArray, List.getElem_cons_zero, List.getElem_cons_succ]
      refine any_go (i := 5) (by rfl) (by decide +kernel) (by decide +kernel) noLate_nil (go_yields w_none (fun w hS => m_load_obj Try.underlying3 (hS := hS))) ?_
      try simp only [opv, n1, n2, n3, n4, Value.cells, List.getElem_toArray, List.getElem_cons_zero, List.getElem_cons_succ]
      refine any_go (i := 6) (by rfl) (by decide +kernel) (by decide +kernel) noLate_nil (go_yields w_none (fun w hS => s_max)) ?_
      try simp only [opv, n1, n2, n3, n4, Value.cells]
      refine any_go (i := 7) (by rfl) (by decide +kernel) (by decide +kernel) noLate_nil (go_yields w_none (fun w hS => s_conv Try.underlying3 Try.underlying40 (hc := max_u64 hpn))) ?_
      try simp only [opv, n1, n2, n3, n4, Value.cells]
      refine any_step [8] (by kernel_rfl) (by decide) (fun w68 hE => ⟨fun _ => (hS.ext hE).sel (by repeat (first | exact Sel.nil | (refine Sel.cons (by repeat (first | exact Del.head | apply Del.tail)) ?_))), ?_⟩)
      replace hS := hS.ext hE
      intro i hi
      simp only [List.mem_cons, List.not_mem_nil, or_false] at hi
      subst hi
      ·
       refine any_op (by rfl) ?_
       refine s_call en206 ?_
       try simp only [opv, n1, n2, n3, n4, Value.cells, List.map_toArray, List.map_cons, List.map_nil, List.append_toArray, List.cons_append, List.nil_append, Array.append_empty]
       refine CallR.mono (c_ref07num _ A c xs (hS.hasRd (by repeat (first | exact Has.head | apply Has.tail))) hw hn hc p.n.toNat (by omega)) ?_
       rintro _ w69 ⟨x69, B69, k69, d69, rfl, hE69, hj69⟩
       replace hS := hS.ext hE69
       try simp only [opv, n1, n2, n3, n4, Value.cells]
       refine x_nil ?_
       refine any_go (i := 9) (by rfl) (by decide +kernel) (by decide +kernel) noLate_nil (go_yields w_none (fun w hS => s_move)) ?_
       try simp only [opv, n1, n2, n3, n4, Value.cells]
       refine any_go (i := 10) (by rfl) (by decide +kernel) (by decide +kernel) noLate_nil (go_yields w_none (fun w hS => s_extract (hv := rfl))) ?_
       try simp only [List.getElem_toArray, List.getElem_cons_zero, List.getElem_cons_succ]
       try simp only [opv, n1, n2, n3, n4, Value.cells]
       refine any_go (i := 11) (by rfl) (by decide +kernel) (by decide +kernel) noLate_nil (go_yields w_none (fun w hS => s_extract (hv := rfl))) ?_
       try simp only [List.getElem_toArray, List.getElem_cons_zero, List.getElem_cons_succ]
       try simp only [opv, n1, n2, n3, n4, Value.cells]
       refine any_go (i := 12) (by rfl) (by decide +kernel) (by decide +kernel) noLate_nil (go_yields w_none (fun w hS => s_extract (hv := rfl))) ?_
       try simp only [List.getElem_toArray, List.getElem_cons_zero, List.getElem_cons_succ]
       try simp only [opv, n1, n2, n3, n4, Value.cells]
       refine any_go (i := 13) (by rfl) (by decide +kernel) (by decide +kernel) noLate_nil (go_yields w_none (fun w hS => s_assign)) ?_
       try simp only [opv, n1, n2, n3, n4, Value.cells]
       refine any_go (i := 14) (by rfl) (by decide +kernel) (by decide +kernel) noLate_nil (go_yields w_none (fun w hS => s_assign)) ?_
       try simp only [opv, n1, n2, n3, n4, Value.cells]
       refine any_go (i := 15) (by rfl) (by decide +kernel) (by decide +kernel) noLate_nil (go_yields w_none (fun w hS => s_assign)) ?_
       try simp only [opv, n1, n2, n3, n4, Value.cells]
       refine any_nil (by kernel_rfl) (fun w70 hE => ?_)
       replace hS := hS.ext hE
       refine ⟨fun _ => hS.sel (by repeat (first | exact Sel.nil | (refine Sel.cons (by repeat (first | exact Del.head | apply Del.tail)) ?_))), ?_⟩
       refine mix_leaf (by simp only [clob, List.foldl, n1, n2, n3, n4]) ?_
       try simp only [n1, n2]
       exact ⟨_, _, _, _, by trivial, rfl, by trivial, by assumption, hS.sel (by repeat (first | exact Sel.nil | (refine Sel.cons (by repeat (exact Del.head)) ?_)))⟩
     intro fm5 w71 hM
     obtain ⟨xv, B, kb, db, h10, h11, h12, hj, hS⟩ := hM
     simp only [clob, List.foldl, n3, n4, h10, h11, h12]
     refine hK59 _ _ ?_
     refine x_seq fun K60 hK60 => ?_
     refine x_region ?_
     refine s_go (s_move) ?_
     try simp only [opv, n1, n2, n3, n4, Value.cells]
     refine s_go (s_assign) ?_
     try simp only [opv, n1, n2, n3, n4, Value.cells]
     refine x_nil ?_
     refine hK60 _ _ ?_
     refine x_seq fun K61 hK61 => ?_
     refine x_seq fun K62 hK62 => ?_
     refine x_region ?_
     refine s_go (s_move) ?_
     try simp only [opv, n1, n2, n3, n4, Value.cells]
     refine s_go (s_eql) ?_
     try simp only [opv, n1, n2, n3, n4, Value.cells]
     refine s_go (s_move) ?_
     try simp only [opv, n1, n2, n3, n4, Value.cells]
     refine s_part 44 rfl (fun hp2 => ?_) (fun hp2 => ?_)
     ·
      try simp only [n3, n4]
      try simp only [decide_eq_true_eq, decide_eq_false_iff_not, Bool.not_eq_true', Bool.not_eq_false', Int.not_lt, Int.not_le, ne_eq, Decidable.not_not] at hp2
      have hE : (numS p.n.toNat 0 xs).2.1 = 0 := by simpa using hp2
      obtain ⟨rfl, j, hjl, hdr, rfl, rfl, hB⟩ := hj hE
      have hdl : (xs.drop j).length = xs.length - j := by simp
      have hnl := numS_le p.n.toNat 0 xs
      replace hS := hS.rd_drop (by repeat (first | exact Has.head | apply Has.tail)) j hjl B hB
      rw [hdl] at hS
      refine g_on (yi (t := 44) rfl rfl) ?_
      refine s_go (s_move) ?_
      try simp only [opv, n1, n2, n3, n4, Value.cells]
      refine g_on (yi (t := 44) rfl rfl) ?_
      refine s_go (s_len_sl Try.underlying43) ?_
      try simp only [opv, n1, n2, n3, n4, Value.cells]
      refine g_on (yi (t := 44) rfl rfl) ?_
      refine s_go (s_conv Try.underlying3 Try.underlying40 (hc := by exact wr_u64 (by omega) (by omega))) ?_
      try simp only [opv, n1, n2, n3, n4, Value.cells]
      refine g_on (yi (t := 44) rfl rfl) ?_
      refine s_go (s_move) ?_
      try simp only [opv, n1, n2, n3, n4, Value.cells]
      refine g_on (yi (t := 44) rfl rfl) ?_
      refine s_go (s_lss) ?_
      try simp only [opv, n1, n2, n3, n4, Value.cells]
      refine s_go (s_pick_t) ?_
      try simp only [opv, n1, n2, n3, n4, Value.cells]
      refine x_nil ?_
      refine hK62 _ _ ?_
      refine x_cond (ht := fun hc20 => ?_) (hf := fun hc20 => ?_)
      ·
       try simp only [decide_eq_true_eq, decide_eq_false_iff_not, Bool.not_eq_true', Bool.not_eq_false', Int.not_lt, Int.not_le, ne_eq, Decidable.not_not, bne_iff_ne, beq_iff_eq, not_true_eq_false, not_false_eq_true] at hc20
       have hz := rdS_3s (x := p.x) h0 h1 h2 hE (by rw [hdr, hdl]; omega)
       refine x_region ?_
       refine s_go (s_assign) ?_
       try simp only [opv, n1, n2, n3, n4, Value.cells]
       refine x_nil ?_
       refine hK61 _ _ ?_
       refine x_seq fun K63 hK63 => ?_
       refine x_region ?_
       refine s_go (s_move) ?_
       try simp only [opv, n1, n2, n3, n4, Value.cells]
       refine s_go (s_eql) ?_
       try simp only [opv, n1, n2, n3, n4, Value.cells]
       refine x_nil ?_
       refine hK63 _ _ ?_
       refine x_cond_f (h := ?_)
       refine x_skip ?_
       refine hK7 _ _ ?_
       refine x_seq fun K64 hK64 => ?_
       refine x_seq fun K65 hK65 => ?_
       refine x_region ?_
       refine s_go (s_move) ?_
       try simp only [opv, n1, n2, n3, n4, Value.cells]
       refine s_go (s_neq) ?_
       try simp only [opv, n1, n2, n3, n4, Value.cells]
       refine x_nil ?_
       refine hK65 _ _ ?_
       refine x_cond_t (h := ?_)
       skip
       refine x_seq fun K66 hK66 => ?_
       refine x_region ?_
       refine s_go (s_move) ?_
       try simp only [opv, n1, n2, n3, n4, Value.cells]
       refine s_go (s_move) ?_
       try simp only [opv, n1, n2, n3, n4, Value.cells]
       refine s_go (s_move) ?_
       try simp only [opv, n1, n2, n3, n4, Value.cells]
       refine s_go (s_nilCheck) ?_
       try simp only [opv, n1, n2, n3, n4, Value.cells]
       refine s_go (m_fieldAddr Try.underlying66 (hi := ti43)) ?_
       try simp only [opv, n1, n2, n3, n4, Value.cells, Nat.zero_add, Nat.add_zero, List.getElem_toArray, List.getElem_cons_zero, List.getElem_cons_succ]
       refine m_store_obj ti43 (hS := hS) (h := fun w72 hS => ?_)
       try simp only [opv, n1, n2, n3, n4, Value.cells, Array.toArray_toList] at hS ⊢
       refine s_go (s_nilCheck) ?_
       try simp only [opv, n1, n2, n3, n4, Value.cells]
       refine s_go (m_fieldAddr Try.underlying66 (hi := ti53)) ?_
       try simp only [opv, n1, n2, n3, n4, Value.cells, Nat.zero_add, Nat.add_zero, List.getElem_toArray, List.getElem_cons_zero, List.getElem_cons_succ]
       refine m_store_obj ti53 (hS := hS) (h := fun w73 hS => ?_)
       try simp only [opv, n1, n2, n3, n4, Value.cells, Array.toArray_toList] at hS ⊢
       refine x_nil ?_
       refine hK66 _ _ ?_
       refine x_seq fun K67 hK67 => ?_
       refine x_region ?_
       refine s_go (m_fieldAddr Try.underlying45 (hi := ti3)) ?_
       try simp only [opv, n1, n2, n3, n4, Value.cells, Nat.zero_add, Nat.add_zero, List.getElem_toArray, List.getElem_cons_zero, List.getElem_cons_succ]
       refine s_go (m_load_obj Try.underlying3 (hS := hS)) ?_
       try simp only [opv, n1, n2, n3, n4, Value.cells, List.getElem_toArray, List.getElem_cons_zero, List.getElem_cons_succ]
       refine s_go (s_build_struct (cells := #[_, .int .u64 0, .int .u8 0, .int .u8 0, .int .u8 0, .int .u8 0, .int .u8 0, .int .u8 0, .int .u8 0, .int .u8 0, .int .u8 0, .slice none 0 0, .int .i64 0]) Try.underlying45 ti45 bp45 (hc := by simp only [List.map_toArray, List.map_cons, List.map_nil, opv, n1, n2, n3, n4, Value.cells, List.toList_toArray]; (repeat (refine fill_cons rfl rfl (Nat.le_of_ble_eq_true rfl) ?_)); rfl)) ?_
       try simp only [opv, n1, n2, n3, n4, Value.cells]
       refine m_store_obj ti45 (hS := hS) (h := fun w74 hS => ?_)
       try simp only [opv, n1, n2, n3, n4, Value.cells, Array.toArray_toList] at hS ⊢
       refine x_nil ?_
       refine hK67 _ _ ?_
       refine x_ret ?_
       refine r_cell_agg rfl Try.underlying45 ti45 (hS := hS) (hR := ?_)
       replace hS := (hS.rd_none none 1).rd_none none 1
       exact ⟨none, 0, by rw [hz]; rfl, by rw [hz]; exact RdIn.none _ _ _, none, 0, by rw [hz]; exact Nat.le_refl 0, by rw [hz]; exact RdIn.none _ _ _, by rw [hz]; exact hS.sel (by repeat (first | exact Sel.nil | (refine Sel.cons (by repeat (first | exact Del.head | apply Del.tail)) ?_)))⟩
      ·
       try simp only [decide_eq_true_eq, decide_eq_false_iff_not, Bool.not_eq_true', Bool.not_eq_false', Int.not_lt, Int.not_le, ne_eq, Decidable.not_not, bne_iff_ne, beq_iff_eq, not_true_eq_false, not_false_eq_true] at hc20
       (have hql : (numS p.n.toNat 0 xs).1 ≤ (xs.drop j).length := by rw [hdl]; omega); (have hz := rdS_3y (x := p.x) h0 h1 h2 hE hdr hql)
       refine x_skip ?_
       refine hK61 _ _ ?_
       refine x_seq fun K68 hK68 => ?_
       refine x_region ?_
       refine s_go (s_move) ?_
       try simp only [opv, n1, n2, n3, n4, Value.cells]
       refine s_go (s_eql) ?_
       try simp only [opv, n1, n2, n3, n4, Value.cells]
       refine x_nil ?_
       refine hK68 _ _ ?_
       refine x_cond (ht := fun hc23 => ?_) (hf := fun hc23 => ?_)
       ·
        try simp only [decide_eq_true_eq, decide_eq_false_iff_not, Bool.not_eq_true', Bool.not_eq_false', Int.not_lt, Int.not_le, ne_eq, Decidable.not_not, bne_iff_ne, beq_iff_eq, not_true_eq_false, not_false_eq_true] at hc23
        refine x_mixed_c (Lc := [.rd A 1 xs.length (xs.map (Value.int .u8))]) [] 0 [6, 53, 54, 55, 56, 57, 58, 59] (fun f w => ∃ (B1 B2 : Option Addr) (d1 q1 : Nat), q1 = ((xs.drop j).take (numS p.n.toNat 0 xs).1).length ∧ f 6 = .slice B2 (xs.length - j - (numS p.n.toNat 0 xs).1) (c - j - (numS p.n.toNat 0 xs).1) ∧ (0 < (numS p.n.toNat 0 xs).1 → B1.map (·.block) = B.map (·.block)) ∧ ((numS p.n.toNat 0 xs).1 < xs.length - j → B2.map (·.block) = B.map (·.block)) ∧ St (OwnB [.obj g (.cells #[.slice A xs.length c, .int .i64 0] 66 (0, 0)), .rd A 1 xs.length (xs.map (Value.int .u8))]) w0 w [.obj g3 (.cells (pA p.d 0 0 nm0 B1 q1 d1 0) 45 (0, 0)), .rd B1 1 q1 (((xs.drop j).take (numS p.n.toNat 0 xs).1).map (Value.int .u8)), .rd B2 1 (xs.length - j - (numS p.n.toNat 0 xs).1) (((xs.drop j).drop (numS p.n.toNat 0 xs).1).map (Value.int .u8)), .obj g2 (.cells (pA 0 0 0 nm0 none 0 0 0) 45 (0, 0)), .obj g1 (.cells (pP p) 45 (0, 0)), .obj g (.cells #[.slice A xs.length c, .int .i64 0] 66 (0, 0)), .rd A 1 xs.length (xs.map (Value.int .u8))]) (by kernel_rfl) (by kernel_rfl) (by kernel_rfl) (by decide) hS (fun w75 hS => ?mixpre1106) ?mixrest1106
        case mixpre1106 =>
         refine p_nil ?_
         simp only [List.length_cons, List.length_nil, Nat.reduceAdd, Nat.reduceSub]
         refine any_go (i := 0) (by rfl) (by decide +kernel) (by decide +kernel) noLate_nil (go_yields w_none (fun w hS => s_move)) ?_
         try simp only [opv, n1, n2, n3, n4, Value.cells]
         refine any_go (i := 1) (by rfl) (by decide +kernel) (by decide +kernel) noLate_nil (go_yields w_none (fun w hS => s_move)) ?_
         try simp only [opv, n1, n2, n3, n4, Value.cells]
         refine any_go (i := 3) (by rfl) (by decide +kernel) (by decide +kernel) noLate_nil (go_yields w_none (fun w hS => s_move)) ?_
         try simp only [opv, n1, n2, n3, n4, Value.cells]
         refine any_go (i := 4) (by rfl) (by decide +kernel) (by decide +kernel) noLate_nil (go_yields w_none (fun w hS => s_move)) ?_
         try simp only [opv, n1, n2, n3, n4, Value.cells]
         refine any_step [2, 5] (by kernel_rfl) (by decide) (fun w76 hE => ⟨fun _ => (hS.ext hE).sel (by repeat (first | exact Sel.nil | (refine Sel.cons (by repeat (first | exact Del.head | apply Del.tail)) ?_))), ?_⟩)
         replace hS := hS.ext hE
         intro i hi
         simp only [List.mem_cons, List.not_mem_nil, or_false] at hi
         rcases hi with rfl | rfl
         ·
          refine any_op (by rfl) ?_
          refine m_slice_rd (lo := 0) (hi := (numS p.n.toNat 0 xs).1) (m := c - j) Try.underlying43 ti5 (hlo := rfl) (hhi := ⟨_, rfl⟩) (hmx := rfl) (hS := hS) (h := fun A8 hA8 hS => ?_)
          try simp only [Nat.mul_one, Nat.zero_mul] at hA8
          try simp only [← List.map_append, ← List.map_drop, ← List.map_take, Nat.mul_one, Nat.zero_mul, Nat.sub_zero, List.drop_zero, List.nil_append, Nat.zero_add] at hS ⊢
          try simp only [opv, n1, n2, n3, n4, Value.cells, Array.toArray_toList] at hS ⊢
          refine x_nil ?_
          refine any_go (i := 6) (by rfl) (by decide +kernel) (by decide +kernel) noLate_nil (go_yields w_none (fun w hS => m_fieldAddr Try.underlying45 (hi := ti43))) ?_
          try simp only [opv, n1, n2, n3, n4, Value.cells, Nat.zero_add, Nat.add_zero, List.getElem_toArray, List.getElem_cons_zero, List.getElem_cons_succ]
          refine any_step [5, 7] (by kernel_rfl) (by decide) (fun w77 hE => ⟨fun _ => (hS.ext hE).sel (by repeat (first | exact Sel.nil | (refine Sel.cons (by repeat (first | exact Del.head | apply Del.tail)) ?_))), ?_⟩)
          replace hS := hS.ext hE
          intro i hi
          simp only [List.mem_cons, List.not_mem_nil, or_false] at hi
          rcases hi with rfl | rfl
          ·
           refine any_op (by rfl) ?_
           refine m_slice_rd (lo := (numS p.n.toNat 0 xs).1) (hi := xs.length - j) (m := c - j) Try.underlying43 ti5 (hlo := ⟨_, rfl⟩) (hhi := ⟨rfl, rfl⟩) (hmx := rfl) (hS := hS) (h := fun A9 hA9 hS => ?_)
           try simp only [Nat.mul_one, Nat.zero_mul] at hA9
           try simp only [← List.map_append, ← List.map_drop, ← List.map_take, Nat.mul_one, Nat.zero_mul, Nat.sub_zero, List.drop_zero, List.nil_append, Nat.zero_add] at hS ⊢
           try simp only [opv, n1, n2, n3, n4, Value.cells, Array.toArray_toList] at hS ⊢
           rw [show List.take (xs.length - j - (numS p.n.toNat 0 xs).1) (List.drop (numS p.n.toNat 0 xs).1 (List.drop j xs)) = List.drop (numS p.n.toNat 0 xs).1 (List.drop j xs) from List.take_of_length_le (by simp; omega)] at hS
           refine x_nil ?_
           refine any_step [7] (by kernel_rfl) (by decide) (fun w78 hE => ⟨fun _ => (hS.ext hE).sel (by repeat (first | exact Sel.nil | (refine Sel.cons (by repeat (first | exact Del.head | apply Del.tail)) ?_))), ?_⟩)
           replace hS := hS.ext hE
           intro i hi
           simp only [List.mem_cons, List.not_mem_nil, or_false] at hi
           subst hi
           ·
            refine any_op (by rfl) ?_
            refine m_store_obj ti43 (hS := hS) (h := fun w79 hS => ?_)
            try simp only [opv, n1, n2, n3, n4, Value.cells, Array.toArray_toList] at hS ⊢
            refine x_nil ?_
            refine any_go (i := 8) (by rfl) (by decide +kernel) (by decide +kernel) noLate_nil (go_yields w_none (fun w hS => s_assign)) ?_
            try simp only [opv, n1, n2, n3, n4, Value.cells]
            refine any_nil (by kernel_rfl) (fun w80 hE => ?_)
            replace hS := hS.ext hE
            refine ⟨fun _ => hS.sel (by repeat (first | exact Sel.nil | (refine Sel.cons (by repeat (first | exact Del.head | apply Del.tail)) ?_))), ?_⟩
            refine mix_leaf (by simp only [clob, List.foldl, n1, n2, n3, n4]) ?_
            try simp only [n1, n2]
            refine ⟨_, _, _, (numS p.n.toNat 0 xs).1, by rw [List.length_take]; omega, rfl, fun h => ?_, fun h => ?_, hS.sel (by repeat (first | exact Sel.nil | (refine Sel.cons (by repeat (first | exact Del.head | apply Del.tail)) ?_)))⟩
            · exact (congrArg (Option.map (fun a : Addr => a.block)) ((by assumption : 0 < (numS p.n.toNat 0 xs).1 → _) h)).trans (add_block _ _)
            · exact (congrArg (Option.map (fun a : Addr => a.block)) ((by assumption : (numS p.n.toNat 0 xs).1 < xs.length - j → _) h)).trans (add_block _ _)
          ·
           refine any_op (by rfl) ?_
           refine m_store_obj ti43 (hS := hS) (h := fun w81 hS => ?_)
           try simp only [opv, n1, n2, n3, n4, Value.cells, Array.toArray_toList] at hS ⊢
           refine x_nil ?_
           refine any_step [5] (by kernel_rfl) (by decide) (fun w82 hE => ⟨fun _ => (hS.ext hE).sel (by repeat (first | exact Sel.nil | (refine Sel.cons (by repeat (first | exact Del.head | apply Del.tail)) ?_))), ?_⟩)
           replace hS := hS.ext hE
           intro i hi
           simp only [List.mem_cons, List.not_mem_nil, or_false] at hi
           subst hi
           ·
            refine any_op (by rfl) ?_
            refine m_slice_rd (lo := (numS p.n.toNat 0 xs).1) (hi := xs.length - j) (m := c - j) Try.underlying43 ti5 (hlo := ⟨_, rfl⟩) (hhi := ⟨rfl, rfl⟩) (hmx := rfl) (hS := hS) (h := fun A10 hA10 hS => ?_)
            try simp only [Nat.mul_one, Nat.zero_mul] at hA10
            try simp only [← List.map_append, ← List.map_drop, ← List.map_take, Nat.mul_one, Nat.zero_mul, Nat.sub_zero, List.drop_zero, List.nil_append, Nat.zero_add] at hS ⊢
            try simp only [opv, n1, n2, n3, n4, Value.cells, Array.toArray_toList] at hS ⊢
            rw [show List.take (xs.length - j - (numS p.n.toNat 0 xs).1) (List.drop (numS p.n.toNat 0 xs).1 (List.drop j xs)) = List.drop (numS p.n.toNat 0 xs).1 (List.drop j xs) from List.take_of_length_le (by simp; omega)] at hS
            refine x_nil ?_
            refine any_go (i := 8) (by rfl) (by decide +kernel) (by decide +kernel) noLate_nil (go_yields w_none (fun w hS => s_assign)) ?_
            try simp only [opv, n1, n2, n3, n4, Value.cells]
            refine any_nil (by kernel_rfl) (fun w83 hE => ?_)
            replace hS := hS.ext hE
            refine ⟨fun _ => hS.sel (by repeat (first | exact Sel.nil | (refine Sel.cons (by repeat (first | exact Del.head | apply Del.tail)) ?_))), ?_⟩
            refine mix_leaf (by simp only [clob, List.foldl, n1, n2, n3, n4]) ?_
            try simp only [n1, n2]
            refine ⟨_, _, _, (numS p.n.toNat 0 xs).1, by rw [List.length_take]; omega, rfl, fun h => ?_, fun h => ?_, hS.sel (by repeat (first | exact Sel.nil | (refine Sel.cons (by repeat (first | exact Del.head | apply Del.tail)) ?_)))⟩
            · exact (congrArg (Option.map (fun a : Addr => a.block)) ((by assumption : 0 < (numS p.n.toNat 0 xs).1 → _) h)).trans (add_block _ _)
            · exact (congrArg (Option.map (fun a : Addr => a.block)) ((by assumption : (numS p.n.toNat 0 xs).1 < xs.length - j → _) h)).trans (add_block _ _)
         ·
          refine any_op (by rfl) ?_
          refine m_slice_rd (lo := (numS p.n.toNat 0 xs).1) (hi := xs.length - j) (m := c - j) Try.underlying43 ti5 (hlo := ⟨_, rfl⟩) (hhi := ⟨rfl, rfl⟩) (hmx := rfl) (hS := hS) (h := fun A11 hA11 hS => ?_)
          try simp only [Nat.mul_one, Nat.zero_mul] at hA11
          try simp only [← List.map_append, ← List.map_drop, ← List.map_take, Nat.mul_one, Nat.zero_mul, Nat.sub_zero, List.drop_zero, List.nil_append, Nat.zero_add] at hS ⊢
          try simp only [opv, n1, n2, n3, n4, Value.cells, Array.toArray_toList] at hS ⊢
          rw [show List.take (xs.length - j - (numS p.n.toNat 0 xs).1) (List.drop (numS p.n.toNat 0 xs).1 (List.drop j xs)) = List.drop (numS p.n.toNat 0 xs).1 (List.drop j xs) from List.take_of_length_le (by simp; omega)] at hS
          refine x_nil ?_
          refine any_step [2] (by kernel_rfl) (by decide) (fun w84 hE => ⟨fun _ => (hS.ext hE).sel (by repeat (first | exact Sel.nil | (refine Sel.cons (by repeat (first | exact Del.head | apply Del.tail)) ?_))), ?_⟩)
          replace hS := hS.ext hE
          intro i hi
          simp only [List.mem_cons, List.not_mem_nil, or_false] at hi
          subst hi
          ·
           refine any_op (by rfl) ?_
           refine m_slice_rd (lo := 0) (hi := (numS p.n.toNat 0 xs).1) (m := c - j) Try.underlying43 ti5 (hlo := rfl) (hhi := ⟨_, rfl⟩) (hmx := rfl) (hS := hS) (h := fun A12 hA12 hS => ?_)
           try simp only [Nat.mul_one, Nat.zero_mul] at hA12
           try simp only [← List.map_append, ← List.map_drop, ← List.map_take, Nat.mul_one, Nat.zero_mul, Nat.sub_zero, List.drop_zero, List.nil_append, Nat.zero_add] at hS ⊢
           try simp only [opv, n1, n2, n3, n4, Value.cells, Array.toArray_toList] at hS ⊢
           refine x_nil ?_
           refine any_go (i := 6) (by rfl) (by decide +kernel) (by decide +kernel) noLate_nil (go_yields w_none (fun w hS => m_fieldAddr Try.underlying45 (hi := ti43))) ?_
           try simp only [opv, n1, n2, n3, n4, Value.cells, Nat.zero_add, Nat.add_zero, List.getElem_toArray, List.getElem_cons_zero, List.getElem_cons_succ]
           refine any_step [7] (by kernel_rfl) (by decide) (fun w85 hE => ⟨fun _ => (hS.ext hE).sel (by repeat (first | exact Sel.nil | (refine Sel.cons (by repeat (first | exact Del.head | apply Del.tail)) ?_))), ?_⟩)
           replace hS := hS.ext hE
           intro i hi
           simp only [List.mem_cons, List.not_mem_nil, or_false] at hi
           subst hi
           ·
            refine any_op (by rfl) ?_
            refine m_store_obj ti43 (hS := hS) (h := fun w86 hS => ?_)
            try simp only [opv, n1, n2, n3, n4, Value.cells, Array.toArray_toList] at hS ⊢
            refine x_nil ?_
            refine any_go (i := 8) (by rfl) (by decide +kernel) (by decide +kernel) noLate_nil (go_yields w_none (fun w hS => s_assign)) ?_
            try simp only [opv, n1, n2, n3, n4, Value.cells]
            refine any_nil (by kernel_rfl) (fun w87 hE => ?_)
            replace hS := hS.ext hE
            refine ⟨fun _ => hS.sel (by repeat (first | exact Sel.nil | (refine Sel.cons (by repeat (first | exact Del.head | apply Del.tail)) ?_))), ?_⟩
            refine mix_leaf (by simp only [clob, List.foldl, n1, n2, n3, n4]) ?_
            try simp only [n1, n2]
            refine ⟨_, _, _, (numS p.n.toNat 0 xs).1, by rw [List.length_take]; omega, rfl, fun h => ?_, fun h => ?_, hS.sel (by repeat (first | exact Sel.nil | (refine Sel.cons (by repeat (first | exact Del.head | apply Del.tail)) ?_)))⟩
            · exact (congrArg (Option.map (fun a : Addr => a.block)) ((by assumption : 0 < (numS p.n.toNat 0 xs).1 → _) h)).trans (add_block _ _)
            · exact (congrArg (Option.map (fun a : Addr => a.block)) ((by assumption : (numS p.n.toNat 0 xs).1 < xs.length - j → _) h)).trans (add_block _ _)
        intro fm6 w88 hM
        obtain ⟨B1, B2, d1, q1, hq1, h6, hB1, hB2, hS⟩ := hM
        simp only [clob, List.foldl, n3, n4, h6]
        refine hK7 _ _ ?_
        refine x_seq fun K69 hK69 => ?_
        refine x_seq fun K70 hK70 => ?_
        refine x_region ?_
        refine s_go (s_move) ?_
        try simp only [opv, n1, n2, n3, n4, Value.cells]
        refine s_go (s_neq) ?_
        try simp only [opv, n1, n2, n3, n4, Value.cells]
        refine x_nil ?_
        refine hK70 _ _ ?_
        refine x_cond (ht := fun hc24 => ?_) (hf := fun hc24 => ?_)
        ·
         try simp only [decide_eq_true_eq, decide_eq_false_iff_not, Bool.not_eq_true', Bool.not_eq_false', Int.not_lt, Int.not_le, ne_eq, Decidable.not_not, bne_iff_ne, beq_iff_eq, not_true_eq_false, not_false_eq_true] at hc24
         (exfalso; omega)
        ·
         try simp only [decide_eq_true_eq, decide_eq_false_iff_not, Bool.not_eq_true', Bool.not_eq_false', Int.not_lt, Int.not_le, ne_eq, Decidable.not_not, bne_iff_ne, beq_iff_eq, not_true_eq_false, not_false_eq_true] at hc24
         subst hq1
         refine x_skip ?_
         refine hK69 _ _ ?_
         refine x_seq fun K73 hK73 => ?_
         refine x_region ?_
         refine s_go (s_move) ?_
         try simp only [opv, n1, n2, n3, n4, Value.cells]
         refine s_go (s_move) ?_
         try simp only [opv, n1, n2, n3, n4, Value.cells]
         refine s_go (s_nilCheck) ?_
         try simp only [opv, n1, n2, n3, n4, Value.cells]
         refine s_go (m_fieldAddr Try.underlying66 (hi := ti43)) ?_
         try simp only [opv, n1, n2, n3, n4, Value.cells, Nat.zero_add, Nat.add_zero, List.getElem_toArray, List.getElem_cons_zero, List.getElem_cons_succ]
         refine m_store_obj ti43 (hS := hS) (h := fun w92 hS => ?_)
         try simp only [opv, n1, n2, n3, n4, Value.cells, Array.toArray_toList] at hS ⊢
         refine x_nil ?_
         refine hK73 _ _ ?_
         refine x_seq fun K74 hK74 => ?_
         refine x_region ?_
         refine s_go (m_load_row Try.underlying45 (hi := ti45) (hS := hS)) ?_
         try simp only [opv, n1, n2, n3, n4, Value.cells, List.getElem_toArray, List.getElem_cons_zero, List.getElem_cons_succ]
         refine m_store_obj ti45 (hS := hS) (h := fun w93 hS => ?_)
         try simp only [opv, n1, n2, n3, n4, Value.cells, Array.toArray_toList] at hS ⊢
         refine x_nil ?_
         refine hK74 _ _ ?_
         refine x_ret ?_
         refine r_cell_agg rfl Try.underlying45 ti45 (hS := hS) (hR := ?_)
         have hbk : j < xs.length → B.map (·.block) = A.map (·.block) := fun h => by rw [hB h]; exact add_block _ _
         have hcpo : ((xs.drop j).drop (numS p.n.toNat 0 xs).1).length ≤ c - j - (numS p.n.toNat 0 xs).1 := by simp; omega
         have hdd : ((xs.drop j).drop (numS p.n.toNat 0 xs).1).length = xs.length - j - (numS p.n.toNat 0 xs).1 := by simp; omega
         have htt : ((xs.drop j).take (numS p.n.toNat 0 xs).1).length = (numS p.n.toNat 0 xs).1 := by simp; omega
         have hQo : RdIn w0 [.obj g (.cells #[.slice A xs.length c, .int .i64 0] 66 (0, 0)), .rd A 1 xs.length (xs.map (Value.int .u8))] B1 ((xs.drop j).take (numS p.n.toNat 0 xs).1).length := RdIn.sub2 (List.mem_cons_of_mem _ (List.mem_cons_self ..)) (fun h => by rw [htt] at h; exact ⟨by omega, (hB1 h).trans (hbk (by omega))⟩)
         have hRo : RdIn w0 [.obj g (.cells #[.slice A xs.length c, .int .i64 0] 66 (0, 0)), .rd A 1 xs.length (xs.map (Value.int .u8))] B2 ((xs.drop j).drop (numS p.n.toNat 0 xs).1).length := RdIn.sub2 (List.mem_cons_of_mem _ (List.mem_cons_self ..)) (fun h => by rw [hdd] at h; exact ⟨by omega, (hB2 (by omega)).trans (hbk (by omega))⟩)
         rw [← hdd] at hS
         exact ⟨_, _, by rw [hz], by rw [hz]; exact hQo, _, _, by rw [hz]; exact hcpo, by rw [hz]; exact hRo, by rw [hz]; exact hS.sel (by repeat (first | exact Sel.nil | (refine Sel.cons (by repeat (first | exact Del.head | apply Del.tail)) ?_)))⟩
       ·
        try simp only [decide_eq_true_eq, decide_eq_false_iff_not, Bool.not_eq_true', Bool.not_eq_false', Int.not_lt, Int.not_le, ne_eq, Decidable.not_not, bne_iff_ne, beq_iff_eq, not_true_eq_false, not_false_eq_true] at hc23
        (exfalso; omega)
     ·
      try simp only [n3, n4]
      try simp only [decide_eq_true_eq, decide_eq_false_iff_not, Bool.not_eq_true', Bool.not_eq_false', Int.not_lt, Int.not_le, ne_eq, Decidable.not_not] at hp2
      have hE : ¬ (numS p.n.toNat 0 xs).2.1 = 0 := by simpa using hp2
      have hz := rdS_3e (x := p.x) h0 h1 h2 hE
      refine g_off (yi (t := 44) rfl rfl) ?_
      try simp only [opv, n1, n2, n3, n4, Value.cells]
      refine g_off (yi (t := 44) rfl rfl) ?_
      try simp only [opv, n1, n2, n3, n4, Value.cells]
      refine g_off (yi (t := 44) rfl rfl) ?_
      try simp only [opv, n1, n2, n3, n4, Value.cells]
      refine g_off (yi (t := 44) rfl rfl) ?_
      try simp only [opv, n1, n2, n3, n4, Value.cells]
      refine g_off (yi (t := 44) rfl rfl) ?_
      try simp only [opv, n1, n2, n3, n4, Value.cells]
      refine s_go (s_pick_f) ?_
      try simp only [opv, n1, n2, n3, n4, Value.cells]
      refine x_nil ?_
      refine hK62 _ _ ?_
      refine x_cond_f (h := ?_)
      skip
      refine x_skip ?_
      refine hK61 _ _ ?_
      refine x_seq fun K81 hK81 => ?_
      refine x_region ?_
      refine s_go (s_move) ?_
      try simp only [opv, n1, n2, n3, n4, Value.cells]
      refine s_go (s_eql) ?_
      try simp only [opv, n1, n2, n3, n4, Value.cells]
      refine x_nil ?_
      refine hK81 _ _ ?_
      refine x_cond (ht := fun hc27 => ?_) (hf := fun hc27 => ?_)
      ·
       try simp only [decide_eq_true_eq, decide_eq_false_iff_not, Bool.not_eq_true', Bool.not_eq_false', Int.not_lt, Int.not_le, ne_eq, Decidable.not_not, bne_iff_ne, beq_iff_eq, not_true_eq_false, not_false_eq_true] at hc27
       (exfalso; omega)
      ·
       try simp only [decide_eq_true_eq, decide_eq_false_iff_not, Bool.not_eq_true', Bool.not_eq_false', Int.not_lt, Int.not_le, ne_eq, Decidable.not_not, bne_iff_ne, beq_iff_eq, not_true_eq_false, not_false_eq_true] at hc27
       refine x_skip ?_
       refine hK7 _ _ ?_
       refine x_seq fun K88 hK88 => ?_
       refine x_seq fun K89 hK89 => ?_
       refine x_region ?_
       refine s_go (s_move) ?_
       try simp only [opv, n1, n2, n3, n4, Value.cells]
       refine s_go (s_neq) ?_
       try simp only [opv, n1, n2, n3, n4, Value.cells]
       refine x_nil ?_
       refine hK89 _ _ ?_
       refine x_cond (ht := fun hc29 => ?_) (hf := fun hc29 => ?_)
       ·
        try simp only [decide_eq_true_eq, decide_eq_false_iff_not, Bool.not_eq_true', Bool.not_eq_false', Int.not_lt, Int.not_le, ne_eq, Decidable.not_not, bne_iff_ne, beq_iff_eq, not_true_eq_false, not_false_eq_true] at hc29
        skip
        refine x_seq fun K90 hK90 => ?_
        refine x_region ?_
        refine s_go (s_move) ?_
        try simp only [opv, n1, n2, n3, n4, Value.cells]
        refine s_go (s_move) ?_
        try simp only [opv, n1, n2, n3, n4, Value.cells]
        refine s_go (s_move) ?_
        try simp only [opv, n1, n2, n3, n4, Value.cells]
        refine s_go (s_nilCheck) ?_
        try simp only [opv, n1, n2, n3, n4, Value.cells]
        refine s_go (m_fieldAddr Try.underlying66 (hi := ti43)) ?_
        try simp only [opv, n1, n2, n3, n4, Value.cells, Nat.zero_add, Nat.add_zero, List.getElem_toArray, List.getElem_cons_zero, List.getElem_cons_succ]
        refine m_store_obj ti43 (hS := hS) (h := fun w118 hS => ?_)
        try simp only [opv, n1, n2, n3, n4, Value.cells, Array.toArray_toList] at hS ⊢
        refine s_go (s_nilCheck) ?_
        try simp only [opv, n1, n2, n3, n4, Value.cells]
        refine s_go (m_fieldAddr Try.underlying66 (hi := ti53)) ?_
        try simp only [opv, n1, n2, n3, n4, Value.cells, Nat.zero_add, Nat.add_zero, List.getElem_toArray, List.getElem_cons_zero, List.getElem_cons_succ]
        refine m_store_obj ti53 (hS := hS) (h := fun w119 hS => ?_)
        try simp only [opv, n1, n2, n3, n4, Value.cells, Array.toArray_toList] at hS ⊢
        refine x_nil ?_
        refine hK90 _ _ ?_
        refine x_seq fun K91 hK91 => ?_
        refine x_region ?_
        refine s_go (m_fieldAddr Try.underlying45 (hi := ti3)) ?_
        try simp only [opv, n1, n2, n3, n4, Value.cells, Nat.zero_add, Nat.add_zero, List.getElem_toArray, List.getElem_cons_zero, List.getElem_cons_succ]
        refine s_go (m_load_obj Try.underlying3 (hS := hS)) ?_
        try simp only [opv, n1, n2, n3, n4, Value.cells, List.getElem_toArray, List.getElem_cons_zero, List.getElem_cons_succ]
        refine s_go (s_build_struct (cells := #[_, .int .u64 0, .int .u8 0, .int .u8 0, .int .u8 0, .int .u8 0, .int .u8 0, .int .u8 0, .int .u8 0, .int .u8 0, .int .u8 0, .slice none 0 0, .int .i64 0]) Try.underlying45 ti45 bp45 (hc := by simp only [List.map_toArray, List.map_cons, List.map_nil, opv, n1, n2, n3, n4, Value.cells, List.toList_toArray]; (repeat (refine fill_cons rfl rfl (Nat.le_of_ble_eq_true rfl) ?_)); rfl)) ?_
        try simp only [opv, n1, n2, n3, n4, Value.cells]
        refine m_store_obj ti45 (hS := hS) (h := fun w120 hS => ?_)
        try simp only [opv, n1, n2, n3, n4, Value.cells, Array.toArray_toList] at hS ⊢
        refine x_nil ?_
        refine hK91 _ _ ?_
        refine x_ret ?_
        refine r_cell_agg rfl Try.underlying45 ti45 (hS := hS) (hR := ?_)
        replace hS := (hS.rd_none none 1).rd_none none 1
        exact ⟨none, 0, by rw [hz]; rfl, by rw [hz]; exact RdIn.none _ _ _, none, 0, by rw [hz]; exact Nat.le_refl 0, by rw [hz]; exact RdIn.none _ _ _, by rw [hz]; exact hS.sel (by repeat (first | exact Sel.nil | (refine Sel.cons (by repeat (first | exact Del.head | apply Del.tail)) ?_)))⟩
       ·
        try simp only [decide_eq_true_eq, decide_eq_false_iff_not, Bool.not_eq_true', Bool.not_eq_false', Int.not_lt, Int.not_le, ne_eq, Decidable.not_not, bne_iff_ne, beq_iff_eq, not_true_eq_false, not_false_eq_true] at hc29
        (exfalso; omega)
end Go.Proofs.Ytpjpaipkkcengaa
namespace Go.Proofs.Ytpjpaipkkcengaa
/-- a frame's numbers and bytes -/
structure Fm where
  k : Nat
  fr : Nat
  to : Nat
  ss : Nat
  sq : Nat
  pt : Nat
  off : Nat
  la : Bool
  d : List Int
def fm0 : Fm := ⟨0, 0, 0, 0, 0, 0, 0, false, []⟩
structure FmOk (f : Fm) : Prop where
  k : f.k < 256
  fr : f.fr < 256
  to : f.to < 256
  ss : f.ss < 4294967296
  sq : f.sq < 4294967296
  pt : f.pt < 256
  off : f.off < 4294967296
  d : Byt f.d
def checkF (f : Fm) : Int := if f.k < 1 ∨ 3 < f.k then 14 else if 16 ≤ f.fr ∨ 16 ≤ f.to ∨ f.fr = f.to then 1 else if 65536 < f.d.length then 15 else 0
def boolN (b : Bool) : Int := if b then 1 else 0
def fmBody (f : Fm) : List Int := (f.k : Int) :: (f.fr : Int) :: (f.to : Int) :: (vari f.ss ++ (vari f.sq ++ ((f.pt : Int) :: (vari f.off ++ (boolN f.la :: (vari f.d.length ++ f.d))))))
theorem fmBody_len {f : Fm} (h : FmOk f) (hd : f.d.length < 2097152) : (fmBody f).length ≤ f.d.length + 24 := by
  have h1 : (vari f.ss).length ≤ 5 := vari_len_le (by omega) (by have := h.ss; omega)
  have h2 : (vari f.sq).length ≤ 5 := vari_len_le (by omega) (by have := h.sq; omega)
  have h3 : (vari f.off).length ≤ 5 := vari_len_le (by omega) (by have := h.off; omega)
  have h4 : (vari f.d.length).length ≤ 3 := vari_len_le (by omega) (by omega)
  simp [fmBody]; omega
theorem fmBody_byt {f : Fm} (h : FmOk f) : Byt (fmBody f) := by
  have c : ∀ {x : Int} {l : List Int}, (0 ≤ x ∧ x ≤ 255) → Byt l → Byt (x :: l) := fun hx hl y hy => by
    rcases List.mem_cons.1 hy with rfl | hy
    · exact hx
    · exact hl y hy
  have hb : ∀ b, 0 ≤ boolN b ∧ boolN b ≤ 255 := fun b => by cases b <;> decide
  exact c (by have := h.k; omega) (c (by have := h.fr; omega) (c (by have := h.to; omega) (Byt.app (vari_byt _) (Byt.app (vari_byt _) (c (by have := h.pt; omega) (Byt.app (vari_byt _) (c (hb _) (Byt.app (vari_byt _) h.d))))))))
/-- where reading stands: the error, what comes -/
abbrev Rs := Int × List Int
def nextB (s : Rs) : Rs := (oneS s.1 s.2).2
def nextN (s : Rs) : Rs := (numS 4294967295 s.1 s.2).2
def valB (s : Rs) : Int := (oneS s.1 s.2).1
def valN (s : Rs) : Nat := (numS 4294967295 s.1 s.2).1
structure FrSt where
  s1 : Rs
  s2 : Rs
  s3 : Rs
  s4 : Rs
  s5 : Rs
  s6 : Rs
  s7 : Rs
  s8 : Rs
  s9 : Rs
def frSt (xs : List Int) : FrSt :=
  let s1 := nextB (0, xs); let s2 := nextB s1; let s3 := nextB s2; let s4 := nextN s3; let s5 := nextN s4; let s6 := nextB s5; let s7 := nextN s6; let s8 := nextB s7
  ⟨s1, s2, s3, s4, s5, s6, s7, s8, (bytS 65536 s8.1 s8.2).2⟩
def frRaw (xs : List Int) : Fm := ⟨(valB (0, xs)).toNat, (valB (frSt xs).s1).toNat, (valB (frSt xs).s2).toNat, valN (frSt xs).s3, valN (frSt xs).s4, (valB (frSt xs).s5).toNat, valN (frSt xs).s6, decide (valB (frSt xs).s7 = 1), (bytS 65536 (frSt xs).s8.1 (frSt xs).s8.2).1⟩
def frE (xs : List Int) : Int :=
  if (frSt xs).s9.1 = 0 then (if 1 < valB (frSt xs).s7 ∨ 0 < (frSt xs).s9.2.length then 3 else checkF (frRaw xs)) else (frSt xs).s9.1
def frF (xs : List Int) : Fm := if frE xs = 0 then frRaw xs else fm0
theorem bytS_most {m : Nat} {e : Int} {xs : List Int} : (bytS m e xs).1.length ≤ m := by
  have := numS_le m e xs
  unfold bytS
  repeat' split
  all_goals simp
  all_goals omega
theorem frRaw_ok {xs : List Int} (hb : Byt xs) : FmOk (frRaw xs) := by
  have b1 : Byt (frSt xs).s1.2 := oneS_byt hb
  have b2 : Byt (frSt xs).s2.2 := oneS_byt b1
  have b3 : Byt (frSt xs).s3.2 := oneS_byt b2
  have b4 : Byt (frSt xs).s4.2 := numS_byt b3
  have b5 : Byt (frSt xs).s5.2 := numS_byt b4
  have b6 : Byt (frSt xs).s6.2 := oneS_byt b5
  have b7 : Byt (frSt xs).s7.2 := numS_byt b6
  have b8 : Byt (frSt xs).s8.2 := oneS_byt b7
  have v : ∀ (s : Rs), Byt s.2 → (valB s).toNat < 256 := fun s hs => by have := oneS_val (e := s.1) hs; unfold valB; omega
  have n : ∀ (s : Rs), valN s < 4294967296 := fun s => by have := numS_le 4294967295 s.1 s.2; unfold valN; omega
  exact ⟨v _ hb, v _ b1, v _ b2, n _, n _, v _ b5, n _, bytS_byt b8⟩
theorem frF_ok {xs : List Int} (hb : Byt xs) : FmOk (frF xs) := by
  unfold frF
  split
  · exact frRaw_ok hb
  · exact ⟨by decide, by decide, by decide, by decide, by decide, by decide, by decide, by intro y hy; cases hy⟩
theorem frF_len (xs : List Int) : (frF xs).d.length ≤ 65536 := by
  unfold frF
  split
  · exact bytS_most
  · simp [fm0]
theorem fr_back {f : Fm} (h : FmOk f) (hc : checkF f = 0) : frE (fmBody f) = 0 ∧ frF (fmBody f) = f := by
  have u32 : ∀ {x : Nat}, x < 4294967296 → ∀ l, numS 4294967295 0 (vari x ++ l) = (x, 0, l) := fun hx l => numS_back (by omega) (by omega) l
  have hd : f.d.length ≤ 65536 := by
    unfold checkF at hc
    split at hc
    · cases hc
    · split at hc
      · cases hc
      · split at hc
        · cases hc
        · omega
  have s1 : (frSt (fmBody f)).s1 = (0, (fmBody f).drop 1) := by simp only [frSt, nextB, fmBody, oneS_back]; rfl
  have s2 : (frSt (fmBody f)).s2 = (0, (fmBody f).drop 2) := by simp only [frSt, nextB, fmBody, oneS_back]; rfl
  have s3 : (frSt (fmBody f)).s3 = (0, (fmBody f).drop 3) := by simp only [frSt, nextB, fmBody, oneS_back]; rfl
  have s4 : (frSt (fmBody f)).s4 = (0, (vari f.sq ++ ((f.pt : Int) :: (vari f.off ++ (boolN f.la :: (vari f.d.length ++ f.d)))))) := by simp only [frSt, nextB, nextN, fmBody, oneS_back, u32 h.ss]
  have s5 : (frSt (fmBody f)).s5 = (0, (f.pt : Int) :: (vari f.off ++ (boolN f.la :: (vari f.d.length ++ f.d)))) := by simp only [frSt, nextB, nextN, fmBody, oneS_back, u32 h.ss, u32 h.sq]
  have s6 : (frSt (fmBody f)).s6 = (0, vari f.off ++ (boolN f.la :: (vari f.d.length ++ f.d))) := by simp only [frSt, nextB, nextN, fmBody, oneS_back, u32 h.ss, u32 h.sq]
  have s7 : (frSt (fmBody f)).s7 = (0, boolN f.la :: (vari f.d.length ++ f.d)) := by simp only [frSt, nextB, nextN, fmBody, oneS_back, u32 h.ss, u32 h.sq, u32 h.off]
  have s8 : (frSt (fmBody f)).s8 = (0, vari f.d.length ++ (f.d ++ [])) := by simp only [frSt, nextB, nextN, fmBody, oneS_back, u32 h.ss, u32 h.sq, u32 h.off, List.append_nil]
  have hby := bytS_back (ys := f.d) (m := 65536) (by omega) hd []
  have s9 : (frSt (fmBody f)).s9 = (0, []) := by
    have : (frSt (fmBody f)).s9 = (bytS 65536 (frSt (fmBody f)).s8.1 (frSt (fmBody f)).s8.2).2 := rfl
    rw [this, s8]; simp only [hby]
  have vl : valB (frSt (fmBody f)).s7 = boolN f.la := by rw [s7]; simp only [valB, oneS_back]
  have hraw : frRaw (fmBody f) = f := by
    unfold frRaw
    rw [vl, s1, s2, s3, s4, s5, s6, s8]
    simp only [valB, valN, hby, fmBody, List.drop_succ_cons, List.drop_zero, oneS_back, u32 h.ss, u32 h.sq, u32 h.off, Int.toNat_natCast]
    have : decide (boolN f.la = 1) = f.la := by cases f.la <;> rfl
    rw [this]
  have hE : frE (fmBody f) = 0 := by
    unfold frE
    rw [s9, vl, hraw, if_pos rfl, if_neg (by have : boolN f.la ≤ 1 := by { cases f.la <;> decide }; simp; omega), hc]
  exact ⟨hE, by rw [frF, if_pos hE, hraw]⟩
end Go.Proofs.Ytpjpaipkkcengaa
set_option linter.unusedSimpArgs false
set_option linter.unusedVariables false
set_option maxHeartbeats 4000000
set_option maxRecDepth 100000
namespace Go.Proofs.Ytpjpaipkkcengaa
open Go.RowKit

def fmL (f : Fm) (A : Option Addr) (cp : Nat) : List Value := [.int .u8 (f.k : Int), .int .u8 (f.fr : Int), .int .u8 (f.to : Int), .int .u32 (f.ss : Int), .int .u32 (f.sq : Int), .int .u8 (f.pt : Int), .int .u32 (f.off : Int), .bool f.la, .slice A f.d.length cp]
def FA (f : Fm) (A : Option Addr) (cp : Nat) : Array Value := (fmL f A cp).toArray
theorem Rd.ext' {w w' : World} {A : Option Addr} {sz n : Nat} {xs : List Value} (h : Rd w A sz n xs) (hE : Ext w w') : Rd w' A sz n xs := Res.holds_ext (r := .rd A sz n xs) h hE
/-- a function value that answers e -/
structure Cl where
  F : Nat
  B : Array Value
  C : Array Value
  e : Int
def Cl.val (x : Cl) : Value := .func (.func x.F) x.B x.C
def cl0 : Cl := ⟨0, #[], #[], 0⟩
def firstE : List Int → Int
  | [] => 0
  | e :: l => if e = 0 then firstE l else e
theorem firstE_at : ∀ {es : List Int} {k : Nat}, (∀ j, j < k → es.getD j 0 = 0) → k < es.length → ¬ es.getD k 0 = 0 → firstE es = es.getD k 0
  | [], _, _, hk, _ => absurd hk (by simp)
  | e :: l, 0, _, _, h => if_neg h
  | e :: l, k + 1, hz, hk, h => by
    have h0 : e = 0 := hz 0 (by omega)
    rw [firstE, if_pos h0]
    exact firstE_at (es := l) (k := k) (fun j hj => hz (j + 1) (by omega)) (by simpa using hk) h
theorem firstE_end : ∀ {es : List Int}, (∀ j, j < es.length → es.getD j 0 = 0) → firstE es = 0
  | [], _ => rfl
  | e :: l, hz => by
    have h0 : e = 0 := hz 0 (by simp)
    rw [firstE, if_pos h0]
    exact firstE_end (es := l) (fun j hj => hz (j + 1) (by simpa using hj))
theorem cl_mem {cl : List Cl} {k : Nat} (h : k < cl.length) : cl.getD k cl0 ∈ cl := by
  rw [List.getD_eq_getElem?_getD, List.getElem?_eq_getElem h]; simp
theorem cl_at {cl : List Cl} {k : Nat} (h : k < cl.length) : (cl.map Cl.val)[k]? = some (.func (.func (cl.getD k cl0).F) (cl.getD k cl0).B (cl.getD k cl0).C) := by
  rw [List.getElem?_map, List.getD_eq_getElem?_getD, List.getElem?_eq_getElem h]; rfl
theorem cl_e {cl : List Cl} {k : Nat} : (cl.map Cl.e).getD k 0 = (cl.getD k cl0).e := by
  simp only [List.getD_eq_getElem?_getD, List.getElem?_map]
  cases cl[k]? <;> rfl
theorem chk_first (f : Fm) : firstE [if decide (1 ≤ f.k ∧ f.k ≤ 3) = true then 0 else 14, if decide (f.fr < 16 ∧ f.to < 16 ∧ ¬ f.fr = f.to) = true then 0 else 1, if decide (f.d.length ≤ 65536) = true then 0 else 15] = checkF f := by
  unfold checkF
  by_cases h1 : 1 ≤ f.k ∧ f.k ≤ 3
  · rw [if_neg (show ¬ (f.k < 1 ∨ 3 < f.k) by omega), if_pos (decide_eq_true h1), firstE, if_pos rfl]
    by_cases h2 : f.fr < 16 ∧ f.to < 16 ∧ ¬ f.fr = f.to
    · rw [if_neg (show ¬ (16 ≤ f.fr ∨ 16 ≤ f.to ∨ f.fr = f.to) by omega), if_pos (decide_eq_true h2), firstE, if_pos rfl]
      by_cases h3 : f.d.length ≤ 65536
      · rw [if_neg (show ¬ 65536 < f.d.length by omega), if_pos (decide_eq_true h3)]; rfl
      · rw [if_pos (show 65536 < f.d.length by omega), if_neg (by simpa using h3)]; rfl
    · rw [if_pos (show 16 ≤ f.fr ∨ 16 ≤ f.to ∨ f.fr = f.to by omega), if_neg (by simpa using h2)]; rfl
  · rw [if_pos (show f.k < 1 ∨ 3 < f.k by omega), if_neg (by simpa using h1)]; rfl
theorem fm_ne {f g : Fm} (h : ¬ (f.k : Int) = g.k ∨ ¬ (f.fr : Int) = g.fr ∨ ¬ (f.to : Int) = g.to ∨ ¬ (f.ss : Int) = g.ss ∨ ¬ (f.sq : Int) = g.sq ∨ ¬ (f.pt : Int) = g.pt ∨ ¬ (f.off : Int) = g.off ∨ ¬ f.la = g.la ∨ ¬ f.d = g.d) : ¬ f = g := by
  intro e; subst e; simp at h
theorem fm_eq {f g : Fm} (h1 : (f.k : Int) = g.k) (h2 : (f.fr : Int) = g.fr) (h3 : (f.to : Int) = g.to) (h4 : (f.ss : Int) = g.ss) (h5 : (f.sq : Int) = g.sq) (h6 : (f.pt : Int) = g.pt) (h7 : (f.off : Int) = g.off) (h8 : f.la = g.la) (h9 : f.d = g.d) : f = g := by
  cases f; cases g
  simp only at *
  simp only [Fm.mk.injEq]
  refine ⟨?_, ?_, ?_, ?_, ?_, ?_, ?_, h8, h9⟩ <;> omega
instance : DecidableEq Fm := fun f g => if h : f.k = g.k ∧ f.fr = g.fr ∧ f.to = g.to ∧ f.ss = g.ss ∧ f.sq = g.sq ∧ f.pt = g.pt ∧ f.off = g.off ∧ f.la = g.la ∧ f.d = g.d then isTrue (fm_eq (by omega) (by omega) (by omega) (by omega) (by omega) (by omega) (by omega) h.2.2.2.2.2.2.2.1 h.2.2.2.2.2.2.2.2) else isFalse (fun e => h (by subst e; simp))

theorem c_frTruth (b : Bool)  (w0 : World) :
    CallR Try.prog 152 #[.bool b] w0 fun v w' => v = .int .u8 (boolN b) ∧ Ext w0 w' := by
 have hS : St NoB w0 w0 [] := St.start w0
 refine c_enter (l := [.bool b, undef, undef, undef, undef]) Try.func152 rfl (by simp only [Try.ntmps152, List.size_toArray, List.length_cons, List.length_nil, Nat.reduceAdd, Nat.reduceSub, Array.replicate_succ, Array.replicate_zero, List.push_toArray, List.append_toArray, List.nil_append, List.cons_append]) ?_
 refine x_seq fun K1 hK1 => ?_
 refine x_region ?_
 refine s_go (s_assign) ?_
 try simp only [opv, n1, n2, n3, n4, Value.cells]
 refine x_nil ?_
 refine hK1 _ _ ?_
 refine x_seq fun K2 hK2 => ?_
 refine x_block ?_
 refine x_seq fun K3 hK3 => ?_
 refine x_region ?_
 refine s_go (s_move) ?_
 try simp only [opv, n1, n2, n3, n4, Value.cells]
 refine s_go (s_assign) ?_
 try simp only [opv, n1, n2, n3, n4, Value.cells]
 refine x_nil ?_
 refine hK3 _ _ ?_
 refine x_cond (ht := fun hc1 => ?_) (hf := fun hc1 => ?_)
 ·
  try simp only [decide_eq_true_eq, decide_eq_false_iff_not, Bool.not_eq_true', Bool.not_eq_false', Int.not_lt, Int.not_le, ne_eq, Decidable.not_not, bne_iff_ne, beq_iff_eq, not_true_eq_false, not_false_eq_true] at hc1
  have hb : b = true := hc1
  subst hb
  refine x_seq fun K4 hK4 => ?_
  refine x_region ?_
  refine s_go (s_assign) ?_
  try simp only [opv, n1, n2, n3, n4, Value.cells]
  refine x_nil ?_
  refine hK4 _ _ ?_
  refine x_ret ?_
  refine r_tmp rfl ?_
  exact ⟨rfl, hS.ext_of⟩
 ·
  try simp only [decide_eq_true_eq, decide_eq_false_iff_not, Bool.not_eq_true', Bool.not_eq_false', Int.not_lt, Int.not_le, ne_eq, Decidable.not_not, bne_iff_ne, beq_iff_eq, not_true_eq_false, not_false_eq_true] at hc1
  have hb : b = false := by simpa using hc1
  subst hb
  refine x_skip ?_
  refine hK2 _ _ ?_
  refine x_seq fun K5 hK5 => ?_
  refine x_region ?_
  refine s_go (s_assign) ?_
  try simp only [opv, n1, n2, n3, n4, Value.cells]
  refine x_nil ?_
  refine hK5 _ _ ?_
  refine x_ret ?_
  refine r_tmp rfl ?_
  exact ⟨rfl, hS.ext_of⟩
theorem c_frChk1 (w0 : World) (q : Nat) (f : Fm) (A : Option Addr) (cp : Nat) (hq : Rd w0 (some ⟨q, 0, none⟩) 1 9 (fmL f A cp))  :
    CallR Try.prog 161 #[.pointer (some ⟨q, 0, none⟩)] w0 fun v w' => v = .bool (decide (1 ≤ f.k ∧ f.k ≤ 3)) ∧ Ext w0 w' := by
 have hS := St.rd1 (S := NoB) hq
 refine c_enter (l := [.pointer (some ⟨q, 0, none⟩), undef, undef, undef, undef, undef, undef, undef, undef, undef]) Try.func161 rfl (by simp only [Try.ntmps161, List.size_toArray, List.length_cons, List.length_nil, Nat.reduceAdd, Nat.reduceSub, Array.replicate_succ, Array.replicate_zero, List.push_toArray, List.append_toArray, List.nil_append, List.cons_append]) ?_
 refine x_seq fun K1 hK1 => ?_
 refine x_region ?_
 refine s_go (s_assign) ?_
 try simp only [opv, n1, n2, n3, n4, Value.cells]
 refine x_nil ?_
 refine hK1 _ _ ?_
 refine x_seq fun K2 hK2 => ?_
 refine x_region ?_
 refine s_go (m_fieldAddr Try.underlying90 (hi := ti5)) ?_
 try simp only [opv, n1, n2, n3, n4, Value.cells, Nat.zero_add, Nat.add_zero, List.getElem_toArray, List.getElem_cons_zero, List.getElem_cons_succ]
 refine s_go (m_load_bx Try.underlying5 (hS := hS)) ?_
 try simp only [opv, n1, n2, n3, n4, Value.cells, List.getElem_toArray, List.getElem_cons_zero, List.getElem_cons_succ]
 refine s_go (s_geq) ?_
 try simp only [opv, n1, n2, n3, n4, Value.cells]
 refine s_go (s_move) ?_
 try simp only [opv, n1, n2, n3, n4, Value.cells]
 refine s_part 5 rfl (fun hp1 => ?_) (fun hp1 => ?_)
 ·
  try simp only [n3, n4]
  try simp only [decide_eq_true_eq, decide_eq_false_iff_not, Bool.not_eq_true', Bool.not_eq_false', Int.not_lt, Int.not_le, ne_eq, Decidable.not_not] at hp1
  refine g_on (yi (t := 5) rfl rfl) ?_
  refine s_go (m_fieldAddr Try.underlying90 (hi := ti5)) ?_
  try simp only [opv, n1, n2, n3, n4, Value.cells, Nat.zero_add, Nat.add_zero, List.getElem_toArray, List.getElem_cons_zero, List.getElem_cons_succ]
  refine g_on (yi (t := 5) rfl rfl) ?_
  refine s_go (m_load_bx Try.underlying5 (hS := hS)) ?_
  try simp only [opv, n1, n2, n3, n4, Value.cells, List.getElem_toArray, List.getElem_cons_zero, List.getElem_cons_succ]
  refine g_on (yi (t := 5) rfl rfl) ?_
  refine s_go (s_leq) ?_
  try simp only [opv, n1, n2, n3, n4, Value.cells]
  refine s_go (s_pick_t) ?_
  try simp only [opv, n1, n2, n3, n4, Value.cells]
  refine s_go (s_assign) ?_
  try simp only [opv, n1, n2, n3, n4, Value.cells]
  refine x_nil ?_
  refine hK2 _ _ ?_
  refine x_ret ?_
  refine r_tmp rfl ?_
  exact ⟨congrArg Value.bool (by exact decide_eq_decide.2 (by omega)), hS.ext_of⟩
 ·
  try simp only [n3, n4]
  try simp only [decide_eq_true_eq, decide_eq_false_iff_not, Bool.not_eq_true', Bool.not_eq_false', Int.not_lt, Int.not_le, ne_eq, Decidable.not_not] at hp1
  refine g_off (yi (t := 5) rfl rfl) ?_
  try simp only [opv, n1, n2, n3, n4, Value.cells]
  refine g_off (yi (t := 5) rfl rfl) ?_
  try simp only [opv, n1, n2, n3, n4, Value.cells]
  refine g_off (yi (t := 5) rfl rfl) ?_
  try simp only [opv, n1, n2, n3, n4, Value.cells]
  refine s_go (s_pick_f) ?_
  try simp only [opv, n1, n2, n3, n4, Value.cells]
  refine s_go (s_assign) ?_
  try simp only [opv, n1, n2, n3, n4, Value.cells]
  refine x_nil ?_
  refine hK2 _ _ ?_
  refine x_ret ?_
  refine r_tmp rfl ?_
  exact ⟨congrArg Value.bool (by exact (decide_eq_false (by omega)).symm), hS.ext_of⟩
theorem c_frChk2 (w0 : World) (q : Nat) (f : Fm) (A : Option Addr) (cp : Nat) (hq : Rd w0 (some ⟨q, 0, none⟩) 1 9 (fmL f A cp))  :
    CallR Try.prog 162 #[.pointer (some ⟨q, 0, none⟩)] w0 fun v w' => v = .bool (decide (f.fr < 16 ∧ f.to < 16 ∧ ¬ f.fr = f.to)) ∧ Ext w0 w' := by
 have hS := St.rd1 (S := NoB) hq
 refine c_enter (l := [.pointer (some ⟨q, 0, none⟩), undef, undef, undef, undef, undef, undef, undef, undef, undef, undef, undef, undef, undef, undef, undef, undef]) Try.func162 rfl (by simp only [Try.ntmps162, List.size_toArray, List.length_cons, List.length_nil, Nat.reduceAdd, Nat.reduceSub, Array.replicate_succ, Array.replicate_zero, List.push_toArray, List.append_toArray, List.nil_append, List.cons_append]) ?_
 refine x_seq fun K1 hK1 => ?_
 refine x_region ?_
 refine s_go (s_assign) ?_
 try simp only [opv, n1, n2, n3, n4, Value.cells]
 refine x_nil ?_
 refine hK1 _ _ ?_
 refine x_seq fun K2 hK2 => ?_
 refine x_region ?_
 refine s_go (m_fieldAddr Try.underlying90 (hi := ti5)) ?_
 try simp only [opv, n1, n2, n3, n4, Value.cells, Nat.zero_add, Nat.add_zero, List.getElem_toArray, List.getElem_cons_zero, List.getElem_cons_succ]
 refine s_go (m_load_bx Try.underlying5 (hS := hS)) ?_
 try simp only [opv, n1, n2, n3, n4, Value.cells, List.getElem_toArray, List.getElem_cons_zero, List.getElem_cons_succ]
 refine s_go (s_lss) ?_
 try simp only [opv, n1, n2, n3, n4, Value.cells]
 refine s_go (s_move) ?_
 try simp only [opv, n1, n2, n3, n4, Value.cells]
 refine s_part 5 rfl (fun hp1 => ?_) (fun hp1 => ?_)
 ·
  try simp only [n3, n4]
  try simp only [decide_eq_true_eq, decide_eq_false_iff_not, Bool.not_eq_true', Bool.not_eq_false', Int.not_lt, Int.not_le, ne_eq, Decidable.not_not] at hp1
  refine g_on (yi (t := 5) rfl rfl) ?_
  refine s_go (m_fieldAddr Try.underlying90 (hi := ti5)) ?_
  try simp only [opv, n1, n2, n3, n4, Value.cells, Nat.zero_add, Nat.add_zero, List.getElem_toArray, List.getElem_cons_zero, List.getElem_cons_succ]
  refine g_on (yi (t := 5) rfl rfl) ?_
  refine s_go (m_load_bx Try.underlying5 (hS := hS)) ?_
  try simp only [opv, n1, n2, n3, n4, Value.cells, List.getElem_toArray, List.getElem_cons_zero, List.getElem_cons_succ]
  refine g_on (yi (t := 5) rfl rfl) ?_
  refine s_go (s_lss) ?_
  try simp only [opv, n1, n2, n3, n4, Value.cells]
  refine s_go (s_pick_t) ?_
  try simp only [opv, n1, n2, n3, n4, Value.cells]
  refine s_go (s_move) ?_
  try simp only [opv, n1, n2, n3, n4, Value.cells]
  refine s_part 10 rfl (fun hp2 => ?_) (fun hp2 => ?_)
  ·
   try simp only [n3, n4]
   try simp only [decide_eq_true_eq, decide_eq_false_iff_not, Bool.not_eq_true', Bool.not_eq_false', Int.not_lt, Int.not_le, ne_eq, Decidable.not_not] at hp2
   refine g_on (yi (t := 10) rfl rfl) ?_
   refine s_go (m_fieldAddr Try.underlying90 (hi := ti5)) ?_
   try simp only [opv, n1, n2, n3, n4, Value.cells, Nat.zero_add, Nat.add_zero, List.getElem_toArray, List.getElem_cons_zero, List.getElem_cons_succ]
   refine g_on (yi (t := 10) rfl rfl) ?_
   refine s_go (m_load_bx Try.underlying5 (hS := hS)) ?_
   try simp only [opv, n1, n2, n3, n4, Value.cells, List.getElem_toArray, List.getElem_cons_zero, List.getElem_cons_succ]
   refine g_on (yi (t := 10) rfl rfl) ?_
   refine s_go (m_fieldAddr Try.underlying90 (hi := ti5)) ?_
   try simp only [opv, n1, n2, n3, n4, Value.cells, Nat.zero_add, Nat.add_zero, List.getElem_toArray, List.getElem_cons_zero, List.getElem_cons_succ]
   refine g_on (yi (t := 10) rfl rfl) ?_
   refine s_go (m_load_bx Try.underlying5 (hS := hS)) ?_
   try simp only [opv, n1, n2, n3, n4, Value.cells, List.getElem_toArray, List.getElem_cons_zero, List.getElem_cons_succ]
   refine g_on (yi (t := 10) rfl rfl) ?_
   refine s_go (s_neq) ?_
   try simp only [opv, n1, n2, n3, n4, Value.cells]
   refine s_go (s_pick_t) ?_
   try simp only [opv, n1, n2, n3, n4, Value.cells]
   refine s_go (s_assign) ?_
   try simp only [opv, n1, n2, n3, n4, Value.cells]
   refine x_nil ?_
   refine hK2 _ _ ?_
   refine x_ret ?_
   refine r_tmp rfl ?_
   exact ⟨congrArg Value.bool (by exact decide_eq_decide.2 (by omega)), hS.ext_of⟩
  ·
   try simp only [n3, n4]
   try simp only [decide_eq_true_eq, decide_eq_false_iff_not, Bool.not_eq_true', Bool.not_eq_false', Int.not_lt, Int.not_le, ne_eq, Decidable.not_not] at hp2
   refine g_off (yi (t := 10) rfl rfl) ?_
   try simp only [opv, n1, n2, n3, n4, Value.cells]
   refine g_off (yi (t := 10) rfl rfl) ?_
   try simp only [opv, n1, n2, n3, n4, Value.cells]
   refine g_off (yi (t := 10) rfl rfl) ?_
   try simp only [opv, n1, n2, n3, n4, Value.cells]
   refine g_off (yi (t := 10) rfl rfl) ?_
   try simp only [opv, n1, n2, n3, n4, Value.cells]
   refine g_off (yi (t := 10) rfl rfl) ?_
   try simp only [opv, n1, n2, n3, n4, Value.cells]
   refine s_go (s_pick_f) ?_
   try simp only [opv, n1, n2, n3, n4, Value.cells]
   refine s_go (s_assign) ?_
   try simp only [opv, n1, n2, n3, n4, Value.cells]
   refine x_nil ?_
   refine hK2 _ _ ?_
   refine x_ret ?_
   refine r_tmp rfl ?_
   exact ⟨congrArg Value.bool (by exact (decide_eq_false (by omega)).symm), hS.ext_of⟩
 ·
  try simp only [n3, n4]
  try simp only [decide_eq_true_eq, decide_eq_false_iff_not, Bool.not_eq_true', Bool.not_eq_false', Int.not_lt, Int.not_le, ne_eq, Decidable.not_not] at hp1
  refine g_off (yi (t := 5) rfl rfl) ?_
  try simp only [opv, n1, n2, n3, n4, Value.cells]
  refine g_off (yi (t := 5) rfl rfl) ?_
  try simp only [opv, n1, n2, n3, n4, Value.cells]
  refine g_off (yi (t := 5) rfl rfl) ?_
  try simp only [opv, n1, n2, n3, n4, Value.cells]
  refine s_go (s_pick_f) ?_
  try simp only [opv, n1, n2, n3, n4, Value.cells]
  refine s_go (s_move) ?_
  try simp only [opv, n1, n2, n3, n4, Value.cells]
  refine g_off (yi (t := 10) rfl rfl) ?_
  try simp only [opv, n1, n2, n3, n4, Value.cells]
  refine g_off (yi (t := 10) rfl rfl) ?_
  try simp only [opv, n1, n2, n3, n4, Value.cells]
  refine g_off (yi (t := 10) rfl rfl) ?_
  try simp only [opv, n1, n2, n3, n4, Value.cells]
  refine g_off (yi (t := 10) rfl rfl) ?_
  try simp only [opv, n1, n2, n3, n4, Value.cells]
  refine g_off (yi (t := 10) rfl rfl) ?_
  try simp only [opv, n1, n2, n3, n4, Value.cells]
  refine s_go (s_pick_f) ?_
  try simp only [opv, n1, n2, n3, n4, Value.cells]
  refine s_go (s_assign) ?_
  try simp only [opv, n1, n2, n3, n4, Value.cells]
  refine x_nil ?_
  refine hK2 _ _ ?_
  refine x_ret ?_
  refine r_tmp rfl ?_
  exact ⟨congrArg Value.bool (by exact (decide_eq_false (by omega)).symm), hS.ext_of⟩
theorem c_frChk3 (w0 : World) (q : Nat) (f : Fm) (A : Option Addr) (cp : Nat) (hq : Rd w0 (some ⟨q, 0, none⟩) 1 9 (fmL f A cp))  :
    CallR Try.prog 163 #[.pointer (some ⟨q, 0, none⟩)] w0 fun v w' => v = .bool (decide (f.d.length ≤ 65536)) ∧ Ext w0 w' := by
 have hS := St.rd1 (S := NoB) hq
 refine c_enter (l := [.pointer (some ⟨q, 0, none⟩), undef, undef, undef, undef, undef]) Try.func163 rfl (by simp only [Try.ntmps163, List.size_toArray, List.length_cons, List.length_nil, Nat.reduceAdd, Nat.reduceSub, Array.replicate_succ, Array.replicate_zero, List.push_toArray, List.append_toArray, List.nil_append, List.cons_append]) ?_
 refine x_seq fun K1 hK1 => ?_
 refine x_region ?_
 refine s_go (s_assign) ?_
 try simp only [opv, n1, n2, n3, n4, Value.cells]
 refine x_nil ?_
 refine hK1 _ _ ?_
 refine x_seq fun K2 hK2 => ?_
 refine x_region ?_
 refine s_go (m_fieldAddr Try.underlying90 (hi := ti43)) ?_
 try simp only [opv, n1, n2, n3, n4, Value.cells, Nat.zero_add, Nat.add_zero, List.getElem_toArray, List.getElem_cons_zero, List.getElem_cons_succ]
 refine s_go (m_load_bx Try.underlying43 (hS := hS)) ?_
 try simp only [opv, n1, n2, n3, n4, Value.cells, List.getElem_toArray, List.getElem_cons_zero, List.getElem_cons_succ]
 refine s_go (s_len_sl Try.underlying43) ?_
 try simp only [opv, n1, n2, n3, n4, Value.cells]
 refine s_go (s_leq) ?_
 try simp only [opv, n1, n2, n3, n4, Value.cells]
 refine s_go (s_assign) ?_
 try simp only [opv, n1, n2, n3, n4, Value.cells]
 refine x_nil ?_
 refine hK2 _ _ ?_
 refine x_ret ?_
 refine r_tmp rfl ?_
 exact ⟨congrArg Value.bool (by exact decide_eq_decide.2 (by omega)), hS.ext_of⟩
theorem c_frUnless1 (w0 : World) (g2 g3 q : Nat) (F : Nat) (e : Int) (b : Bool) (he : Enters Try.prog F) (hq : Rd w0 (some ⟨g2, 0, none⟩) 1 1 [.func (.func F) #[] #[.pointer (some ⟨q, 0, none⟩)]]) (hq3 : Rd w0 (some ⟨g3, 0, none⟩) 1 1 [.int .i64 e]) (H : ∀ w, Ext w0 w → CallR Try.prog F #[.pointer (some ⟨q, 0, none⟩)] w fun v w' => v = .bool b ∧ Ext w w')  :
    CallR Try.prog 230 #[.pointer (some ⟨g2, 0, none⟩), .pointer (some ⟨g3, 0, none⟩)] w0 fun v w' => v = .int .i64 (if b = true then 0 else e) ∧ Ext w0 w' := by
 have hS := St.rd2 (S := NoB) hq hq3
 refine c_enter (l := [.pointer (some ⟨g2, 0, none⟩), .pointer (some ⟨g3, 0, none⟩), undef, undef, undef, undef]) Try.func230 rfl (by simp only [Try.ntmps230, List.size_toArray, List.length_cons, List.length_nil, Nat.reduceAdd, Nat.reduceSub, Array.replicate_succ, Array.replicate_zero, List.push_toArray, List.append_toArray, List.nil_append, List.cons_append]) ?_
 refine x_seq fun K1 hK1 => ?_
 refine x_region ?_
 refine s_go (s_assign) ?_
 try simp only [opv, n1, n2, n3, n4, Value.cells]
 refine x_nil ?_
 refine hK1 _ _ ?_
 refine x_seq fun K2 hK2 => ?_
 refine x_seq fun K3 hK3 => ?_
 refine x_region ?_
 refine s_go (m_load_bx Try.underlying23 (hS := hS)) ?_
 try simp only [opv, n1, n2, n3, n4, Value.cells, List.getElem_toArray, List.getElem_cons_zero, List.getElem_cons_succ]
 refine s_callv (hv := rfl) he ?_
 try simp only [opv, n1, n2, n3, n4, Value.cells, List.map_toArray, List.map_cons, List.map_nil, List.append_toArray, List.cons_append, List.nil_append, Array.append_empty]
 refine CallR.mono (H _ hS.ext_of) ?_
 rintro _ w1 ⟨rfl, hE1⟩
 replace hS := hS.ext hE1
 try simp only [opv, n1, n2, n3, n4, Value.cells]
 refine x_nil ?_
 refine hK3 _ _ ?_
 refine x_cond (ht := fun hc1 => ?_) (hf := fun hc1 => ?_)
 ·
  try simp only [decide_eq_true_eq, decide_eq_false_iff_not, Bool.not_eq_true', Bool.not_eq_false', Int.not_lt, Int.not_le, ne_eq, Decidable.not_not, bne_iff_ne, beq_iff_eq, not_true_eq_false, not_false_eq_true] at hc1
  have hb : b = true := hc1
  subst hb
  refine x_seq fun K4 hK4 => ?_
  refine x_region ?_
  refine s_go (s_assign) ?_
  try simp only [opv, n1, n2, n3, n4, Value.cells]
  refine x_nil ?_
  refine hK4 _ _ ?_
  refine x_ret ?_
  refine r_tmp rfl ?_
  exact ⟨rfl, hS.ext_of⟩
 ·
  try simp only [decide_eq_true_eq, decide_eq_false_iff_not, Bool.not_eq_true', Bool.not_eq_false', Int.not_lt, Int.not_le, ne_eq, Decidable.not_not, bne_iff_ne, beq_iff_eq, not_true_eq_false, not_false_eq_true] at hc1
  have hb : b = false := by simpa using hc1
  subst hb
  refine x_skip ?_
  refine hK2 _ _ ?_
  refine x_seq fun K5 hK5 => ?_
  refine x_region ?_
  refine s_go (m_load_bx Try.underlying53 (hS := hS)) ?_
  try simp only [opv, n1, n2, n3, n4, Value.cells, List.getElem_toArray, List.getElem_cons_zero, List.getElem_cons_succ]
  refine s_go (s_assign) ?_
  try simp only [opv, n1, n2, n3, n4, Value.cells]
  refine x_nil ?_
  refine hK5 _ _ ?_
  refine x_ret ?_
  refine r_tmp rfl ?_
  exact ⟨rfl, hS.ext_of⟩
theorem c_frUnless (F q : Nat) (e : Int)  (w0 : World) :
    CallR Try.prog 154 #[.func (.func F) #[] #[.pointer (some ⟨q, 0, none⟩)], .int .i64 e] w0 fun v w' => ∃ a b, v = .func (.func 230) #[] #[.pointer (some ⟨a, 0, none⟩), .pointer (some ⟨b, 0, none⟩)] ∧ St NoB w0 w' [.obj b (.cells #[.int .i64 e] 53 (0, 0)), .obj a (.cells #[.func (.func F) #[] #[.pointer (some ⟨q, 0, none⟩)]] 23 (0, 0))] := by
 have hS : St NoB w0 w0 [] := St.start w0
 refine c_enter (l := [.func (.func F) #[] #[.pointer (some ⟨q, 0, none⟩)], .int .i64 e, undef, undef, undef, undef]) Try.func154 rfl (by simp only [Try.ntmps154, List.size_toArray, List.length_cons, List.length_nil, Nat.reduceAdd, Nat.reduceSub, Array.replicate_succ, Array.replicate_zero, List.push_toArray, List.append_toArray, List.nil_append, List.cons_append]) ?_
 refine x_seq fun K1 hK1 => ?_
 refine x_region ?_
 refine m_box hS (fun w1 g1 hS => ?_)
 try simp only [opv, n1, n2, n3, n4, Value.cells, Array.toArray_toList] at hS ⊢
 refine m_box hS (fun w2 g2 hS => ?_)
 try simp only [opv, n1, n2, n3, n4, Value.cells, Array.toArray_toList] at hS ⊢
 refine s_go (s_assign) ?_
 try simp only [opv, n1, n2, n3, n4, Value.cells]
 refine x_nil ?_
 refine hK1 _ _ ?_
 refine x_seq fun K2 hK2 => ?_
 refine x_region ?_
 refine s_go (s_makeFunc) ?_
 try simp only [opv, n1, n2, n3, n4, Value.cells, List.map_toArray, List.map_cons, List.map_nil]
 refine s_go (s_assign) ?_
 try simp only [opv, n1, n2, n3, n4, Value.cells]
 refine x_nil ?_
 refine hK2 _ _ ?_
 refine x_ret ?_
 refine r_tmp rfl ?_
 exact ⟨_, _, rfl, hS.sel (by repeat (first | exact Sel.nil | (refine Sel.cons (by repeat (exact Del.head)) ?_)))⟩
theorem c_frFirst (w0 : World) (A : Option Addr) (n c : Nat) (cl : List Cl) (hr : Rd w0 A 1 n (cl.map Cl.val)) (hl : cl.length = n) (hn : n ≤ 1000) (he : ∀ x ∈ cl, Enters Try.prog x.F) (H : ∀ x ∈ cl, ∀ w, Ext w0 w → CallR Try.prog x.F (x.B ++ x.C) w fun v w' => v = .int .i64 x.e ∧ Ext w w') :
    CallR Try.prog 153 #[.slice A n c] w0 fun v w' => v = .int .i64 (firstE (cl.map Cl.e)) ∧ Ext w0 w' := by
 have hS := St.rd1 (S := NoB) hr
 refine c_enter (l := [.slice A n c, undef, undef, undef, undef, undef, undef, undef, undef, undef, undef, undef, undef, undef, undef, undef, undef, undef]) Try.func153 rfl (by simp only [Try.ntmps153, List.size_toArray, List.length_cons, List.length_nil, Nat.reduceAdd, Nat.reduceSub, Array.replicate_succ, Array.replicate_zero, List.push_toArray, List.append_toArray, List.nil_append, List.cons_append]) ?_
 refine x_seq fun K1 hK1 => ?_
 refine x_region ?_
 refine s_go (s_assign) ?_
 try simp only [opv, n1, n2, n3, n4, Value.cells]
 refine x_nil ?_
 refine hK1 _ _ ?_
 refine x_seq fun K2 hK2 => ?_
 refine x_seq fun K3 hK3 => ?_
 refine x_region ?_
 refine s_go (s_move) ?_
 try simp only [opv, n1, n2, n3, n4, Value.cells]
 refine s_go (s_len_sl Try.underlying247) ?_
 try simp only [opv, n1, n2, n3, n4, Value.cells]
 refine s_go (s_move) ?_
 try simp only [opv, n1, n2, n3, n4, Value.cells]
 refine x_nil ?_
 refine hK3 _ _ ?_
 refine x_block ?_
 refine x_loop [2, 4, 5, 8, 9, 10, 11, 12, 13, 14, 15, 16, 17] (fun m f w => ∃ k : Nat, k ≤ n ∧ m = n - k ∧ f 8 = .int .i64 (k : Int) ∧ (∀ j, j < k → (cl.map Cl.e).getD j 0 = 0) ∧ St NoB w0 w [.rd A 1 n (cl.map Cl.val)]) (n) ?init1 (fun m1 f1 wl1 hI => ?_)
 case init1 =>
  try simp only [opv, n1, n2, n3, n4, Value.cells]
  exact ⟨0, by omega, rfl, rfl, fun j hj => absurd hj (by omega), hS⟩
 obtain ⟨k, hk, hm, h8, hz, hS⟩ := hI
 simp only [clob, List.foldl, n3, n4, h8]
 refine x_seq fun K4 hK4 => ?_
 refine x_region ?_
 refine s_go (s_lss) ?_
 try simp only [opv, n1, n2, n3, n4, Value.cells]
 refine x_nil ?_
 refine hK4 _ _ ?_
 refine x_seq fun K5 hK5 => ?_
 refine x_cond (ht := fun hc1 => ?_) (hf := fun hc1 => ?_)
 ·
  try simp only [decide_eq_true_eq, decide_eq_false_iff_not, Bool.not_eq_true', Bool.not_eq_false', Int.not_lt, Int.not_le, ne_eq, Decidable.not_not, bne_iff_ne, beq_iff_eq, not_true_eq_false, not_false_eq_true] at hc1
  have hcm := cl_mem (cl := cl) (k := k) (by omega)
  refine x_skip ?_
  refine hK5 _ _ ?_
  refine x_seq fun K6 hK6 => ?_
  refine x_block ?_
  refine x_seq fun K7 hK7 => ?_
  refine x_region ?_
  refine s_go (m_indexAddr_rd Try.underlying247 ti54 (hS := hS)) ?_
  try simp only [opv, n1, n2, n3, n4, Value.cells, Nat.mul_one, Nat.zero_add, Int.toNat_natCast, Int.reduceToNat]
  refine s_go (m_load_rd Try.underlying54 (hS := hS) (hv := cl_at (by omega))) ?_
  try simp only [opv, n1, n2, n3, n4, Value.cells, List.getElem_toArray, List.getElem_cons_zero, List.getElem_cons_succ]
  refine s_go (s_assign) ?_
  try simp only [opv, n1, n2, n3, n4, Value.cells]
  refine x_nil ?_
  refine hK7 _ _ ?_
  refine x_seq fun K8 hK8 => ?_
  refine x_region ?_
  refine s_go (s_move) ?_
  try simp only [opv, n1, n2, n3, n4, Value.cells]
  refine s_callm (hv := rfl) (he _ hcm) ?_
  try simp only [opv, n1, n2, n3, n4, Value.cells, List.map_toArray, List.map_cons, List.map_nil, List.append_toArray, List.cons_append, List.nil_append, Array.append_empty]
  refine CallR.mono (H _ hcm _ hS.ext_of) ?_
  rintro _ w1 ⟨rfl, hE1⟩
  replace hS := hS.ext hE1
  try simp only [opv, n1, n2, n3, n4, Value.cells]
  refine s_go (s_assign) ?_
  try simp only [opv, n1, n2, n3, n4, Value.cells]
  refine x_nil ?_
  refine hK8 _ _ ?_
  refine x_seq fun K9 hK9 => ?_
  refine x_region ?_
  refine s_go (s_move) ?_
  try simp only [opv, n1, n2, n3, n4, Value.cells]
  refine s_go (s_neq) ?_
  try simp only [opv, n1, n2, n3, n4, Value.cells]
  refine x_nil ?_
  refine hK9 _ _ ?_
  refine x_cond (ht := fun hc2 => ?_) (hf := fun hc2 => ?_)
  ·
   try simp only [decide_eq_true_eq, decide_eq_false_iff_not, Bool.not_eq_true', Bool.not_eq_false', Int.not_lt, Int.not_le, ne_eq, Decidable.not_not, bne_iff_ne, beq_iff_eq, not_true_eq_false, not_false_eq_true] at hc2
   have hne : ¬ (cl.getD k cl0).e = 0 := hc2
   refine x_seq fun K10 hK10 => ?_
   refine x_region ?_
   refine s_go (s_move) ?_
   try simp only [opv, n1, n2, n3, n4, Value.cells]
   refine s_go (s_assign) ?_
   try simp only [opv, n1, n2, n3, n4, Value.cells]
   refine x_nil ?_
   refine hK10 _ _ ?_
   refine x_ret ?_
   refine r_tmp rfl ?_
   exact ⟨congrArg (Value.int .i64) (by rw [firstE_at hz (by simp; omega) (by rw [cl_e]; exact hne), cl_e]), hS.ext_of⟩
  ·
   try simp only [decide_eq_true_eq, decide_eq_false_iff_not, Bool.not_eq_true', Bool.not_eq_false', Int.not_lt, Int.not_le, ne_eq, Decidable.not_not, bne_iff_ne, beq_iff_eq, not_true_eq_false, not_false_eq_true] at hc2
   have hne : (cl.getD k cl0).e = 0 := hc2
   refine x_skip ?_
   refine hK6 _ _ ?_
   refine x_region ?_
   refine s_go (s_add (hc := by exact wr_i64 (by omega) (by omega))) ?_
   try simp only [opv, n1, n2, n3, n4, Value.cells]
   refine s_go (s_move) ?_
   try simp only [opv, n1, n2, n3, n4, Value.cells]
   refine x_nil ?_
   refine loop_back (m' := n - (k + 1)) (by simp only [clob, List.foldl, n1, n2, n3, n4]) ?_ ?_
   · try simp only [opv, n1, n2, n3, n4, Value.cells]
     exact ⟨k + 1, by omega, by omega, by rfl, fun j hj => by rcases Nat.lt_or_eq_of_le (Nat.le_of_lt_succ hj) with h | rfl; exact hz j h; rw [cl_e]; exact hne, hS⟩
   · omega
 ·
  try simp only [decide_eq_true_eq, decide_eq_false_iff_not, Bool.not_eq_true', Bool.not_eq_false', Int.not_lt, Int.not_le, ne_eq, Decidable.not_not, bne_iff_ne, beq_iff_eq, not_true_eq_false, not_false_eq_true] at hc1
  obtain rfl : k = n := by omega
  refine x_exit (look_here ?_)
  refine hK2 _ _ ?_
  refine x_seq fun K11 hK11 => ?_
  refine x_region ?_
  refine s_go (s_assign) ?_
  try simp only [opv, n1, n2, n3, n4, Value.cells]
  refine x_nil ?_
  refine hK11 _ _ ?_
  refine x_ret ?_
  refine r_tmp rfl ?_
  exact ⟨congrArg (Value.int .i64) (firstE_end (fun j hj => hz j (by simp at hj; omega))).symm, hS.ext_of⟩

theorem cl_unless {w0 : World} {g2 g3 q : Nat} {F : Nat} {e : Int} {b : Bool} (he : Enters Try.prog F) (hq : Rd w0 (some ⟨g2, 0, none⟩) 1 1 [.func (.func F) #[] #[.pointer (some ⟨q, 0, none⟩)]]) (hq3 : Rd w0 (some ⟨g3, 0, none⟩) 1 1 [.int .i64 e]) (H : ∀ w, Ext w0 w → CallR Try.prog F #[.pointer (some ⟨q, 0, none⟩)] w fun v w' => v = .bool b ∧ Ext w w') :
    ∀ w, Ext w0 w → CallR Try.prog 230 (#[] ++ #[.pointer (some ⟨g2, 0, none⟩), .pointer (some ⟨g3, 0, none⟩)]) w fun v w' => v = .int .i64 (if b = true then 0 else e) ∧ Ext w w' :=
  fun w hE => c_frUnless1 w g2 g3 q F e b he (hq.ext' hE) (hq3.ext' hE) (fun w' hE' => H w' (hE.trans hE'))
theorem c_frCheck (f : Fm) (A : Option Addr) (cp : Nat)  (w0 : World) :
    CallR Try.prog 66 #[.agg (FA f A cp)] w0 fun v w' => v = .int .i64 (checkF f) ∧ Ext w0 w' := by
 have hS : St NoB w0 w0 [] := St.start w0
 refine c_enter (l := [.agg (FA f A cp), undef, undef, undef, undef, undef, undef, undef, undef, undef, undef]) Try.func66 rfl (by simp only [Try.ntmps66, List.size_toArray, List.length_cons, List.length_nil, Nat.reduceAdd, Nat.reduceSub, Array.replicate_succ, Array.replicate_zero, List.push_toArray, List.append_toArray, List.nil_append, List.cons_append]) ?_
 refine x_seq fun K1 hK1 => ?_
 refine x_region ?_
 refine m_box hS (fun w1 g1 hS => ?_)
 try simp only [opv, n1, n2, n3, n4, Value.cells, Array.toArray_toList] at hS ⊢
 refine s_go (s_assign) ?_
 try simp only [opv, n1, n2, n3, n4, Value.cells]
 refine x_nil ?_
 refine hK1 _ _ ?_
 refine x_seq fun K2 hK2 => ?_
 refine x_region ?_
 refine s_go (s_makeFunc) ?_
 try simp only [opv, n1, n2, n3, n4, Value.cells, List.map_toArray, List.map_cons, List.map_nil]
 refine s_call en154 ?_
 try simp only [opv, n1, n2, n3, n4, Value.cells, List.map_toArray, List.map_cons, List.map_nil, List.append_toArray, List.cons_append, List.nil_append, Array.append_empty]
 refine CallR.mono (c_frUnless _ _ _ _) ?_
 rintro _ w2 ⟨a1, b1, rfl, hC2⟩
 replace hS := hS.call hC2
 simp only [List.cons_append, List.nil_append] at hS
 try simp only [opv, n1, n2, n3, n4, Value.cells]
 refine s_go (s_makeFunc) ?_
 try simp only [opv, n1, n2, n3, n4, Value.cells, List.map_toArray, List.map_cons, List.map_nil]
 refine s_call en154 ?_
 try simp only [opv, n1, n2, n3, n4, Value.cells, List.map_toArray, List.map_cons, List.map_nil, List.append_toArray, List.cons_append, List.nil_append, Array.append_empty]
 refine CallR.mono (c_frUnless _ _ _ _) ?_
 rintro _ w3 ⟨a2, b2, rfl, hC3⟩
 replace hS := hS.call hC3
 simp only [List.cons_append, List.nil_append] at hS
 try simp only [opv, n1, n2, n3, n4, Value.cells]
 refine s_go (s_makeFunc) ?_
 try simp only [opv, n1, n2, n3, n4, Value.cells, List.map_toArray, List.map_cons, List.map_nil]
 refine s_call en154 ?_
 try simp only [opv, n1, n2, n3, n4, Value.cells, List.map_toArray, List.map_cons, List.map_nil, List.append_toArray, List.cons_append, List.nil_append, Array.append_empty]
 refine CallR.mono (c_frUnless _ _ _ _) ?_
 rintro _ w4 ⟨a3, b3, rfl, hC4⟩
 replace hS := hS.call hC4
 simp only [List.cons_append, List.nil_append] at hS
 try simp only [opv, n1, n2, n3, n4, Value.cells]
 refine m_buildRow (cells := #[_, _, _]) Try.underlying247 ti54 (hc := by simp only [List.map_toArray, List.map_cons, List.map_nil, opv, n1, n2, n3, n4, Value.cells, List.toList_toArray]; (repeat (refine fill_cons rfl rfl (Nat.le_of_ble_eq_true rfl) ?_)); rfl) (hS := hS) (h := fun w5 g5 hS => ?_)
 try simp only [opv, n1, n2, n3, n4, Value.cells, Array.toArray_toList] at hS ⊢
 replace hS := hS.obj_rd (sz := 1) (n := 3) rfl .head
 refine s_call en153 ?_
 try simp only [opv, n1, n2, n3, n4, Value.cells, List.map_toArray, List.map_cons, List.map_nil, List.append_toArray, List.cons_append, List.nil_append, Array.append_empty]
 refine CallR.mono (c_frFirst _ _ 3 _ [⟨230, #[], #[.pointer (some ⟨a1, 0, none⟩), .pointer (some ⟨b1, 0, none⟩)], if decide (1 ≤ f.k ∧ f.k ≤ 3) = true then 0 else 14⟩, ⟨230, #[], #[.pointer (some ⟨a2, 0, none⟩), .pointer (some ⟨b2, 0, none⟩)], if decide (f.fr < 16 ∧ f.to < 16 ∧ ¬ f.fr = f.to) = true then 0 else 1⟩, ⟨230, #[], #[.pointer (some ⟨a3, 0, none⟩), .pointer (some ⟨b3, 0, none⟩)], if decide (f.d.length ≤ 65536) = true then 0 else 15⟩] (hS.hasRd (by repeat (exact Has.head))) rfl (by decide) (by intro x hx; simp only [List.mem_cons, List.not_mem_nil, or_false] at hx; rcases hx with rfl | rfl | rfl <;> exact en230) (by intro x hx; simp only [List.mem_cons, List.not_mem_nil, or_false] at hx; rcases hx with rfl | rfl | rfl <;> first | exact cl_unless en161 (hS.objRd (g := a1) (cs := #[.func (.func 161) #[] #[.pointer (some ⟨g1, 0, none⟩)]]) (by repeat (first | exact Has.head | apply Has.tail))) (hS.objRd (g := b1) (cs := #[.int .i64 14]) (by repeat (first | exact Has.head | apply Has.tail))) (fun w hE => c_frChk1 _ g1 f A cp ((hS.objRd (g := g1) (cs := FA f A cp) (by repeat (first | exact Has.head | apply Has.tail))).ext' hE)) | exact cl_unless en162 (hS.objRd (g := a2) (cs := #[.func (.func 162) #[] #[.pointer (some ⟨g1, 0, none⟩)]]) (by repeat (first | exact Has.head | apply Has.tail))) (hS.objRd (g := b2) (cs := #[.int .i64 1]) (by repeat (first | exact Has.head | apply Has.tail))) (fun w hE => c_frChk2 _ g1 f A cp ((hS.objRd (g := g1) (cs := FA f A cp) (by repeat (first | exact Has.head | apply Has.tail))).ext' hE)) | exact cl_unless en163 (hS.objRd (g := a3) (cs := #[.func (.func 163) #[] #[.pointer (some ⟨g1, 0, none⟩)]]) (by repeat (first | exact Has.head | apply Has.tail))) (hS.objRd (g := b3) (cs := #[.int .i64 15]) (by repeat (first | exact Has.head | apply Has.tail))) (fun w hE => c_frChk3 _ g1 f A cp ((hS.objRd (g := g1) (cs := FA f A cp) (by repeat (first | exact Has.head | apply Has.tail))).ext' hE)))) ?_
 rintro _ w6 ⟨rfl, hE6⟩
 replace hS := hS.ext hE6
 try simp only [opv, n1, n2, n3, n4, Value.cells]
 refine s_go (s_assign) ?_
 try simp only [opv, n1, n2, n3, n4, Value.cells]
 refine x_nil ?_
 refine hK2 _ _ ?_
 refine x_ret ?_
 refine r_tmp rfl ?_
 exact ⟨congrArg (Value.int .i64) (chk_first f), hS.ext_of⟩
theorem c_ref27Check (f : Fm) (A : Option Addr) (cp : Nat)  (w0 : World) :
    CallR Try.prog 67 #[.agg (FA f A cp)] w0 fun v w' => v = .int .i64 (checkF f) ∧ Ext w0 w' := by
 have hS : St NoB w0 w0 [] := St.start w0
 refine c_enter (l := [.agg (FA f A cp), undef, undef, undef, undef, undef, undef, undef, undef, undef, undef, undef, undef, undef, undef, undef, undef, undef, undef, undef, undef, undef, undef, undef, undef, undef, undef, undef, undef, undef, undef, undef, undef]) Try.func67 rfl (by simp only [Try.ntmps67, List.size_toArray, List.length_cons, List.length_nil, Nat.reduceAdd, Nat.reduceSub, Array.replicate_succ, Array.replicate_zero, List.push_toArray, List.append_toArray, List.nil_append, List.cons_append]) ?_
 refine x_seq fun K1 hK1 => ?_
 refine x_region ?_
 refine m_box hS (fun w1 g1 hS => ?_)
 try simp only [opv, n1, n2, n3, n4, Value.cells, Array.toArray_toList] at hS ⊢
 refine s_go (s_assign) ?_
 try simp only [opv, n1, n2, n3, n4, Value.cells]
 refine x_nil ?_
 refine hK1 _ _ ?_
 refine x_seq fun K2 hK2 => ?_
 refine x_block ?_
 refine x_seq fun K3 hK3 => ?_
 refine x_region ?_
 refine s_go (m_fieldAddr Try.underlying90 (hi := ti5)) ?_
 try simp only [opv, n1, n2, n3, n4, Value.cells, Nat.zero_add, Nat.add_zero, List.getElem_toArray, List.getElem_cons_zero, List.getElem_cons_succ]
 refine s_go (m_load_obj Try.underlying5 (hS := hS)) ?_
 try simp only [opv, n1, n2, n3, n4, Value.cells, List.getElem_toArray, List.getElem_cons_zero, List.getElem_cons_succ]
 refine s_go (s_lss) ?_
 try simp only [opv, n1, n2, n3, n4, Value.cells]
 refine s_go (s_move) ?_
 try simp only [opv, n1, n2, n3, n4, Value.cells]
 refine s_part 7 rfl (fun hp1 => ?_) (fun hp1 => ?_)
 ·
  try simp only [n3, n4]
  try simp only [decide_eq_true_eq, decide_eq_false_iff_not, Bool.not_eq_true', Bool.not_eq_false', Int.not_lt, Int.not_le, ne_eq, Decidable.not_not] at hp1
  refine g_off (yi (t := 7) rfl rfl) ?_
  try simp only [opv, n1, n2, n3, n4, Value.cells]
  refine g_off (yi (t := 7) rfl rfl) ?_
  try simp only [opv, n1, n2, n3, n4, Value.cells]
  refine g_off (yi (t := 7) rfl rfl) ?_
  try simp only [opv, n1, n2, n3, n4, Value.cells]
  refine s_go (s_pick_t) ?_
  try simp only [opv, n1, n2, n3, n4, Value.cells]
  refine s_go (s_assign) ?_
  try simp only [opv, n1, n2, n3, n4, Value.cells]
  refine x_nil ?_
  refine hK3 _ _ ?_
  refine x_cond_t (h := ?_)
  refine x_seq fun K4 hK4 => ?_
  refine x_region ?_
  refine s_go (s_assign) ?_
  try simp only [opv, n1, n2, n3, n4, Value.cells]
  refine x_nil ?_
  refine hK4 _ _ ?_
  refine x_ret ?_
  refine r_tmp rfl ?_
  exact ⟨congrArg (Value.int .i64) (by unfold checkF; (rw [if_pos (by omega)]; done)), hS.ext_of⟩
 ·
  try simp only [n3, n4]
  try simp only [decide_eq_true_eq, decide_eq_false_iff_not, Bool.not_eq_true', Bool.not_eq_false', Int.not_lt, Int.not_le, ne_eq, Decidable.not_not] at hp1
  refine g_on (yi (t := 7) rfl rfl) ?_
  refine s_go (m_fieldAddr Try.underlying90 (hi := ti5)) ?_
  try simp only [opv, n1, n2, n3, n4, Value.cells, Nat.zero_add, Nat.add_zero, List.getElem_toArray, List.getElem_cons_zero, List.getElem_cons_succ]
  refine g_on (yi (t := 7) rfl rfl) ?_
  refine s_go (m_load_obj Try.underlying5 (hS := hS)) ?_
  try simp only [opv, n1, n2, n3, n4, Value.cells, List.getElem_toArray, List.getElem_cons_zero, List.getElem_cons_succ]
  refine g_on (yi (t := 7) rfl rfl) ?_
  refine s_go (s_gtr) ?_
  try simp only [opv, n1, n2, n3, n4, Value.cells]
  refine s_go (s_pick_f) ?_
  try simp only [opv, n1, n2, n3, n4, Value.cells]
  refine s_part 11 rfl (fun hp2 => ?_) (fun hp2 => ?_)
  ·
   try simp only [n3, n4]
   try simp only [decide_eq_true_eq, decide_eq_false_iff_not, Bool.not_eq_true', Bool.not_eq_false', Int.not_lt, Int.not_le, ne_eq, Decidable.not_not] at hp2
   refine s_go (s_assign) ?_
   try simp only [opv, n1, n2, n3, n4, Value.cells]
   refine x_nil ?_
   refine hK3 _ _ ?_
   refine x_cond_t (h := ?_)
   refine x_seq fun K5 hK5 => ?_
   refine x_region ?_
   refine s_go (s_assign) ?_
   try simp only [opv, n1, n2, n3, n4, Value.cells]
   refine x_nil ?_
   refine hK5 _ _ ?_
   refine x_ret ?_
   refine r_tmp rfl ?_
   exact ⟨congrArg (Value.int .i64) (by unfold checkF; (rw [if_pos (by omega)]; done)), hS.ext_of⟩
  ·
   try simp only [n3, n4]
   try simp only [decide_eq_true_eq, decide_eq_false_iff_not, Bool.not_eq_true', Bool.not_eq_false', Int.not_lt, Int.not_le, ne_eq, Decidable.not_not] at hp2
   refine s_go (s_assign) ?_
   try simp only [opv, n1, n2, n3, n4, Value.cells]
   refine x_nil ?_
   refine hK3 _ _ ?_
   refine x_cond_f (h := ?_)
   refine x_seq fun K6 hK6 => ?_
   refine x_region ?_
   refine s_go (m_fieldAddr Try.underlying90 (hi := ti5)) ?_
   try simp only [opv, n1, n2, n3, n4, Value.cells, Nat.zero_add, Nat.add_zero, List.getElem_toArray, List.getElem_cons_zero, List.getElem_cons_succ]
   refine s_go (m_load_obj Try.underlying5 (hS := hS)) ?_
   try simp only [opv, n1, n2, n3, n4, Value.cells, List.getElem_toArray, List.getElem_cons_zero, List.getElem_cons_succ]
   refine s_go (s_geq) ?_
   try simp only [opv, n1, n2, n3, n4, Value.cells]
   refine s_go (s_move) ?_
   try simp only [opv, n1, n2, n3, n4, Value.cells]
   refine s_part 16 rfl (fun hp3 => ?_) (fun hp3 => ?_)
   ·
    try simp only [n3, n4]
    try simp only [decide_eq_true_eq, decide_eq_false_iff_not, Bool.not_eq_true', Bool.not_eq_false', Int.not_lt, Int.not_le, ne_eq, Decidable.not_not] at hp3
    refine g_off (yi (t := 16) rfl rfl) ?_
    try simp only [opv, n1, n2, n3, n4, Value.cells]
    refine g_off (yi (t := 16) rfl rfl) ?_
    try simp only [opv, n1, n2, n3, n4, Value.cells]
    refine g_off (yi (t := 16) rfl rfl) ?_
    try simp only [opv, n1, n2, n3, n4, Value.cells]
    refine s_go (s_pick_t) ?_
    try simp only [opv, n1, n2, n3, n4, Value.cells]
    refine s_go (s_move) ?_
    try simp only [opv, n1, n2, n3, n4, Value.cells]
    refine g_off (yi (t := 21) rfl rfl) ?_
    try simp only [opv, n1, n2, n3, n4, Value.cells]
    refine g_off (yi (t := 21) rfl rfl) ?_
    try simp only [opv, n1, n2, n3, n4, Value.cells]
    refine g_off (yi (t := 21) rfl rfl) ?_
    try simp only [opv, n1, n2, n3, n4, Value.cells]
    refine g_off (yi (t := 21) rfl rfl) ?_
    try simp only [opv, n1, n2, n3, n4, Value.cells]
    refine g_off (yi (t := 21) rfl rfl) ?_
    try simp only [opv, n1, n2, n3, n4, Value.cells]
    refine s_go (s_pick_t) ?_
    try simp only [opv, n1, n2, n3, n4, Value.cells]
    refine s_go (s_assign) ?_
    try simp only [opv, n1, n2, n3, n4, Value.cells]
    refine x_nil ?_
    refine hK6 _ _ ?_
    refine x_cond_t (h := ?_)
    refine x_seq fun K7 hK7 => ?_
    refine x_region ?_
    refine s_go (s_assign) ?_
    try simp only [opv, n1, n2, n3, n4, Value.cells]
    refine x_nil ?_
    refine hK7 _ _ ?_
    refine x_ret ?_
    refine r_tmp rfl ?_
    exact ⟨congrArg (Value.int .i64) (by unfold checkF; (rw [if_neg (by omega), if_pos (by omega)]; done)), hS.ext_of⟩
   ·
    try simp only [n3, n4]
    try simp only [decide_eq_true_eq, decide_eq_false_iff_not, Bool.not_eq_true', Bool.not_eq_false', Int.not_lt, Int.not_le, ne_eq, Decidable.not_not] at hp3
    refine g_on (yi (t := 16) rfl rfl) ?_
    refine s_go (m_fieldAddr Try.underlying90 (hi := ti5)) ?_
    try simp only [opv, n1, n2, n3, n4, Value.cells, Nat.zero_add, Nat.add_zero, List.getElem_toArray, List.getElem_cons_zero, List.getElem_cons_succ]
    refine g_on (yi (t := 16) rfl rfl) ?_
    refine s_go (m_load_obj Try.underlying5 (hS := hS)) ?_
    try simp only [opv, n1, n2, n3, n4, Value.cells, List.getElem_toArray, List.getElem_cons_zero, List.getElem_cons_succ]
    refine g_on (yi (t := 16) rfl rfl) ?_
    refine s_go (s_geq) ?_
    try simp only [opv, n1, n2, n3, n4, Value.cells]
    refine s_go (s_pick_f) ?_
    try simp only [opv, n1, n2, n3, n4, Value.cells]
    refine s_go (s_move) ?_
    try simp only [opv, n1, n2, n3, n4, Value.cells]
    refine s_part 21 rfl (fun hp4 => ?_) (fun hp4 => ?_)
    ·
     try simp only [n3, n4]
     try simp only [decide_eq_true_eq, decide_eq_false_iff_not, Bool.not_eq_true', Bool.not_eq_false', Int.not_lt, Int.not_le, ne_eq, Decidable.not_not] at hp4
     refine g_off (yi (t := 21) rfl rfl) ?_
     try simp only [opv, n1, n2, n3, n4, Value.cells]
     refine g_off (yi (t := 21) rfl rfl) ?_
     try simp only [opv, n1, n2, n3, n4, Value.cells]
     refine g_off (yi (t := 21) rfl rfl) ?_
     try simp only [opv, n1, n2, n3, n4, Value.cells]
     refine g_off (yi (t := 21) rfl rfl) ?_
     try simp only [opv, n1, n2, n3, n4, Value.cells]
     refine g_off (yi (t := 21) rfl rfl) ?_
     try simp only [opv, n1, n2, n3, n4, Value.cells]
     refine s_go (s_pick_t) ?_
     try simp only [opv, n1, n2, n3, n4, Value.cells]
     refine s_go (s_assign) ?_
     try simp only [opv, n1, n2, n3, n4, Value.cells]
     refine x_nil ?_
     refine hK6 _ _ ?_
     refine x_cond_t (h := ?_)
     refine x_seq fun K8 hK8 => ?_
     refine x_region ?_
     refine s_go (s_assign) ?_
     try simp only [opv, n1, n2, n3, n4, Value.cells]
     refine x_nil ?_
     refine hK8 _ _ ?_
     refine x_ret ?_
     refine r_tmp rfl ?_
     exact ⟨congrArg (Value.int .i64) (by unfold checkF; (rw [if_neg (by omega), if_pos (by omega)]; done)), hS.ext_of⟩
    ·
     try simp only [n3, n4]
     try simp only [decide_eq_true_eq, decide_eq_false_iff_not, Bool.not_eq_true', Bool.not_eq_false', Int.not_lt, Int.not_le, ne_eq, Decidable.not_not] at hp4
     refine g_on (yi (t := 21) rfl rfl) ?_
     refine s_go (m_fieldAddr Try.underlying90 (hi := ti5)) ?_
     try simp only [opv, n1, n2, n3, n4, Value.cells, Nat.zero_add, Nat.add_zero, List.getElem_toArray, List.getElem_cons_zero, List.getElem_cons_succ]
     refine g_on (yi (t := 21) rfl rfl) ?_
     refine s_go (m_load_obj Try.underlying5 (hS := hS)) ?_
     try simp only [opv, n1, n2, n3, n4, Value.cells, List.getElem_toArray, List.getElem_cons_zero, List.getElem_cons_succ]
     refine g_on (yi (t := 21) rfl rfl) ?_
     refine s_go (m_fieldAddr Try.underlying90 (hi := ti5)) ?_
     try simp only [opv, n1, n2, n3, n4, Value.cells, Nat.zero_add, Nat.add_zero, List.getElem_toArray, List.getElem_cons_zero, List.getElem_cons_succ]
     refine g_on (yi (t := 21) rfl rfl) ?_
     refine s_go (m_load_obj Try.underlying5 (hS := hS)) ?_
     try simp only [opv, n1, n2, n3, n4, Value.cells, List.getElem_toArray, List.getElem_cons_zero, List.getElem_cons_succ]
     refine g_on (yi (t := 21) rfl rfl) ?_
     refine s_go (s_eql) ?_
     try simp only [opv, n1, n2, n3, n4, Value.cells]
     refine s_go (s_pick_f) ?_
     try simp only [opv, n1, n2, n3, n4, Value.cells]
     refine s_part 27 rfl (fun hp5 => ?_) (fun hp5 => ?_)
     ·
      try simp only [n3, n4]
      try simp only [decide_eq_true_eq, decide_eq_false_iff_not, Bool.not_eq_true', Bool.not_eq_false', Int.not_lt, Int.not_le, ne_eq, Decidable.not_not] at hp5
      refine s_go (s_assign) ?_
      try simp only [opv, n1, n2, n3, n4, Value.cells]
      refine x_nil ?_
      refine hK6 _ _ ?_
      refine x_cond_t (h := ?_)
      refine x_seq fun K9 hK9 => ?_
      refine x_region ?_
      refine s_go (s_assign) ?_
      try simp only [opv, n1, n2, n3, n4, Value.cells]
      refine x_nil ?_
      refine hK9 _ _ ?_
      refine x_ret ?_
      refine r_tmp rfl ?_
      exact ⟨congrArg (Value.int .i64) (by unfold checkF; (rw [if_neg (by omega), if_pos (by omega)]; done)), hS.ext_of⟩
     ·
      try simp only [n3, n4]
      try simp only [decide_eq_true_eq, decide_eq_false_iff_not, Bool.not_eq_true', Bool.not_eq_false', Int.not_lt, Int.not_le, ne_eq, Decidable.not_not] at hp5
      refine s_go (s_assign) ?_
      try simp only [opv, n1, n2, n3, n4, Value.cells]
      refine x_nil ?_
      refine hK6 _ _ ?_
      refine x_cond_f (h := ?_)
      refine x_seq fun K10 hK10 => ?_
      refine x_region ?_
      refine s_go (m_fieldAddr Try.underlying90 (hi := ti43)) ?_
      try simp only [opv, n1, n2, n3, n4, Value.cells, Nat.zero_add, Nat.add_zero, List.getElem_toArray, List.getElem_cons_zero, List.getElem_cons_succ]
      refine s_go (m_load_obj Try.underlying43 (hS := hS)) ?_
      try simp only [opv, n1, n2, n3, n4, Value.cells, List.getElem_toArray, List.getElem_cons_zero, List.getElem_cons_succ]
      refine s_go (s_len_sl Try.underlying43) ?_
      try simp only [opv, n1, n2, n3, n4, Value.cells]
      refine s_go (s_gtr) ?_
      try simp only [opv, n1, n2, n3, n4, Value.cells]
      refine s_go (s_assign) ?_
      try simp only [opv, n1, n2, n3, n4, Value.cells]
      refine x_nil ?_
      refine hK10 _ _ ?_
      refine x_cond (ht := fun hc8 => ?_) (hf := fun hc8 => ?_)
      ·
       try simp only [decide_eq_true_eq, decide_eq_false_iff_not, Bool.not_eq_true', Bool.not_eq_false', Int.not_lt, Int.not_le, ne_eq, Decidable.not_not, bne_iff_ne, beq_iff_eq, not_true_eq_false, not_false_eq_true] at hc8
       refine x_seq fun K11 hK11 => ?_
       refine x_region ?_
       refine s_go (s_assign) ?_
       try simp only [opv, n1, n2, n3, n4, Value.cells]
       refine x_nil ?_
       refine hK11 _ _ ?_
       refine x_ret ?_
       refine r_tmp rfl ?_
       exact ⟨congrArg (Value.int .i64) (by unfold checkF; (rw [if_neg (by omega), if_neg (by omega), if_pos (by omega)]; done)), hS.ext_of⟩
      ·
       try simp only [decide_eq_true_eq, decide_eq_false_iff_not, Bool.not_eq_true', Bool.not_eq_false', Int.not_lt, Int.not_le, ne_eq, Decidable.not_not, bne_iff_ne, beq_iff_eq, not_true_eq_false, not_false_eq_true] at hc8
       refine x_skip ?_
       refine hK2 _ _ ?_
       refine x_seq fun K12 hK12 => ?_
       refine x_region ?_
       refine s_go (s_assign) ?_
       try simp only [opv, n1, n2, n3, n4, Value.cells]
       refine x_nil ?_
       refine hK12 _ _ ?_
       refine x_ret ?_
       refine r_tmp rfl ?_
       exact ⟨congrArg (Value.int .i64) (by unfold checkF; (rw [if_neg (by omega), if_neg (by omega), if_neg (by omega)]; done)), hS.ext_of⟩
theorem c_frRoom (n : Int) (hn : n ≤ 9223372036854775807)  (w0 : World) :
    CallR Try.prog 69 #[.int .i64 n] w0 fun v w' => v = .int .i64 (if n < 32 then 0 else n - 26) ∧ Ext w0 w' := by
 have hS : St NoB w0 w0 [] := St.start w0
 refine c_enter (l := [.int .i64 n, undef, undef, undef, undef, undef, undef]) Try.func69 rfl (by simp only [Try.ntmps69, List.size_toArray, List.length_cons, List.length_nil, Nat.reduceAdd, Nat.reduceSub, Array.replicate_succ, Array.replicate_zero, List.push_toArray, List.append_toArray, List.nil_append, List.cons_append]) ?_
 refine x_seq fun K1 hK1 => ?_
 refine x_region ?_
 refine s_go (s_assign) ?_
 try simp only [opv, n1, n2, n3, n4, Value.cells]
 refine x_nil ?_
 refine hK1 _ _ ?_
 refine x_seq fun K2 hK2 => ?_
 refine x_seq fun K3 hK3 => ?_
 refine x_region ?_
 refine s_go (s_move) ?_
 try simp only [opv, n1, n2, n3, n4, Value.cells]
 refine s_go (s_lss) ?_
 try simp only [opv, n1, n2, n3, n4, Value.cells]
 refine x_nil ?_
 refine hK3 _ _ ?_
 refine x_cond (ht := fun hc1 => ?_) (hf := fun hc1 => ?_)
 ·
  try simp only [decide_eq_true_eq, decide_eq_false_iff_not, Bool.not_eq_true', Bool.not_eq_false', Int.not_lt, Int.not_le, ne_eq, Decidable.not_not, bne_iff_ne, beq_iff_eq, not_true_eq_false, not_false_eq_true] at hc1
  refine x_seq fun K4 hK4 => ?_
  refine x_region ?_
  refine s_go (s_assign) ?_
  try simp only [opv, n1, n2, n3, n4, Value.cells]
  refine x_nil ?_
  refine hK4 _ _ ?_
  refine x_ret ?_
  refine r_tmp rfl ?_
  exact ⟨congrArg (Value.int .i64) (if_pos (by omega)).symm, hS.ext_of⟩
 ·
  try simp only [decide_eq_true_eq, decide_eq_false_iff_not, Bool.not_eq_true', Bool.not_eq_false', Int.not_lt, Int.not_le, ne_eq, Decidable.not_not, bne_iff_ne, beq_iff_eq, not_true_eq_false, not_false_eq_true] at hc1
  refine x_skip ?_
  refine hK2 _ _ ?_
  refine x_seq fun K5 hK5 => ?_
  refine x_region ?_
  refine s_go (s_move) ?_
  try simp only [opv, n1, n2, n3, n4, Value.cells]
  refine s_go (s_sub (hc := by exact wr_i64 (by omega) (by omega))) ?_
  try simp only [opv, n1, n2, n3, n4, Value.cells]
  refine s_go (s_assign) ?_
  try simp only [opv, n1, n2, n3, n4, Value.cells]
  refine x_nil ?_
  refine hK5 _ _ ?_
  refine x_ret ?_
  refine r_tmp rfl ?_
  exact ⟨congrArg (Value.int .i64) (if_neg (by omega)).symm, hS.ext_of⟩
theorem c_ref27Same (w0 : World) (f g : Fm) (A B : Option Addr) (cp dp : Nat) (hA : Rd w0 A 1 f.d.length (f.d.map (Value.int .u8))) (hB : Rd w0 B 1 g.d.length (g.d.map (Value.int .u8))) (hfd : Byt f.d) (hgd : Byt g.d) (hfl : f.d.length ≤ 140737488355000)  :
    CallR Try.prog 62 #[.agg (FA f A cp), .agg (FA g B dp)] w0 fun v w' => v = .bool (decide (f = g)) ∧ Ext w0 w' := by
 have hS := St.rd2 (S := NoB) hA hB
 refine c_enter (l := [.agg (FA f A cp), .agg (FA g B dp), undef, undef, undef, undef, undef, undef, undef, undef, undef, undef, undef, undef, undef, undef, undef, undef, undef, undef, undef, undef, undef, undef, undef, undef, undef, undef, undef, undef, undef, undef, undef, undef, undef, undef, undef, undef, undef, undef, undef, undef, undef, undef, undef, undef, undef, undef, undef, undef, undef, undef, undef, undef, undef, undef, undef, undef, undef, undef, undef, undef, undef, undef, undef, undef]) Try.func62 rfl (by simp only [Try.ntmps62, List.size_toArray, List.length_cons, List.length_nil, Nat.reduceAdd, Nat.reduceSub, Array.replicate_succ, Array.replicate_zero, List.push_toArray, List.append_toArray, List.nil_append, List.cons_append]) ?_
 refine x_seq fun K1 hK1 => ?_
 refine x_region ?_
 refine m_box hS (fun w1 g1 hS => ?_)
 try simp only [opv, n1, n2, n3, n4, Value.cells, Array.toArray_toList] at hS ⊢
 refine m_box hS (fun w2 g2 hS => ?_)
 try simp only [opv, n1, n2, n3, n4, Value.cells, Array.toArray_toList] at hS ⊢
 refine s_go (s_assign) ?_
 try simp only [opv, n1, n2, n3, n4, Value.cells]
 refine x_nil ?_
 refine hK1 _ _ ?_
 refine x_seq fun K2 hK2 => ?_
 refine x_region ?_
 refine s_go (m_fieldAddr Try.underlying90 (hi := ti5)) ?_
 try simp only [opv, n1, n2, n3, n4, Value.cells, Nat.zero_add, Nat.add_zero, List.getElem_toArray, List.getElem_cons_zero, List.getElem_cons_succ]
 refine s_go (m_load_obj Try.underlying5 (hS := hS)) ?_
 try simp only [opv, n1, n2, n3, n4, Value.cells, List.getElem_toArray, List.getElem_cons_zero, List.getElem_cons_succ]
 refine s_go (m_fieldAddr Try.underlying90 (hi := ti5)) ?_
 try simp only [opv, n1, n2, n3, n4, Value.cells, Nat.zero_add, Nat.add_zero, List.getElem_toArray, List.getElem_cons_zero, List.getElem_cons_succ]
 refine s_go (m_load_obj Try.underlying5 (hS := hS)) ?_
 try simp only [opv, n1, n2, n3, n4, Value.cells, List.getElem_toArray, List.getElem_cons_zero, List.getElem_cons_succ]
 refine s_go (s_eql) ?_
 try simp only [opv, n1, n2, n3, n4, Value.cells]
 refine s_go (s_move) ?_
 try simp only [opv, n1, n2, n3, n4, Value.cells]
 refine s_part 10 rfl (fun hp1 => ?_) (fun hp1 => ?_)
 ·
  try simp only [n3, n4]
  try simp only [decide_eq_true_eq, decide_eq_false_iff_not, Bool.not_eq_true', Bool.not_eq_false', Int.not_lt, Int.not_le, ne_eq, Decidable.not_not] at hp1
  have he0 : (f.k : Int) = g.k := hp1
  refine g_on (yi (t := 10) rfl rfl) ?_
  refine s_go (m_fieldAddr Try.underlying90 (hi := ti5)) ?_
  try simp only [opv, n1, n2, n3, n4, Value.cells, Nat.zero_add, Nat.add_zero, List.getElem_toArray, List.getElem_cons_zero, List.getElem_cons_succ]
  refine g_on (yi (t := 10) rfl rfl) ?_
  refine s_go (m_load_obj Try.underlying5 (hS := hS)) ?_
  try simp only [opv, n1, n2, n3, n4, Value.cells, List.getElem_toArray, List.getElem_cons_zero, List.getElem_cons_succ]
  refine g_on (yi (t := 10) rfl rfl) ?_
  refine s_go (m_fieldAddr Try.underlying90 (hi := ti5)) ?_
  try simp only [opv, n1, n2, n3, n4, Value.cells, Nat.zero_add, Nat.add_zero, List.getElem_toArray, List.getElem_cons_zero, List.getElem_cons_succ]
  refine g_on (yi (t := 10) rfl rfl) ?_
  refine s_go (m_load_obj Try.underlying5 (hS := hS)) ?_
  try simp only [opv, n1, n2, n3, n4, Value.cells, List.getElem_toArray, List.getElem_cons_zero, List.getElem_cons_succ]
  refine g_on (yi (t := 10) rfl rfl) ?_
  refine s_go (s_eql) ?_
  try simp only [opv, n1, n2, n3, n4, Value.cells]
  refine s_go (s_pick_t) ?_
  try simp only [opv, n1, n2, n3, n4, Value.cells]
  refine s_go (s_move) ?_
  try simp only [opv, n1, n2, n3, n4, Value.cells]
  refine s_part 17 rfl (fun hp2 => ?_) (fun hp2 => ?_)
  ·
   try simp only [n3, n4]
   try simp only [decide_eq_true_eq, decide_eq_false_iff_not, Bool.not_eq_true', Bool.not_eq_false', Int.not_lt, Int.not_le, ne_eq, Decidable.not_not] at hp2
   have he1 : (f.fr : Int) = g.fr := hp2
   refine g_on (yi (t := 17) rfl rfl) ?_
   refine s_go (m_fieldAddr Try.underlying90 (hi := ti5)) ?_
   try simp only [opv, n1, n2, n3, n4, Value.cells, Nat.zero_add, Nat.add_zero, List.getElem_toArray, List.getElem_cons_zero, List.getElem_cons_succ]
   refine g_on (yi (t := 17) rfl rfl) ?_
   refine s_go (m_load_obj Try.underlying5 (hS := hS)) ?_
   try simp only [opv, n1, n2, n3, n4, Value.cells, List.getElem_toArray, List.getElem_cons_zero, List.getElem_cons_succ]
   refine g_on (yi (t := 17) rfl rfl) ?_
   refine s_go (m_fieldAddr Try.underlying90 (hi := ti5)) ?_
   try simp only [opv, n1, n2, n3, n4, Value.cells, Nat.zero_add, Nat.add_zero, List.getElem_toArray, List.getElem_cons_zero, List.getElem_cons_succ]
   refine g_on (yi (t := 17) rfl rfl) ?_
   refine s_go (m_load_obj Try.underlying5 (hS := hS)) ?_
   try simp only [opv, n1, n2, n3, n4, Value.cells, List.getElem_toArray, List.getElem_cons_zero, List.getElem_cons_succ]
   refine g_on (yi (t := 17) rfl rfl) ?_
   refine s_go (s_eql) ?_
   try simp only [opv, n1, n2, n3, n4, Value.cells]
   refine s_go (s_pick_t) ?_
   try simp only [opv, n1, n2, n3, n4, Value.cells]
   refine s_go (s_move) ?_
   try simp only [opv, n1, n2, n3, n4, Value.cells]
   refine s_part 24 rfl (fun hp3 => ?_) (fun hp3 => ?_)
   ·
    try simp only [n3, n4]
    try simp only [decide_eq_true_eq, decide_eq_false_iff_not, Bool.not_eq_true', Bool.not_eq_false', Int.not_lt, Int.not_le, ne_eq, Decidable.not_not] at hp3
    have he2 : (f.to : Int) = g.to := hp3
    refine g_on (yi (t := 24) rfl rfl) ?_
    refine s_go (m_fieldAddr Try.underlying90 (hi := ti25)) ?_
    try simp only [opv, n1, n2, n3, n4, Value.cells, Nat.zero_add, Nat.add_zero, List.getElem_toArray, List.getElem_cons_zero, List.getElem_cons_succ]
    refine g_on (yi (t := 24) rfl rfl) ?_
    refine s_go (m_load_obj Try.underlying25 (hS := hS)) ?_
    try simp only [opv, n1, n2, n3, n4, Value.cells, List.getElem_toArray, List.getElem_cons_zero, List.getElem_cons_succ]
    refine g_on (yi (t := 24) rfl rfl) ?_
    refine s_go (m_fieldAddr Try.underlying90 (hi := ti25)) ?_
    try simp only [opv, n1, n2, n3, n4, Value.cells, Nat.zero_add, Nat.add_zero, List.getElem_toArray, List.getElem_cons_zero, List.getElem_cons_succ]
    refine g_on (yi (t := 24) rfl rfl) ?_
    refine s_go (m_load_obj Try.underlying25 (hS := hS)) ?_
    try simp only [opv, n1, n2, n3, n4, Value.cells, List.getElem_toArray, List.getElem_cons_zero, List.getElem_cons_succ]
    refine g_on (yi (t := 24) rfl rfl) ?_
    refine s_go (s_eql) ?_
    try simp only [opv, n1, n2, n3, n4, Value.cells]
    refine s_go (s_pick_t) ?_
    try simp only [opv, n1, n2, n3, n4, Value.cells]
    refine s_go (s_move) ?_
    try simp only [opv, n1, n2, n3, n4, Value.cells]
    refine s_part 31 rfl (fun hp4 => ?_) (fun hp4 => ?_)
    ·
     try simp only [n3, n4]
     try simp only [decide_eq_true_eq, decide_eq_false_iff_not, Bool.not_eq_true', Bool.not_eq_false', Int.not_lt, Int.not_le, ne_eq, Decidable.not_not] at hp4
     have he3 : (f.ss : Int) = g.ss := hp4
     refine g_on (yi (t := 31) rfl rfl) ?_
     refine s_go (m_fieldAddr Try.underlying90 (hi := ti25)) ?_
     try simp only [opv, n1, n2, n3, n4, Value.cells, Nat.zero_add, Nat.add_zero, List.getElem_toArray, List.getElem_cons_zero, List.getElem_cons_succ]
     refine g_on (yi (t := 31) rfl rfl) ?_
     refine s_go (m_load_obj Try.underlying25 (hS := hS)) ?_
     try simp only [opv, n1, n2, n3, n4, Value.cells, List.getElem_toArray, List.getElem_cons_zero, List.getElem_cons_succ]
     refine g_on (yi (t := 31) rfl rfl) ?_
     refine s_go (m_fieldAddr Try.underlying90 (hi := ti25)) ?_
     try simp only [opv, n1, n2, n3, n4, Value.cells, Nat.zero_add, Nat.add_zero, List.getElem_toArray, List.getElem_cons_zero, List.getElem_cons_succ]
     refine g_on (yi (t := 31) rfl rfl) ?_
     refine s_go (m_load_obj Try.underlying25 (hS := hS)) ?_
     try simp only [opv, n1, n2, n3, n4, Value.cells, List.getElem_toArray, List.getElem_cons_zero, List.getElem_cons_succ]
     refine g_on (yi (t := 31) rfl rfl) ?_
     refine s_go (s_eql) ?_
     try simp only [opv, n1, n2, n3, n4, Value.cells]
     refine s_go (s_pick_t) ?_
     try simp only [opv, n1, n2, n3, n4, Value.cells]
     refine s_go (s_move) ?_
     try simp only [opv, n1, n2, n3, n4, Value.cells]
     refine s_part 38 rfl (fun hp5 => ?_) (fun hp5 => ?_)
     ·
      try simp only [n3, n4]
      try simp only [decide_eq_true_eq, decide_eq_false_iff_not, Bool.not_eq_true', Bool.not_eq_false', Int.not_lt, Int.not_le, ne_eq, Decidable.not_not] at hp5
      have he4 : (f.sq : Int) = g.sq := hp5
      refine g_on (yi (t := 38) rfl rfl) ?_
      refine s_go (m_fieldAddr Try.underlying90 (hi := ti5)) ?_
      try simp only [opv, n1, n2, n3, n4, Value.cells, Nat.zero_add, Nat.add_zero, List.getElem_toArray, List.getElem_cons_zero, List.getElem_cons_succ]
      refine g_on (yi (t := 38) rfl rfl) ?_
      refine s_go (m_load_obj Try.underlying5 (hS := hS)) ?_
      try simp only [opv, n1, n2, n3, n4, Value.cells, List.getElem_toArray, List.getElem_cons_zero, List.getElem_cons_succ]
      refine g_on (yi (t := 38) rfl rfl) ?_
      refine s_go (m_fieldAddr Try.underlying90 (hi := ti5)) ?_
      try simp only [opv, n1, n2, n3, n4, Value.cells, Nat.zero_add, Nat.add_zero, List.getElem_toArray, List.getElem_cons_zero, List.getElem_cons_succ]
      refine g_on (yi (t := 38) rfl rfl) ?_
      refine s_go (m_load_obj Try.underlying5 (hS := hS)) ?_
      try simp only [opv, n1, n2, n3, n4, Value.cells, List.getElem_toArray, List.getElem_cons_zero, List.getElem_cons_succ]
      refine g_on (yi (t := 38) rfl rfl) ?_
      refine s_go (s_eql) ?_
      try simp only [opv, n1, n2, n3, n4, Value.cells]
      refine s_go (s_pick_t) ?_
      try simp only [opv, n1, n2, n3, n4, Value.cells]
      refine s_go (s_move) ?_
      try simp only [opv, n1, n2, n3, n4, Value.cells]
      refine s_part 45 rfl (fun hp6 => ?_) (fun hp6 => ?_)
      ·
       try simp only [n3, n4]
       try simp only [decide_eq_true_eq, decide_eq_false_iff_not, Bool.not_eq_true', Bool.not_eq_false', Int.not_lt, Int.not_le, ne_eq, Decidable.not_not] at hp6
       have he5 : (f.pt : Int) = g.pt := hp6
       refine g_on (yi (t := 45) rfl rfl) ?_
       refine s_go (m_fieldAddr Try.underlying90 (hi := ti25)) ?_
       try simp only [opv, n1, n2, n3, n4, Value.cells, Nat.zero_add, Nat.add_zero, List.getElem_toArray, List.getElem_cons_zero, List.getElem_cons_succ]
       refine g_on (yi (t := 45) rfl rfl) ?_
       refine s_go (m_load_obj Try.underlying25 (hS := hS)) ?_
       try simp only [opv, n1, n2, n3, n4, Value.cells, List.getElem_toArray, List.getElem_cons_zero, List.getElem_cons_succ]
       refine g_on (yi (t := 45) rfl rfl) ?_
       refine s_go (m_fieldAddr Try.underlying90 (hi := ti25)) ?_
       try simp only [opv, n1, n2, n3, n4, Value.cells, Nat.zero_add, Nat.add_zero, List.getElem_toArray, List.getElem_cons_zero, List.getElem_cons_succ]
       refine g_on (yi (t := 45) rfl rfl) ?_
       refine s_go (m_load_obj Try.underlying25 (hS := hS)) ?_
       try simp only [opv, n1, n2, n3, n4, Value.cells, List.getElem_toArray, List.getElem_cons_zero, List.getElem_cons_succ]
       refine g_on (yi (t := 45) rfl rfl) ?_
       refine s_go (s_eql) ?_
       try simp only [opv, n1, n2, n3, n4, Value.cells]
       refine s_go (s_pick_t) ?_
       try simp only [opv, n1, n2, n3, n4, Value.cells]
       refine s_go (s_move) ?_
       try simp only [opv, n1, n2, n3, n4, Value.cells]
       refine s_part 52 rfl (fun hp7 => ?_) (fun hp7 => ?_)
       ·
        try simp only [n3, n4]
        try simp only [decide_eq_true_eq, decide_eq_false_iff_not, Bool.not_eq_true', Bool.not_eq_false', Int.not_lt, Int.not_le, ne_eq, Decidable.not_not] at hp7
        have he6 : (f.off : Int) = g.off := hp7
        refine g_on (yi (t := 52) rfl rfl) ?_
        refine s_go (m_fieldAddr Try.underlying90 (hi := ti4)) ?_
        try simp only [opv, n1, n2, n3, n4, Value.cells, Nat.zero_add, Nat.add_zero, List.getElem_toArray, List.getElem_cons_zero, List.getElem_cons_succ]
        refine g_on (yi (t := 52) rfl rfl) ?_
        refine s_go (m_load_obj Try.underlying4 (hS := hS)) ?_
        try simp only [opv, n1, n2, n3, n4, Value.cells, List.getElem_toArray, List.getElem_cons_zero, List.getElem_cons_succ]
        refine g_on (yi (t := 52) rfl rfl) ?_
        refine s_go (m_fieldAddr Try.underlying90 (hi := ti4)) ?_
        try simp only [opv, n1, n2, n3, n4, Value.cells, Nat.zero_add, Nat.add_zero, List.getElem_toArray, List.getElem_cons_zero, List.getElem_cons_succ]
        refine g_on (yi (t := 52) rfl rfl) ?_
        refine s_go (m_load_obj Try.underlying4 (hS := hS)) ?_
        try simp only [opv, n1, n2, n3, n4, Value.cells, List.getElem_toArray, List.getElem_cons_zero, List.getElem_cons_succ]
        refine g_on (yi (t := 52) rfl rfl) ?_
        refine s_go (s_eql_bool Try.underlying4) ?_
        try simp only [opv, n1, n2, n3, n4, Value.cells]
        refine s_go (s_pick_t) ?_
        try simp only [opv, n1, n2, n3, n4, Value.cells]
        refine s_go (s_move) ?_
        try simp only [opv, n1, n2, n3, n4, Value.cells]
        refine s_part 59 rfl (fun hp8 => ?_) (fun hp8 => ?_)
        ·
         try simp only [n3, n4]
         try simp only [decide_eq_true_eq, decide_eq_false_iff_not, Bool.not_eq_true', Bool.not_eq_false', Int.not_lt, Int.not_le, ne_eq, Decidable.not_not] at hp8
         have he7 : f.la = g.la := by simpa using hp8
         refine g_on (yi (t := 59) rfl rfl) ?_
         refine s_go (m_fieldAddr Try.underlying90 (hi := ti43)) ?_
         try simp only [opv, n1, n2, n3, n4, Value.cells, Nat.zero_add, Nat.add_zero, List.getElem_toArray, List.getElem_cons_zero, List.getElem_cons_succ]
         refine g_on (yi (t := 59) rfl rfl) ?_
         refine s_go (m_load_obj Try.underlying43 (hS := hS)) ?_
         try simp only [opv, n1, n2, n3, n4, Value.cells, List.getElem_toArray, List.getElem_cons_zero, List.getElem_cons_succ]
         refine g_on (yi (t := 59) rfl rfl) ?_
         refine s_go (m_fieldAddr Try.underlying90 (hi := ti43)) ?_
         try simp only [opv, n1, n2, n3, n4, Value.cells, Nat.zero_add, Nat.add_zero, List.getElem_toArray, List.getElem_cons_zero, List.getElem_cons_succ]
         refine g_on (yi (t := 59) rfl rfl) ?_
         refine s_go (m_load_obj Try.underlying43 (hS := hS)) ?_
         try simp only [opv, n1, n2, n3, n4, Value.cells, List.getElem_toArray, List.getElem_cons_zero, List.getElem_cons_succ]
         refine g_on (yi (t := 59) rfl rfl) ?_
         refine s_call en34 ?_
         try simp only [opv, n1, n2, n3, n4, Value.cells, List.map_toArray, List.map_cons, List.map_nil, List.append_toArray, List.cons_append, List.nil_append, Array.append_empty]
         refine CallR.mono (c_ref03Same _ _ _ _ _ _ _ _ _ (hS.hasRd (by repeat (first | exact Has.head | apply Has.tail))) (hS.hasRd (by repeat (first | exact Has.head | apply Has.tail))) (rfl) (rfl) (by omega)) ?_
         rintro _ w3 ⟨rfl, hE3⟩
         replace hS := hS.ext hE3
         try simp only [opv, n1, n2, n3, n4, Value.cells]
         refine s_go (s_pick_t) ?_
         try simp only [opv, n1, n2, n3, n4, Value.cells]
         refine s_go (s_assign) ?_
         try simp only [opv, n1, n2, n3, n4, Value.cells]
         refine x_nil ?_
         refine hK2 _ _ ?_
         refine x_ret ?_
         refine r_tmp rfl ?_
         exact ⟨congrArg Value.bool (decide_eq_decide.2 ⟨fun h => fm_eq he0 he1 he2 he3 he4 he5 he6 he7 h, fun h => by rw [h]⟩), hS.ext_of⟩
        ·
         try simp only [n3, n4]
         try simp only [decide_eq_true_eq, decide_eq_false_iff_not, Bool.not_eq_true', Bool.not_eq_false', Int.not_lt, Int.not_le, ne_eq, Decidable.not_not] at hp8
         have hn := fm_ne (f := f) (g := g) (.inr (.inr (.inr (.inr (.inr (.inr (.inr (.inl (by simpa using hp8)))))))))
         refine g_off (yi (t := 59) rfl rfl) ?_
         try simp only [opv, n1, n2, n3, n4, Value.cells]
         refine g_off (yi (t := 59) rfl rfl) ?_
         try simp only [opv, n1, n2, n3, n4, Value.cells]
         refine g_off (yi (t := 59) rfl rfl) ?_
         try simp only [opv, n1, n2, n3, n4, Value.cells]
         refine g_off (yi (t := 59) rfl rfl) ?_
         try simp only [opv, n1, n2, n3, n4, Value.cells]
         refine g_off (yi (t := 59) rfl rfl) ?_
         try simp only [opv, n1, n2, n3, n4, Value.cells]
         refine s_go (s_pick_f) ?_
         try simp only [opv, n1, n2, n3, n4, Value.cells]
         refine s_go (s_assign) ?_
         try simp only [opv, n1, n2, n3, n4, Value.cells]
         refine x_nil ?_
         refine hK2 _ _ ?_
         refine x_ret ?_
         refine r_tmp rfl ?_
         exact ⟨congrArg Value.bool (decide_eq_false hn).symm, hS.ext_of⟩
       ·
        try simp only [n3, n4]
        try simp only [decide_eq_true_eq, decide_eq_false_iff_not, Bool.not_eq_true', Bool.not_eq_false', Int.not_lt, Int.not_le, ne_eq, Decidable.not_not] at hp7
        have hn := fm_ne (f := f) (g := g) (.inr (.inr (.inr (.inr (.inr (.inr (.inl hp7)))))))
        refine g_off (yi (t := 52) rfl rfl) ?_
        try simp only [opv, n1, n2, n3, n4, Value.cells]
        refine g_off (yi (t := 52) rfl rfl) ?_
        try simp only [opv, n1, n2, n3, n4, Value.cells]
        refine g_off (yi (t := 52) rfl rfl) ?_
        try simp only [opv, n1, n2, n3, n4, Value.cells]
        refine g_off (yi (t := 52) rfl rfl) ?_
        try simp only [opv, n1, n2, n3, n4, Value.cells]
        refine g_off (yi (t := 52) rfl rfl) ?_
        try simp only [opv, n1, n2, n3, n4, Value.cells]
        refine s_go (s_pick_f) ?_
        try simp only [opv, n1, n2, n3, n4, Value.cells]
        refine s_go (s_move) ?_
        try simp only [opv, n1, n2, n3, n4, Value.cells]
        refine g_off (yi (t := 59) rfl rfl) ?_
        try simp only [opv, n1, n2, n3, n4, Value.cells]
        refine g_off (yi (t := 59) rfl rfl) ?_
        try simp only [opv, n1, n2, n3, n4, Value.cells]
        refine g_off (yi (t := 59) rfl rfl) ?_
        try simp only [opv, n1, n2, n3, n4, Value.cells]
        refine g_off (yi (t := 59) rfl rfl) ?_
        try simp only [opv, n1, n2, n3, n4, Value.cells]
        refine g_off (yi (t := 59) rfl rfl) ?_
        try simp only [opv, n1, n2, n3, n4, Value.cells]
        refine s_go (s_pick_f) ?_
        try simp only [opv, n1, n2, n3, n4, Value.cells]
        refine s_go (s_assign) ?_
        try simp only [opv, n1, n2, n3, n4, Value.cells]
        refine x_nil ?_
        refine hK2 _ _ ?_
        refine x_ret ?_
        refine r_tmp rfl ?_
        exact ⟨congrArg Value.bool (decide_eq_false hn).symm, hS.ext_of⟩
      ·
       try simp only [n3, n4]
       try simp only [decide_eq_true_eq, decide_eq_false_iff_not, Bool.not_eq_true', Bool.not_eq_false', Int.not_lt, Int.not_le, ne_eq, Decidable.not_not] at hp6
       have hn := fm_ne (f := f) (g := g) (.inr (.inr (.inr (.inr (.inr (.inl hp6))))))
       refine g_off (yi (t := 45) rfl rfl) ?_
       try simp only [opv, n1, n2, n3, n4, Value.cells]
       refine g_off (yi (t := 45) rfl rfl) ?_
       try simp only [opv, n1, n2, n3, n4, Value.cells]
       refine g_off (yi (t := 45) rfl rfl) ?_
       try simp only [opv, n1, n2, n3, n4, Value.cells]
       refine g_off (yi (t := 45) rfl rfl) ?_
       try simp only [opv, n1, n2, n3, n4, Value.cells]
       refine g_off (yi (t := 45) rfl rfl) ?_
       try simp only [opv, n1, n2, n3, n4, Value.cells]
       refine s_go (s_pick_f) ?_
       try simp only [opv, n1, n2, n3, n4, Value.cells]
       refine s_go (s_move) ?_
       try simp only [opv, n1, n2, n3, n4, Value.cells]
       refine g_off (yi (t := 52) rfl rfl) ?_
       try simp only [opv, n1, n2, n3, n4, Value.cells]
       refine g_off (yi (t := 52) rfl rfl) ?_
       try simp only [opv, n1, n2, n3, n4, Value.cells]
       refine g_off (yi (t := 52) rfl rfl) ?_
       try simp only [opv, n1, n2, n3, n4, Value.cells]
       refine g_off (yi (t := 52) rfl rfl) ?_
       try simp only [opv, n1, n2, n3, n4, Value.cells]
       refine g_off (yi (t := 52) rfl rfl) ?_
       try simp only [opv, n1, n2, n3, n4, Value.cells]
       refine s_go (s_pick_f) ?_
       try simp only [opv, n1, n2, n3, n4, Value.cells]
       refine s_go (s_move) ?_
       try simp only [opv, n1, n2, n3, n4, Value.cells]
       refine g_off (yi (t := 59) rfl rfl) ?_
       try simp only [opv, n1, n2, n3, n4, Value.cells]
       refine g_off (yi (t := 59) rfl rfl) ?_
       try simp only [opv, n1, n2, n3, n4, Value.cells]
       refine g_off (yi (t := 59) rfl rfl) ?_
       try simp only [opv, n1, n2, n3, n4, Value.cells]
       refine g_off (yi (t := 59) rfl rfl) ?_
       try simp only [opv, n1, n2, n3, n4, Value.cells]
       refine g_off (yi (t := 59) rfl rfl) ?_
       try simp only [opv, n1, n2, n3, n4, Value.cells]
       refine s_go (s_pick_f) ?_
       try simp only [opv, n1, n2, n3, n4, Value.cells]
       refine s_go (s_assign) ?_
       try simp only [opv, n1, n2, n3, n4, Value.cells]
       refine x_nil ?_
       refine hK2 _ _ ?_
       refine x_ret ?_
       refine r_tmp rfl ?_
       exact ⟨congrArg Value.bool (decide_eq_false hn).symm, hS.ext_of⟩
     ·
      try simp only [n3, n4]
      try simp only [decide_eq_true_eq, decide_eq_false_iff_not, Bool.not_eq_true', Bool.not_eq_false', Int.not_lt, Int.not_le, ne_eq, Decidable.not_not] at hp5
      have hn := fm_ne (f := f) (g := g) (.inr (.inr (.inr (.inr (.inl hp5)))))
      refine g_off (yi (t := 38) rfl rfl) ?_
      try simp only [opv, n1, n2, n3, n4, Value.cells]
      refine g_off (yi (t := 38) rfl rfl) ?_
      try simp only [opv, n1, n2, n3, n4, Value.cells]
      refine g_off (yi (t := 38) rfl rfl) ?_
      try simp only [opv, n1, n2, n3, n4, Value.cells]
      refine g_off (yi (t := 38) rfl rfl) ?_
      try simp only [opv, n1, n2, n3, n4, Value.cells]
      refine g_off (yi (t := 38) rfl rfl) ?_
      try simp only [opv, n1, n2, n3, n4, Value.cells]
      refine s_go (s_pick_f) ?_
      try simp only [opv, n1, n2, n3, n4, Value.cells]
      refine s_go (s_move) ?_
      try simp only [opv, n1, n2, n3, n4, Value.cells]
      refine g_off (yi (t := 45) rfl rfl) ?_
      try simp only [opv, n1, n2, n3, n4, Value.cells]
      refine g_off (yi (t := 45) rfl rfl) ?_
      try simp only [opv, n1, n2, n3, n4, Value.cells]
      refine g_off (yi (t := 45) rfl rfl) ?_
      try simp only [opv, n1, n2, n3, n4, Value.cells]
      refine g_off (yi (t := 45) rfl rfl) ?_
      try simp only [opv, n1, n2, n3, n4, Value.cells]
      refine g_off (yi (t := 45) rfl rfl) ?_
      try simp only [opv, n1, n2, n3, n4, Value.cells]
      refine s_go (s_pick_f) ?_
      try simp only [opv, n1, n2, n3, n4, Value.cells]
      refine s_go (s_move) ?_
      try simp only [opv, n1, n2, n3, n4, Value.cells]
      refine g_off (yi (t := 52) rfl rfl) ?_
      try simp only [opv, n1, n2, n3, n4, Value.cells]
      refine g_off (yi (t := 52) rfl rfl) ?_
      try simp only [opv, n1, n2, n3, n4, Value.cells]
      refine g_off (yi (t := 52) rfl rfl) ?_
      try simp only [opv, n1, n2, n3, n4, Value.cells]
      refine g_off (yi (t := 52) rfl rfl) ?_
      try simp only [opv, n1, n2, n3, n4, Value.cells]
      refine g_off (yi (t := 52) rfl rfl) ?_
      try simp only [opv, n1, n2, n3, n4, Value.cells]
      refine s_go (s_pick_f) ?_
      try simp only [opv, n1, n2, n3, n4, Value.cells]
      refine s_go (s_move) ?_
      try simp only [opv, n1, n2, n3, n4, Value.cells]
      refine g_off (yi (t := 59) rfl rfl) ?_
      try simp only [opv, n1, n2, n3, n4, Value.cells]
      refine g_off (yi (t := 59) rfl rfl) ?_
      try simp only [opv, n1, n2, n3, n4, Value.cells]
      refine g_off (yi (t := 59) rfl rfl) ?_
      try simp only [opv, n1, n2, n3, n4, Value.cells]
      refine g_off (yi (t := 59) rfl rfl) ?_
      try simp only [opv, n1, n2, n3, n4, Value.cells]
      refine g_off (yi (t := 59) rfl rfl) ?_
      try simp only [opv, n1, n2, n3, n4, Value.cells]
      refine s_go (s_pick_f) ?_
      try simp only [opv, n1, n2, n3, n4, Value.cells]
      refine s_go (s_assign) ?_
      try simp only [opv, n1, n2, n3, n4, Value.cells]
      refine x_nil ?_
      refine hK2 _ _ ?_
      refine x_ret ?_
      refine r_tmp rfl ?_
      exact ⟨congrArg Value.bool (decide_eq_false hn).symm, hS.ext_of⟩
    ·
     try simp only [n3, n4]
     try simp only [decide_eq_true_eq, decide_eq_false_iff_not, Bool.not_eq_true', Bool.not_eq_false', Int.not_lt, Int.not_le, ne_eq, Decidable.not_not] at hp4
     have hn := fm_ne (f := f) (g := g) (.inr (.inr (.inr (.inl hp4))))
     refine g_off (yi (t := 31) rfl rfl) ?_
     try simp only [opv, n1, n2, n3, n4, Value.cells]
     refine g_off (yi (t := 31) rfl rfl) ?_
     try simp only [opv, n1, n2, n3, n4, Value.cells]
     refine g_off (yi (t := 31) rfl rfl) ?_
     try simp only [opv, n1, n2, n3, n4, Value.cells]
     refine g_off (yi (t := 31) rfl rfl) ?_
     try simp only [opv, n1, n2, n3, n4, Value.cells]
     refine g_off (yi (t := 31) rfl rfl) ?_
     try simp only [opv, n1, n2, n3, n4, Value.cells]
     refine s_go (s_pick_f) ?_
     try simp only [opv, n1, n2, n3, n4, Value.cells]
     refine s_go (s_move) ?_
     try simp only [opv, n1, n2, n3, n4, Value.cells]
     refine g_off (yi (t := 38) rfl rfl) ?_
     try simp only [opv, n1, n2, n3, n4, Value.cells]
     refine g_off (yi (t := 38) rfl rfl) ?_
     try simp only [opv, n1, n2, n3, n4, Value.cells]
     refine g_off (yi (t := 38) rfl rfl) ?_
     try simp only [opv, n1, n2, n3, n4, Value.cells]
     refine g_off (yi (t := 38) rfl rfl) ?_
     try simp only [opv, n1, n2, n3, n4, Value.cells]
     refine g_off (yi (t := 38) rfl rfl) ?_
     try simp only [opv, n1, n2, n3, n4, Value.cells]
     refine s_go (s_pick_f) ?_
     try simp only [opv, n1, n2, n3, n4, Value.cells]
     refine s_go (s_move) ?_
     try simp only [opv, n1, n2, n3, n4, Value.cells]
     refine g_off (yi (t := 45) rfl rfl) ?_
     try simp only [opv, n1, n2, n3, n4, Value.cells]
     refine g_off (yi (t := 45) rfl rfl) ?_
     try simp only [opv, n1, n2, n3, n4, Value.cells]
     refine g_off (yi (t := 45) rfl rfl) ?_
     try simp only [opv, n1, n2, n3, n4, Value.cells]
     refine g_off (yi (t := 45) rfl rfl) ?_
     try simp only [opv, n1, n2, n3, n4, Value.cells]
     refine g_off (yi (t := 45) rfl rfl) ?_
     try simp only [opv, n1, n2, n3, n4, Value.cells]
     refine s_go (s_pick_f) ?_
     try simp only [opv, n1, n2, n3, n4, Value.cells]
     refine s_go (s_move) ?_
     try simp only [opv, n1, n2, n3, n4, Value.cells]
     refine g_off (yi (t := 52) rfl rfl) ?_
     try simp only [opv, n1, n2, n3, n4, Value.cells]
     refine g_off (yi (t := 52) rfl rfl) ?_
     try simp only [opv, n1, n2, n3, n4, Value.cells]
     refine g_off (yi (t := 52) rfl rfl) ?_
     try simp only [opv, n1, n2, n3, n4, Value.cells]
     refine g_off (yi (t := 52) rfl rfl) ?_
     try simp only [opv, n1, n2, n3, n4, Value.cells]
     refine g_off (yi (t := 52) rfl rfl) ?_
     try simp only [opv, n1, n2, n3, n4, Value.cells]
     refine s_go (s_pick_f) ?_
     try simp only [opv, n1, n2, n3, n4, Value.cells]
     refine s_go (s_move) ?_
     try simp only [opv, n1, n2, n3, n4, Value.cells]
     refine g_off (yi (t := 59) rfl rfl) ?_
     try simp only [opv, n1, n2, n3, n4, Value.cells]
     refine g_off (yi (t := 59) rfl rfl) ?_
     try simp only [opv, n1, n2, n3, n4, Value.cells]
     refine g_off (yi (t := 59) rfl rfl) ?_
     try simp only [opv, n1, n2, n3, n4, Value.cells]
     refine g_off (yi (t := 59) rfl rfl) ?_
     try simp only [opv, n1, n2, n3, n4, Value.cells]
     refine g_off (yi (t := 59) rfl rfl) ?_
     try simp only [opv, n1, n2, n3, n4, Value.cells]
     refine s_go (s_pick_f) ?_
     try simp only [opv, n1, n2, n3, n4, Value.cells]
     refine s_go (s_assign) ?_
     try simp only [opv, n1, n2, n3, n4, Value.cells]
     refine x_nil ?_
     refine hK2 _ _ ?_
     refine x_ret ?_
     refine r_tmp rfl ?_
     exact ⟨congrArg Value.bool (decide_eq_false hn).symm, hS.ext_of⟩
   ·
    try simp only [n3, n4]
    try simp only [decide_eq_true_eq, decide_eq_false_iff_not, Bool.not_eq_true', Bool.not_eq_false', Int.not_lt, Int.not_le, ne_eq, Decidable.not_not] at hp3
    have hn := fm_ne (f := f) (g := g) (.inr (.inr (.inl hp3)))
    refine g_off (yi (t := 24) rfl rfl) ?_
    try simp only [opv, n1, n2, n3, n4, Value.cells]
    refine g_off (yi (t := 24) rfl rfl) ?_
    try simp only [opv, n1, n2, n3, n4, Value.cells]
    refine g_off (yi (t := 24) rfl rfl) ?_
    try simp only [opv, n1, n2, n3, n4, Value.cells]
    refine g_off (yi (t := 24) rfl rfl) ?_
    try simp only [opv, n1, n2, n3, n4, Value.cells]
    refine g_off (yi (t := 24) rfl rfl) ?_
    try simp only [opv, n1, n2, n3, n4, Value.cells]
    refine s_go (s_pick_f) ?_
    try simp only [opv, n1, n2, n3, n4, Value.cells]
    refine s_go (s_move) ?_
    try simp only [opv, n1, n2, n3, n4, Value.cells]
    refine g_off (yi (t := 31) rfl rfl) ?_
    try simp only [opv, n1, n2, n3, n4, Value.cells]
    refine g_off (yi (t := 31) rfl rfl) ?_
    try simp only [opv, n1, n2, n3, n4, Value.cells]
    refine g_off (yi (t := 31) rfl rfl) ?_
    try simp only [opv, n1, n2, n3, n4, Value.cells]
    refine g_off (yi (t := 31) rfl rfl) ?_
    try simp only [opv, n1, n2, n3, n4, Value.cells]
    refine g_off (yi (t := 31) rfl rfl) ?_
    try simp only [opv, n1, n2, n3, n4, Value.cells]
    refine s_go (s_pick_f) ?_
    try simp only [opv, n1, n2, n3, n4, Value.cells]
    refine s_go (s_move) ?_
    try simp only [opv, n1, n2, n3, n4, Value.cells]
    refine g_off (yi (t := 38) rfl rfl) ?_
    try simp only [opv, n1, n2, n3, n4, Value.cells]
    refine g_off (yi (t := 38) rfl rfl) ?_
    try simp only [opv, n1, n2, n3, n4, Value.cells]
    refine g_off (yi (t := 38) rfl rfl) ?_
    try simp only [opv, n1, n2, n3, n4, Value.cells]
    refine g_off (yi (t := 38) rfl rfl) ?_
    try simp only [opv, n1, n2, n3, n4, Value.cells]
    refine g_off (yi (t := 38) rfl rfl) ?_
    try simp only [opv, n1, n2, n3, n4, Value.cells]
    refine s_go (s_pick_f) ?_
    try simp only [opv, n1, n2, n3, n4, Value.cells]
    refine s_go (s_move) ?_
    try simp only [opv, n1, n2, n3, n4, Value.cells]
    refine g_off (yi (t := 45) rfl rfl) ?_
    try simp only [opv, n1, n2, n3, n4, Value.cells]
    refine g_off (yi (t := 45) rfl rfl) ?_
    try simp only [opv, n1, n2, n3, n4, Value.cells]
    refine g_off (yi (t := 45) rfl rfl) ?_
    try simp only [opv, n1, n2, n3, n4, Value.cells]
    refine g_off (yi (t := 45) rfl rfl) ?_
    try simp only [opv, n1, n2, n3, n4, Value.cells]
    refine g_off (yi (t := 45) rfl rfl) ?_
    try simp only [opv, n1, n2, n3, n4, Value.cells]
    refine s_go (s_pick_f) ?_
    try simp only [opv, n1, n2, n3, n4, Value.cells]
    refine s_go (s_move) ?_
    try simp only [opv, n1, n2, n3, n4, Value.cells]
    refine g_off (yi (t := 52) rfl rfl) ?_
    try simp only [opv, n1, n2, n3, n4, Value.cells]
    refine g_off (yi (t := 52) rfl rfl) ?_
    try simp only [opv, n1, n2, n3, n4, Value.cells]
    refine g_off (yi (t := 52) rfl rfl) ?_
    try simp only [opv, n1, n2, n3, n4, Value.cells]
    refine g_off (yi (t := 52) rfl rfl) ?_
    try simp only [opv, n1, n2, n3, n4, Value.cells]
    refine g_off (yi (t := 52) rfl rfl) ?_
    try simp only [opv, n1, n2, n3, n4, Value.cells]
    refine s_go (s_pick_f) ?_
    try simp only [opv, n1, n2, n3, n4, Value.cells]
    refine s_go (s_move) ?_
    try simp only [opv, n1, n2, n3, n4, Value.cells]
    refine g_off (yi (t := 59) rfl rfl) ?_
    try simp only [opv, n1, n2, n3, n4, Value.cells]
    refine g_off (yi (t := 59) rfl rfl) ?_
    try simp only [opv, n1, n2, n3, n4, Value.cells]
    refine g_off (yi (t := 59) rfl rfl) ?_
    try simp only [opv, n1, n2, n3, n4, Value.cells]
    refine g_off (yi (t := 59) rfl rfl) ?_
    try simp only [opv, n1, n2, n3, n4, Value.cells]
    refine g_off (yi (t := 59) rfl rfl) ?_
    try simp only [opv, n1, n2, n3, n4, Value.cells]
    refine s_go (s_pick_f) ?_
    try simp only [opv, n1, n2, n3, n4, Value.cells]
    refine s_go (s_assign) ?_
    try simp only [opv, n1, n2, n3, n4, Value.cells]
    refine x_nil ?_
    refine hK2 _ _ ?_
    refine x_ret ?_
    refine r_tmp rfl ?_
    exact ⟨congrArg Value.bool (decide_eq_false hn).symm, hS.ext_of⟩
  ·
   try simp only [n3, n4]
   try simp only [decide_eq_true_eq, decide_eq_false_iff_not, Bool.not_eq_true', Bool.not_eq_false', Int.not_lt, Int.not_le, ne_eq, Decidable.not_not] at hp2
   have hn := fm_ne (f := f) (g := g) (.inr (.inl hp2))
   refine g_off (yi (t := 17) rfl rfl) ?_
   try simp only [opv, n1, n2, n3, n4, Value.cells]
   refine g_off (yi (t := 17) rfl rfl) ?_
   try simp only [opv, n1, n2, n3, n4, Value.cells]
   refine g_off (yi (t := 17) rfl rfl) ?_
   try simp only [opv, n1, n2, n3, n4, Value.cells]
   refine g_off (yi (t := 17) rfl rfl) ?_
   try simp only [opv, n1, n2, n3, n4, Value.cells]
   refine g_off (yi (t := 17) rfl rfl) ?_
   try simp only [opv, n1, n2, n3, n4, Value.cells]
   refine s_go (s_pick_f) ?_
   try simp only [opv, n1, n2, n3, n4, Value.cells]
   refine s_go (s_move) ?_
   try simp only [opv, n1, n2, n3, n4, Value.cells]
   refine g_off (yi (t := 24) rfl rfl) ?_
   try simp only [opv, n1, n2, n3, n4, Value.cells]
   refine g_off (yi (t := 24) rfl rfl) ?_
   try simp only [opv, n1, n2, n3, n4, Value.cells]
   refine g_off (yi (t := 24) rfl rfl) ?_
   try simp only [opv, n1, n2, n3, n4, Value.cells]
   refine g_off (yi (t := 24) rfl rfl) ?_
   try simp only [opv, n1, n2, n3, n4, Value.cells]
   refine g_off (yi (t := 24) rfl rfl) ?_
   try simp only [opv, n1, n2, n3, n4, Value.cells]
   refine s_go (s_pick_f) ?_
   try simp only [opv, n1, n2, n3, n4, Value.cells]
   refine s_go (s_move) ?_
   try simp only [opv, n1, n2, n3, n4, Value.cells]
   refine g_off (yi (t := 31) rfl rfl) ?_
   try simp only [opv, n1, n2, n3, n4, Value.cells]
   refine g_off (yi (t := 31) rfl rfl) ?_
   try simp only [opv, n1, n2, n3, n4, Value.cells]
   refine g_off (yi (t := 31) rfl rfl) ?_
   try simp only [opv, n1, n2, n3, n4, Value.cells]
   refine g_off (yi (t := 31) rfl rfl) ?_
   try simp only [opv, n1, n2, n3, n4, Value.cells]
   refine g_off (yi (t := 31) rfl rfl) ?_
   try simp only [opv, n1, n2, n3, n4, Value.cells]
   refine s_go (s_pick_f) ?_
   try simp only [opv, n1, n2, n3, n4, Value.cells]
   refine s_go (s_move) ?_
   try simp only [opv, n1, n2, n3, n4, Value.cells]
   refine g_off (yi (t := 38) rfl rfl) ?_
   try simp only [opv, n1, n2, n3, n4, Value.cells]
   refine g_off (yi (t := 38) rfl rfl) ?_
   try simp only [opv, n1, n2, n3, n4, Value.cells]
   refine g_off (yi (t := 38) rfl rfl) ?_
   try simp only [opv, n1, n2, n3, n4, Value.cells]
   refine g_off (yi (t := 38) rfl rfl) ?_
   try simp only [opv, n1, n2, n3, n4, Value.cells]
   refine g_off (yi (t := 38) rfl rfl) ?_
   try simp only [opv, n1, n2, n3, n4, Value.cells]
   refine s_go (s_pick_f) ?_
   try simp only [opv, n1, n2, n3, n4, Value.cells]
   refine s_go (s_move) ?_
   try simp only [opv, n1, n2, n3, n4, Value.cells]
   refine g_off (yi (t := 45) rfl rfl) ?_
   try simp only [opv, n1, n2, n3, n4, Value.cells]
   refine g_off (yi (t := 45) rfl rfl) ?_
   try simp only [opv, n1, n2, n3, n4, Value.cells]
   refine g_off (yi (t := 45) rfl rfl) ?_
   try simp only [opv, n1, n2, n3, n4, Value.cells]
   refine g_off (yi (t := 45) rfl rfl) ?_
   try simp only [opv, n1, n2, n3, n4, Value.cells]
   refine g_off (yi (t := 45) rfl rfl) ?_
   try simp only [opv, n1, n2, n3, n4, Value.cells]
   refine s_go (s_pick_f) ?_
   try simp only [opv, n1, n2, n3, n4, Value.cells]
   refine s_go (s_move) ?_
   try simp only [opv, n1, n2, n3, n4, Value.cells]
   refine g_off (yi (t := 52) rfl rfl) ?_
   try simp only [opv, n1, n2, n3, n4, Value.cells]
   refine g_off (yi (t := 52) rfl rfl) ?_
   try simp only [opv, n1, n2, n3, n4, Value.cells]
   refine g_off (yi (t := 52) rfl rfl) ?_
   try simp only [opv, n1, n2, n3, n4, Value.cells]
   refine g_off (yi (t := 52) rfl rfl) ?_
   try simp only [opv, n1, n2, n3, n4, Value.cells]
   refine g_off (yi (t := 52) rfl rfl) ?_
   try simp only [opv, n1, n2, n3, n4, Value.cells]
   refine s_go (s_pick_f) ?_
   try simp only [opv, n1, n2, n3, n4, Value.cells]
   refine s_go (s_move) ?_
   try simp only [opv, n1, n2, n3, n4, Value.cells]
   refine g_off (yi (t := 59) rfl rfl) ?_
   try simp only [opv, n1, n2, n3, n4, Value.cells]
   refine g_off (yi (t := 59) rfl rfl) ?_
   try simp only [opv, n1, n2, n3, n4, Value.cells]
   refine g_off (yi (t := 59) rfl rfl) ?_
   try simp only [opv, n1, n2, n3, n4, Value.cells]
   refine g_off (yi (t := 59) rfl rfl) ?_
   try simp only [opv, n1, n2, n3, n4, Value.cells]
   refine g_off (yi (t := 59) rfl rfl) ?_
   try simp only [opv, n1, n2, n3, n4, Value.cells]
   refine s_go (s_pick_f) ?_
   try simp only [opv, n1, n2, n3, n4, Value.cells]
   refine s_go (s_assign) ?_
   try simp only [opv, n1, n2, n3, n4, Value.cells]
   refine x_nil ?_
   refine hK2 _ _ ?_
   refine x_ret ?_
   refine r_tmp rfl ?_
   exact ⟨congrArg Value.bool (decide_eq_false hn).symm, hS.ext_of⟩
 ·
  try simp only [n3, n4]
  try simp only [decide_eq_true_eq, decide_eq_false_iff_not, Bool.not_eq_true', Bool.not_eq_false', Int.not_lt, Int.not_le, ne_eq, Decidable.not_not] at hp1
  have hn := fm_ne (f := f) (g := g) (.inl hp1)
  refine g_off (yi (t := 10) rfl rfl) ?_
  try simp only [opv, n1, n2, n3, n4, Value.cells]
  refine g_off (yi (t := 10) rfl rfl) ?_
  try simp only [opv, n1, n2, n3, n4, Value.cells]
  refine g_off (yi (t := 10) rfl rfl) ?_
  try simp only [opv, n1, n2, n3, n4, Value.cells]
  refine g_off (yi (t := 10) rfl rfl) ?_
  try simp only [opv, n1, n2, n3, n4, Value.cells]
  refine g_off (yi (t := 10) rfl rfl) ?_
  try simp only [opv, n1, n2, n3, n4, Value.cells]
  refine s_go (s_pick_f) ?_
  try simp only [opv, n1, n2, n3, n4, Value.cells]
  refine s_go (s_move) ?_
  try simp only [opv, n1, n2, n3, n4, Value.cells]
  refine g_off (yi (t := 17) rfl rfl) ?_
  try simp only [opv, n1, n2, n3, n4, Value.cells]
  refine g_off (yi (t := 17) rfl rfl) ?_
  try simp only [opv, n1, n2, n3, n4, Value.cells]
  refine g_off (yi (t := 17) rfl rfl) ?_
  try simp only [opv, n1, n2, n3, n4, Value.cells]
  refine g_off (yi (t := 17) rfl rfl) ?_
  try simp only [opv, n1, n2, n3, n4, Value.cells]
  refine g_off (yi (t := 17) rfl rfl) ?_
  try simp only [opv, n1, n2, n3, n4, Value.cells]
  refine s_go (s_pick_f) ?_
  try simp only [opv, n1, n2, n3, n4, Value.cells]
  refine s_go (s_move) ?_
  try simp only [opv, n1, n2, n3, n4, Value.cells]
  refine g_off (yi (t := 24) rfl rfl) ?_
  try simp only [opv, n1, n2, n3, n4, Value.cells]
  refine g_off (yi (t := 24) rfl rfl) ?_
  try simp only [opv, n1, n2, n3, n4, Value.cells]
  refine g_off (yi (t := 24) rfl rfl) ?_
  try simp only [opv, n1, n2, n3, n4, Value.cells]
  refine g_off (yi (t := 24) rfl rfl) ?_
  try simp only [opv, n1, n2, n3, n4, Value.cells]
  refine g_off (yi (t := 24) rfl rfl) ?_
  try simp only [opv, n1, n2, n3, n4, Value.cells]
  refine s_go (s_pick_f) ?_
  try simp only [opv, n1, n2, n3, n4, Value.cells]
  refine s_go (s_move) ?_
  try simp only [opv, n1, n2, n3, n4, Value.cells]
  refine g_off (yi (t := 31) rfl rfl) ?_
  try simp only [opv, n1, n2, n3, n4, Value.cells]
  refine g_off (yi (t := 31) rfl rfl) ?_
  try simp only [opv, n1, n2, n3, n4, Value.cells]
  refine g_off (yi (t := 31) rfl rfl) ?_
  try simp only [opv, n1, n2, n3, n4, Value.cells]
  refine g_off (yi (t := 31) rfl rfl) ?_
  try simp only [opv, n1, n2, n3, n4, Value.cells]
  refine g_off (yi (t := 31) rfl rfl) ?_
  try simp only [opv, n1, n2, n3, n4, Value.cells]
  refine s_go (s_pick_f) ?_
  try simp only [opv, n1, n2, n3, n4, Value.cells]
  refine s_go (s_move) ?_
  try simp only [opv, n1, n2, n3, n4, Value.cells]
  refine g_off (yi (t := 38) rfl rfl) ?_
  try simp only [opv, n1, n2, n3, n4, Value.cells]
  refine g_off (yi (t := 38) rfl rfl) ?_
  try simp only [opv, n1, n2, n3, n4, Value.cells]
  refine g_off (yi (t := 38) rfl rfl) ?_
  try simp only [opv, n1, n2, n3, n4, Value.cells]
  refine g_off (yi (t := 38) rfl rfl) ?_
  try simp only [opv, n1, n2, n3, n4, Value.cells]
  refine g_off (yi (t := 38) rfl rfl) ?_
  try simp only [opv, n1, n2, n3, n4, Value.cells]
  refine s_go (s_pick_f) ?_
  try simp only [opv, n1, n2, n3, n4, Value.cells]
  refine s_go (s_move) ?_
  try simp only [opv, n1, n2, n3, n4, Value.cells]
  refine g_off (yi (t := 45) rfl rfl) ?_
  try simp only [opv, n1, n2, n3, n4, Value.cells]
  refine g_off (yi (t := 45) rfl rfl) ?_
  try simp only [opv, n1, n2, n3, n4, Value.cells]
  refine g_off (yi (t := 45) rfl rfl) ?_
  try simp only [opv, n1, n2, n3, n4, Value.cells]
  refine g_off (yi (t := 45) rfl rfl) ?_
  try simp only [opv, n1, n2, n3, n4, Value.cells]
  refine g_off (yi (t := 45) rfl rfl) ?_
  try simp only [opv, n1, n2, n3, n4, Value.cells]
  refine s_go (s_pick_f) ?_
  try simp only [opv, n1, n2, n3, n4, Value.cells]
  refine s_go (s_move) ?_
  try simp only [opv, n1, n2, n3, n4, Value.cells]
  refine g_off (yi (t := 52) rfl rfl) ?_
  try simp only [opv, n1, n2, n3, n4, Value.cells]
  refine g_off (yi (t := 52) rfl rfl) ?_
  try simp only [opv, n1, n2, n3, n4, Value.cells]
  refine g_off (yi (t := 52) rfl rfl) ?_
  try simp only [opv, n1, n2, n3, n4, Value.cells]
  refine g_off (yi (t := 52) rfl rfl) ?_
  try simp only [opv, n1, n2, n3, n4, Value.cells]
  refine g_off (yi (t := 52) rfl rfl) ?_
  try simp only [opv, n1, n2, n3, n4, Value.cells]
  refine s_go (s_pick_f) ?_
  try simp only [opv, n1, n2, n3, n4, Value.cells]
  refine s_go (s_move) ?_
  try simp only [opv, n1, n2, n3, n4, Value.cells]
  refine g_off (yi (t := 59) rfl rfl) ?_
  try simp only [opv, n1, n2, n3, n4, Value.cells]
  refine g_off (yi (t := 59) rfl rfl) ?_
  try simp only [opv, n1, n2, n3, n4, Value.cells]
  refine g_off (yi (t := 59) rfl rfl) ?_
  try simp only [opv, n1, n2, n3, n4, Value.cells]
  refine g_off (yi (t := 59) rfl rfl) ?_
  try simp only [opv, n1, n2, n3, n4, Value.cells]
  refine g_off (yi (t := 59) rfl rfl) ?_
  try simp only [opv, n1, n2, n3, n4, Value.cells]
  refine s_go (s_pick_f) ?_
  try simp only [opv, n1, n2, n3, n4, Value.cells]
  refine s_go (s_assign) ?_
  try simp only [opv, n1, n2, n3, n4, Value.cells]
  refine x_nil ?_
  refine hK2 _ _ ?_
  refine x_ret ?_
  refine r_tmp rfl ?_
  exact ⟨congrArg Value.bool (decide_eq_false hn).symm, hS.ext_of⟩
end Go.Proofs.Ytpjpaipkkcengaa
namespace Go.Proofs.Ytpjpaipkkcengaa
/-- one step of the register -/
def cst (r : Nat) : Nat := if 32768 ≤ r then (2 * r % 65536) ^^^ 4129 else 2 * r % 65536
def cstN : Nat → Nat → Nat
  | 0, r => r
  | n + 1, r => cst (cstN n r)
def crcB (r c : Nat) : Nat := cstN 8 (r ^^^ (c * 256))
def crcM (r : Nat) (l : List Int) : Nat := l.foldl (fun r c => crcB r c.toNat) r
theorem cst_lt (r : Nat) : cst r < 65536 := by
  unfold cst
  split
  · exact Nat.xor_lt_two_pow (n := 16) (by omega) (by omega)
  · omega
theorem cstN_lt {r : Nat} (h : r < 65536) : ∀ n, cstN n r < 65536
  | 0 => h
  | _ + 1 => cst_lt _
theorem crcB_lt (r c : Nat) : crcB r c < 65536 := by
  show cst (cstN 7 (r ^^^ (c * 256))) < 65536
  exact cst_lt _
theorem crcM_cons (r : Nat) (c : Int) (l : List Int) : crcM r (c :: l) = crcM (crcB r c.toNat) l := by simp only [crcM, List.foldl_cons]
theorem crcM_lt : ∀ (l : List Int) {r : Nat}, r < 65536 → crcM r l < 65536
  | [], _, h => h
  | c :: l, r, _ => by rw [crcM_cons]; exact crcM_lt l (crcB_lt r c.toNat)
theorem crcM_app (r : Nat) (a b : List Int) : crcM r (a ++ b) = crcM (crcM r a) b := by simp [crcM]
theorem crcM_snoc {r : Nat} {l : List Int} {k : Nat} (h : k < l.length) : crcM r (l.take (k + 1)) = crcB (crcM r (l.take k)) (bt l k) := by
  rw [take_succ_getD h, crcM_app, crcM_cons]
  simp only [crcM, List.foldl_nil, bt]
theorem xor_mod2 (a b : Nat) : (a ^^^ b) % 2 = (a % 2 + b % 2) % 2 := by
  have h := Nat.testBit_xor a b 0
  simp only [Nat.testBit_zero] at h
  rcases Nat.mod_two_eq_zero_or_one a with ha | ha <;> rcases Nat.mod_two_eq_zero_or_one b with hb | hb <;> rcases Nat.mod_two_eq_zero_or_one (a ^^^ b) with hx | hx <;> simp [ha, hb, hx] at h ⊢
theorem xor_divp (a b i : Nat) : (a ^^^ b) / 2 ^ i = (a / 2 ^ i) ^^^ (b / 2 ^ i) := by
  simp only [← Nat.shiftRight_eq_div_pow]; exact Nat.shiftRight_xor_distrib
theorem xor_modp (a b i : Nat) : (a ^^^ b) % 2 ^ i = (a % 2 ^ i) ^^^ (b % 2 ^ i) := Nat.xor_mod_two_pow
theorem xor_mulp (a b i : Nat) : (a ^^^ b) * 2 ^ i = (a * 2 ^ i) ^^^ (b * 2 ^ i) := by
  simp only [← Nat.shiftLeft_eq]; exact Nat.shiftLeft_xor_distrib
theorem top_xor {a b : Nat} (ha : a < 65536) (hb : b < 65536) : (32768 ≤ a ^^^ b) ↔ ((32768 ≤ a) ↔ ¬ (32768 ≤ b)) := by
  have h1 : a ^^^ b < 65536 := Nat.xor_lt_two_pow (n := 16) (by omega) (by omega)
  have h2 := xor_divp a b 15
  have h3 := xor_mod2 (a / 2 ^ 15) (b / 2 ^ 15)
  rw [← h2] at h3
  omega
theorem dbl_xor (a b : Nat) : 2 * (a ^^^ b) % 65536 = (2 * a % 65536) ^^^ (2 * b % 65536) := by
  have h1 := xor_mulp a b 1
  have h2 := xor_modp (a * 2 ^ 1) (b * 2 ^ 1) 16
  rw [← h1] at h2
  simpa [Nat.mul_comm] using h2
/-- the step is linear -/
theorem cst_xor {a b : Nat} (ha : a < 65536) (hb : b < 65536) : cst (a ^^^ b) = cst a ^^^ cst b := by
  have ht := top_xor ha hb
  unfold cst
  rw [dbl_xor]
  by_cases h1 : 32768 ≤ a <;> by_cases h2 : 32768 ≤ b
  · rw [if_neg (by rw [ht]; simp [h1, h2]), if_pos h1, if_pos h2]
    rw [Nat.xor_assoc, Nat.xor_comm 4129, Nat.xor_assoc, Nat.xor_self, Nat.xor_zero]
  · rw [if_pos (by rw [ht]; simp [h1, h2]), if_pos h1, if_neg h2]
    rw [Nat.xor_assoc, Nat.xor_comm _ 4129, Nat.xor_assoc]
  · rw [if_pos (by rw [ht]; simp [h1, h2]), if_neg h1, if_pos h2]
    rw [Nat.xor_assoc]
  · rw [if_neg (by rw [ht]; simp [h1, h2]), if_neg h1, if_neg h2]
theorem cstN_xor {a b : Nat} (ha : a < 65536) (hb : b < 65536) : ∀ n, cstN n (a ^^^ b) = cstN n a ^^^ cstN n b
  | 0 => rfl
  | n + 1 => by simp only [cstN]; rw [cstN_xor ha hb n, cst_xor (cstN_lt ha n) (cstN_lt hb n)]
theorem cstN_low {v : Nat} (hv : v < 256) : ∀ n, n ≤ 8 → cstN n v = v * 2 ^ n
  | 0, _ => by simp [cstN]
  | n + 1, h => by
    have ih := cstN_low hv n (by omega)
    have hp : 2 ^ n ≤ 2 ^ 7 := Nat.pow_le_pow_right (by omega) (by omega)
    have hm : v * 2 ^ n ≤ 255 * 2 ^ 7 := Nat.mul_le_mul (by omega) hp
    simp only [cstN, ih, cst]
    rw [if_neg (by omega), Nat.mod_eq_of_lt (by omega), Nat.pow_succ]
    rw [Nat.mul_comm 2, Nat.mul_assoc]
theorem split_at (r i : Nat) : r = (r / 2 ^ i * 2 ^ i) ^^^ (r % 2 ^ i) := by
  apply Nat.eq_of_testBit_eq
  intro j
  rw [Nat.testBit_xor, Nat.testBit_mul_two_pow, Nat.testBit_mod_two_pow, Nat.testBit_div_two_pow]
  by_cases h : i ≤ j
  · simp [h, Nat.not_lt.2 h, Nat.sub_add_cancel h]
  · simp [h, Nat.lt_of_not_le h]
theorem split_xor (r : Nat) : r = (r / 256 * 256) ^^^ (r % 256) := split_at r 8
/-- a byte at once, by the table -/
theorem tab_step {r c : Nat} (hr : r < 65536) (hc : c < 256) : (r * 256 % 65536) ^^^ cstN 8 (((r / 256) ^^^ c) * 256) = crcB r c := by
  have h1 : r ^^^ (c * 256) = (((r / 256) ^^^ c) * 256) ^^^ (r % 256) := by
    have := xor_mulp (r / 256) c 8
    simp only [Nat.reducePow] at this
    rw [this]
    conv => lhs; rw [split_xor r]
    rw [Nat.xor_assoc, Nat.xor_comm (r % 256), ← Nat.xor_assoc]
  have hx : (r / 256) ^^^ c < 256 := Nat.xor_lt_two_pow (n := 8) (by omega) (by omega)
  unfold crcB
  rw [h1, cstN_xor (by omega) (by omega), cstN_low (show r % 256 < 256 by omega) 8 (by omega), Nat.xor_comm]
  congr 1
  omega
/-- a bit at once -/
def bst (r b : Nat) : Nat := if r / 32768 ≠ b then (2 * r % 65536) ^^^ 4129 else 2 * r % 65536
def bitsN (r c : Nat) : Nat → Nat
  | 0 => r
  | k + 1 => bst (bitsN r c k) (c / 2 ^ (7 - k) % 2)
theorem bst_lt (r b : Nat) : bst r b < 65536 := by
  unfold bst
  split
  · exact Nat.xor_lt_two_pow (n := 16) (by omega) (by omega)
  · omega
theorem bitsN_lt {r c : Nat} (h : r < 65536) : ∀ n, bitsN r c n < 65536
  | 0 => h
  | _ + 1 => bst_lt _ _
theorem bst_cst {r b : Nat} (hr : r < 65536) (hb : b < 2) : bst r b = cst (r ^^^ (b * 32768)) := by
  have ht := top_xor hr (show b * 32768 < 65536 by omega)
  unfold bst cst
  rw [dbl_xor]
  have h0 : 2 * (b * 32768) % 65536 = 0 := by omega
  rw [h0, Nat.xor_zero]
  by_cases h : r / 32768 ≠ b
  · rw [if_pos h, if_pos (by rw [ht]; omega)]
  · rw [if_neg h, if_neg (by rw [ht]; omega)]
theorem byte_split {d : Nat} (_h : d < 256) : d * 256 = (d / 128 * 32768) ^^^ ((d % 128) * 256) := by
  have h1 := split_at (d * 256) 15
  have e1 : (2 : Nat) ^ 15 = 32768 := rfl
  rw [e1] at h1
  have e2 : d * 256 / 32768 = d / 128 := by omega
  have e3 : d * 256 % 32768 = (d % 128) * 256 := by omega
  rw [e2, e3] at h1
  exact h1
theorem byte_split1 {d : Nat} (h : d < 256) : d / 128 * 32768 < 2 ^ 16 := by omega
theorem byte_split2 (d : Nat) : d % 128 * 256 < 65536 := by omega
theorem byte_split3 (d : Nat) : cst (d % 128 * 256) = 2 * d % 256 * 256 := by
  unfold cst
  rw [if_neg (by omega)]
  omega
theorem bits_step {r c : Nat} (hr : r < 65536) (hc : c < 256) : ∀ n, n ≤ 8 → cstN n (r ^^^ (c * 256)) = bitsN r c n ^^^ ((c * 2 ^ n % 256) * 256)
  | 0, _ => by
    simp only [cstN, bitsN, Nat.pow_zero, Nat.mul_one]
    rw [Nat.mod_eq_of_lt hc]
  | n + 1, h => by
    have ih := bits_step hr hc n (by omega)
    simp only [cstN, bitsN]
    rw [ih]
    have hb := bitsN_lt (c := c) hr n
    -- the next bit, and the rest
    generalize hd : c * 2 ^ n % 256 = d at *
    have hbit : c / 2 ^ (7 - n) % 2 = d / 128 := by
      subst hd
      have : n = 0 ∨ n = 1 ∨ n = 2 ∨ n = 3 ∨ n = 4 ∨ n = 5 ∨ n = 6 ∨ n = 7 := by omega
      rcases this with rfl | rfl | rfl | rfl | rfl | rfl | rfl | rfl <;> simp only [Nat.reducePow, Nat.reduceSub] <;> omega
    have hdl : d < 256 := by omega
    have hnext : c * 2 ^ (n + 1) % 256 = 2 * d % 256 := by
      rw [← hd, Nat.pow_succ, ← Nat.mul_assoc]; omega
    rw [hbit, hnext, bst_cst hb (by omega)]
    rw [byte_split hdl, ← Nat.xor_assoc, cst_xor (Nat.xor_lt_two_pow hb (byte_split1 hdl)) (byte_split2 d), byte_split3]
theorem bitsN_8 {r c : Nat} (hr : r < 65536) (hc : c < 256) : bitsN r c 8 = crcB r c := by
  have := bits_step hr hc 8 (by omega)
  rw [show c * 2 ^ 8 % 256 * 256 = 0 by omega, Nat.xor_zero] at this
  exact this.symm
/-- exclusive or, bit by bit -/
theorem lay_step (a b i : Nat) : (a ^^^ b) % 2 ^ (i + 1) = (a ^^^ b) % 2 ^ i + (if a / 2 ^ i % 2 ≠ b / 2 ^ i % 2 then 2 ^ i else 0) := by
  rw [Nat.pow_succ, Nat.mod_mul]
  congr 1
  rw [xor_divp, xor_mod2]
  by_cases h : a / 2 ^ i % 2 ≠ b / 2 ^ i % 2
  · rw [if_pos h, show (a / 2 ^ i % 2 + b / 2 ^ i % 2) % 2 = 1 by omega, Nat.mul_one]
  · rw [if_neg h, show (a / 2 ^ i % 2 + b / 2 ^ i % 2) % 2 = 0 by omega, Nat.mul_zero]
end Go.Proofs.Ytpjpaipkkcengaa
set_option linter.unusedSimpArgs false
set_option linter.unusedVariables false
set_option maxHeartbeats 800000
set_option maxRecDepth 100000
namespace Go.Proofs.Ytpjpaipkkcengaa
open Go.RowKit

theorem cst_bits {r : Nat} (hr : r < 65536) : decide (bits .and .u16 (r : Int) 32768 ≠ 0) = decide (32768 ≤ r) := by
  have h := and_u16 (a := r) (b := 32768) hr (by omega)
  rw [show ((32768 : Nat) : Int) = 32768 from rfl] at h
  rw [h]
  have h2 := and_pow r 15
  rw [show (2 : Nat) ^ 15 = 32768 from rfl] at h2
  rw [h2]
  by_cases h3 : 32768 ≤ r
  · have : r / 32768 % 2 = 1 := by omega
    simp [h3, this]
  · have : r / 32768 % 2 = 0 := by omega
    simp [h3, this]

theorem c_crcMore1 (r : Nat) (hr : r < 65536) (w0 : World) :
    CallR Try.prog 261 #[.int .u16 (r : Int)] w0 fun v w' => v = .int .u16 ((cst r : Nat) : Int) ∧ Ext w0 w' := by
 have hS : St NoB w0 w0 [] := St.start w0
 refine c_enter (l := [.int .u16 (r : Int), undef, undef, undef, undef, undef, undef, undef, undef, undef, undef]) Try.func261 rfl (by simp only [Try.ntmps261, List.size_toArray, List.length_cons, List.length_nil, Nat.reduceAdd, Nat.reduceSub, Array.replicate_succ, Array.replicate_zero, List.push_toArray, List.append_toArray, List.nil_append, List.cons_append]) ?_
 refine x_seq fun K1 hK1 => ?_
 refine x_region ?_
 refine s_go (s_assign) ?_
 try simp only [opv, n1, n2, n3, n4, Value.cells]
 refine x_nil ?_
 refine hK1 _ _ ?_
 refine x_seq fun K2 hK2 => ?_
 refine x_seq fun K3 hK3 => ?_
 refine x_region ?_
 refine s_go (s_move) ?_
 try simp only [opv, n1, n2, n3, n4, Value.cells]
 refine s_go (s_bits (by simp) (hc := rfl)) ?_
 try simp only [opv, n1, n2, n3, n4, Value.cells]
 refine s_go (s_neq) ?_
 try simp only [opv, n1, n2, n3, n4, Value.cells]
 rw [cst_bits hr]
 refine x_nil ?_
 refine hK3 _ _ ?_
 refine x_cond (ht := fun hc1 => ?_) (hf := fun hc1 => ?_)
 ·
  try simp only [decide_eq_true_eq, decide_eq_false_iff_not, Bool.not_eq_true', Bool.not_eq_false', Int.not_lt, Int.not_le, ne_eq, Decidable.not_not, bne_iff_ne, beq_iff_eq, not_true_eq_false, not_false_eq_true] at hc1
  refine x_seq fun K4 hK4 => ?_
  refine x_region ?_
  refine s_go (s_move) ?_
  try simp only [opv, n1, n2, n3, n4, Value.cells]
  refine s_go (s_shl (hc := shl_u16 (r := r) (p := 2) (s := 2 * r % 65536) (by rw [Nat.mul_comm]))) ?_
  try simp only [opv, n1, n2, n3, n4, Value.cells]
  refine s_go (s_bits (by simp) (hc := xor_u16 (a := 2 * r % 65536) (b := 4129) (by omega) (by omega))) ?_
  try simp only [opv, n1, n2, n3, n4, Value.cells]
  refine s_go (s_assign) ?_
  try simp only [opv, n1, n2, n3, n4, Value.cells]
  refine x_nil ?_
  refine hK4 _ _ ?_
  refine x_ret ?_
  refine r_tmp rfl ?_
  exact ⟨by rw [cst, if_pos hc1]; rfl, hS.ext_of⟩
 ·
  try simp only [decide_eq_true_eq, decide_eq_false_iff_not, Bool.not_eq_true', Bool.not_eq_false', Int.not_lt, Int.not_le, ne_eq, Decidable.not_not, bne_iff_ne, beq_iff_eq, not_true_eq_false, not_false_eq_true] at hc1
  refine x_skip ?_
  refine hK2 _ _ ?_
  refine x_seq fun K5 hK5 => ?_
  refine x_region ?_
  refine s_go (s_move) ?_
  try simp only [opv, n1, n2, n3, n4, Value.cells]
  refine s_go (s_shl (hc := shl_u16 (r := r) (p := 2) (s := 2 * r % 65536) (by rw [Nat.mul_comm]))) ?_
  try simp only [opv, n1, n2, n3, n4, Value.cells]
  refine s_go (s_assign) ?_
  try simp only [opv, n1, n2, n3, n4, Value.cells]
  refine x_nil ?_
  refine hK5 _ _ ?_
  refine x_ret ?_
  refine r_tmp rfl ?_
  exact ⟨by rw [cst, if_neg hc1]; rfl, hS.ext_of⟩

def ctab : List Int := (List.range 256).map fun i => ((cstN 8 (i * 256) : Nat) : Int)
def ctabTo (k : Nat) : List Int := ctab.take k ++ List.replicate (256 - k) 0
theorem ctab_len : ctab.length = 256 := by simp [ctab]
theorem ctabTo_len {k : Nat} (h : k ≤ 256) : (ctabTo k).length = 256 := by simp [ctabTo, ctab_len]; omega
theorem ctabTo_zero : ctabTo 0 = List.replicate 256 0 := by simp [ctabTo]
theorem ctabTo_all : ctabTo 256 = ctab := by simp only [ctabTo, Nat.sub_self, List.replicate_zero, List.append_nil]; rw [← ctab_len, List.take_length]
theorem ctabTo_set {k : Nat} (h : k < 256) : (ctabTo k).set k ((cstN 8 (k * 256) : Nat) : Int) = ctabTo (k + 1) := by
  unfold ctabTo
  rw [List.set_append_right _ _ (by simp [ctab_len]; omega)]
  have e : k - (ctab.take k).length = 0 := by simp [ctab_len]; omega
  rw [e, show 256 - k = (256 - (k + 1)) + 1 by omega, List.replicate_succ, List.set_cons_zero]
  have hk : k < ctab.length := by rw [ctab_len]; exact h
  rw [List.take_succ_eq_append_getElem hk]
  simp [ctab]
theorem ctab_cell {i : Nat} (h : i < 256) : (ic .u16 ctab)[i]? = some (.int .u16 ((cstN 8 (i * 256) : Nat) : Int)) := by
  rw [ic_get (by rw [ctab_len]; exact h)]
  simp [ctab, List.getD_eq_getElem?_getD, h]

theorem c_crcTable  (w0 : World) :
    CallR Try.prog 260 #[.func (.func 261) #[] #[]] w0 fun v w' => v = .agg (ic .u16 ctab) ∧ Ext w0 w' := by
 have hS : St NoB w0 w0 [] := St.start w0
 refine c_enter (l := [.func (.func 261) #[] #[], undef, undef, undef, undef, undef, undef, undef, undef, undef, undef, undef, undef, undef, undef, undef, undef, undef, undef, undef, undef, undef]) Try.func260 rfl (by simp only [Try.ntmps260, List.size_toArray, List.length_cons, List.length_nil, Nat.reduceAdd, Nat.reduceSub, Array.replicate_succ, Array.replicate_zero, List.push_toArray, List.append_toArray, List.nil_append, List.cons_append]) ?_
 refine x_seq fun K1 hK1 => ?_
 refine x_region ?_
 refine m_alloc ti279 hS (fun w1 g1 hS => ?_)
 try simp only [opv, n1, n2, n3, n4, Value.cells, Array.toArray_toList] at hS ⊢
 refine x_nil ?_
 refine hK1 _ _ ?_
 refine x_seq fun K2 hK2 => ?_
 refine x_seq fun K3 hK3 => ?_
 refine x_region ?_
 refine s_go (s_move) ?_
 try simp only [opv, n1, n2, n3, n4, Value.cells]
 refine x_nil ?_
 refine hK3 _ _ ?_
 refine x_block ?_
 refine x_loop [3, 4, 5, 6, 7, 8, 9, 10, 11, 12, 13, 14, 15, 16, 17, 18, 19, 20] (fun m f w => ∃ k : Nat, k ≤ 256 ∧ m = 256 - k ∧ f 5 = .int .i64 (k : Int) ∧ St NoB w0 w [.obj g1 (.cells (ic .u16 (ctabTo k)) 279 (0, 0))]) (256) ?init1 (fun m1 f1 wl1 hI => ?_)
 case init1 =>
  try simp only [opv, n1, n2, n3, n4, Value.cells]
  exact ⟨0, by omega, rfl, rfl, by rw [ctabTo_zero]; exact hS⟩
 obtain ⟨k, hk, hm, h5, hS⟩ := hI
 simp only [clob, List.foldl, n3, n4, h5]
 have hkl := ctabTo_len hk
 refine x_seq fun K4 hK4 => ?_
 refine x_region ?_
 refine s_go (s_lss) ?_
 try simp only [opv, n1, n2, n3, n4, Value.cells]
 refine x_nil ?_
 refine hK4 _ _ ?_
 refine x_seq fun K5 hK5 => ?_
 refine x_cond (ht := fun hc1 => ?_) (hf := fun hc1 => ?_)
 ·
  try simp only [decide_eq_true_eq, decide_eq_false_iff_not, Bool.not_eq_true', Bool.not_eq_false', Int.not_lt, Int.not_le, ne_eq, Decidable.not_not, bne_iff_ne, beq_iff_eq, not_true_eq_false, not_false_eq_true] at hc1
  refine x_skip ?_
  refine hK5 _ _ ?_
  refine x_seq fun K6 hK6 => ?_
  refine x_block ?_
  refine x_seq fun K7 hK7 => ?_
  refine x_region ?_
  refine s_go (s_move) ?_
  try simp only [opv, n1, n2, n3, n4, Value.cells]
  refine s_go (s_assign) ?_
  try simp only [opv, n1, n2, n3, n4, Value.cells]
  refine x_nil ?_
  refine hK7 _ _ ?_
  refine x_seq fun K8 hK8 => ?_
  refine x_region ?_
  refine s_go (s_move) ?_
  try simp only [opv, n1, n2, n3, n4, Value.cells]
  refine s_go (s_conv Try.underlying3 Try.underlying58 (hc := by exact wr_u16 (by omega) (by omega))) ?_
  try simp only [opv, n1, n2, n3, n4, Value.cells]
  refine s_go (s_shl (hc := shl_u16 (r := k) (p := 256) (s := k * 256) (by omega))) ?_
  try simp only [opv, n1, n2, n3, n4, Value.cells]
  refine s_go (s_assign) ?_
  try simp only [opv, n1, n2, n3, n4, Value.cells]
  refine x_nil ?_
  refine hK8 _ _ ?_
  refine x_seq fun K9 hK9 => ?_
  refine x_seq fun K10 hK10 => ?_
  refine x_region ?_
  refine s_go (s_move) ?_
  try simp only [opv, n1, n2, n3, n4, Value.cells]
  refine x_nil ?_
  refine hK10 _ _ ?_
  refine x_block ?_
  refine x_loop [4, 11, 12, 13, 14, 15, 16] (fun m f w => ∃ j : Nat, j ≤ 8 ∧ m = 8 - j ∧ f 11 = .int .i64 (j : Int) ∧ f 4 = .int .u16 ((cstN j (k * 256) : Nat) : Int) ∧ St NoB w0 w [.obj g1 (.cells (ic .u16 (ctabTo k)) 279 (0, 0))]) (8) ?init2 (fun m2 f2 wl2 hI => ?_)
  case init2 =>
   try simp only [opv, n1, n2, n3, n4, Value.cells]
   exact ⟨0, by omega, rfl, rfl, rfl, hS⟩
  obtain ⟨j, hj, hm2, h11, h4, hS⟩ := hI
  simp only [clob, List.foldl, n3, n4, h11, h4]
  have hcl : cstN j (k * 256) < 65536 := cstN_lt (by omega) j
  refine x_seq fun K11 hK11 => ?_
  refine x_region ?_
  refine s_go (s_lss) ?_
  try simp only [opv, n1, n2, n3, n4, Value.cells]
  refine x_nil ?_
  refine hK11 _ _ ?_
  refine x_seq fun K12 hK12 => ?_
  refine x_cond (ht := fun hc2 => ?_) (hf := fun hc2 => ?_)
  ·
   try simp only [decide_eq_true_eq, decide_eq_false_iff_not, Bool.not_eq_true', Bool.not_eq_false', Int.not_lt, Int.not_le, ne_eq, Decidable.not_not, bne_iff_ne, beq_iff_eq, not_true_eq_false, not_false_eq_true] at hc2
   refine x_skip ?_
   refine hK12 _ _ ?_
   refine x_seq fun K13 hK13 => ?_
   refine x_block ?_
   refine x_region ?_
   refine s_go (s_move) ?_
   try simp only [opv, n1, n2, n3, n4, Value.cells]
   refine s_go (s_move) ?_
   try simp only [opv, n1, n2, n3, n4, Value.cells]
   refine s_callv (hv := rfl) en261 ?_
   try simp only [opv, n1, n2, n3, n4, Value.cells, List.map_toArray, List.map_cons, List.map_nil, List.append_toArray, List.cons_append, List.nil_append, Array.append_empty]
   refine CallR.mono (c_crcMore1 _ (by assumption) _) ?_
   rintro _ w2 ⟨rfl, hE2⟩
   replace hS := hS.ext hE2
   try simp only [opv, n1, n2, n3, n4, Value.cells]
   refine s_go (s_assign) ?_
   try simp only [opv, n1, n2, n3, n4, Value.cells]
   refine x_nil ?_
   refine hK13 _ _ ?_
   refine x_region ?_
   refine s_go (s_add (hc := by exact wr_i64 (by omega) (by omega))) ?_
   try simp only [opv, n1, n2, n3, n4, Value.cells]
   refine s_go (s_move) ?_
   try simp only [opv, n1, n2, n3, n4, Value.cells]
   refine x_nil ?_
   refine loop_back (m' := 8 - (j + 1)) (by simp only [clob, List.foldl, n1, n2, n3, n4]) ?_ ?_
   · try simp only [opv, n1, n2, n3, n4, Value.cells]
     exact ⟨j + 1, by omega, by omega, by rfl, by rfl, hS⟩
   · omega
  ·
   try simp only [decide_eq_true_eq, decide_eq_false_iff_not, Bool.not_eq_true', Bool.not_eq_false', Int.not_lt, Int.not_le, ne_eq, Decidable.not_not, bne_iff_ne, beq_iff_eq, not_true_eq_false, not_false_eq_true] at hc2
   obtain rfl : j = 8 := by omega
   refine x_exit (look_here ?_)
   refine hK9 _ _ ?_
   refine x_region ?_
   refine s_go (s_move) ?_
   try simp only [opv, n1, n2, n3, n4, Value.cells]
   refine s_go (s_move) ?_
   try simp only [opv, n1, n2, n3, n4, Value.cells]
   refine s_go (m_indexAddr_arr Try.underlying279 ti58) ?_
   try simp only [opv, n1, n2, n3, n4, Value.cells, Nat.mul_one, Nat.zero_add, Int.toNat_natCast, Int.reduceToNat]
   refine m_store_obj ti58 (hS := hS) (hc := by exact (splice_ic (by rw [hkl]; omega)).trans (by rw [ctabTo_set (by omega)])) (h := fun w3 hS => ?_)
   try simp only [opv, n1, n2, n3, n4, Value.cells, Array.toArray_toList] at hS ⊢
   refine x_nil ?_
   refine hK6 _ _ ?_
   refine x_region ?_
   refine s_go (s_add (hc := by exact wr_i64 (by omega) (by omega))) ?_
   try simp only [opv, n1, n2, n3, n4, Value.cells]
   refine s_go (s_move) ?_
   try simp only [opv, n1, n2, n3, n4, Value.cells]
   refine x_nil ?_
   refine loop_back (m' := 256 - (k + 1)) (by simp only [clob, List.foldl, n1, n2, n3, n4]) ?_ ?_
   · try simp only [opv, n1, n2, n3, n4, Value.cells]
     exact ⟨k + 1, by omega, by omega, by rfl, hS⟩
   · omega
 ·
  try simp only [decide_eq_true_eq, decide_eq_false_iff_not, Bool.not_eq_true', Bool.not_eq_false', Int.not_lt, Int.not_le, ne_eq, Decidable.not_not, bne_iff_ne, beq_iff_eq, not_true_eq_false, not_false_eq_true] at hc1
  obtain rfl : k = 256 := by omega
  rw [ctabTo_all] at hS
  have hcl := ctab_len
  refine x_exit (look_here ?_)
  refine hK2 _ _ ?_
  refine x_seq fun K14 hK14 => ?_
  refine x_region ?_
  refine s_go (m_load_row Try.underlying279 (hi := ti279) (hS := hS)) ?_
  try simp only [opv, n1, n2, n3, n4, Value.cells, List.getElem_toArray, List.getElem_cons_zero, List.getElem_cons_succ]
  refine m_store_obj ti279 (hS := hS) (h := fun w4 hS => ?_)
  try simp only [opv, n1, n2, n3, n4, Value.cells, Array.toArray_toList] at hS ⊢
  refine x_nil ?_
  refine hK14 _ _ ?_
  refine x_ret ?_
  refine r_cell_agg rfl Try.underlying279 ti279 (hS := hS) (hR := ?_)
  exact ⟨rfl, hS.ext_of⟩
theorem c_crcMore (w0 : World) (r : Nat) (hrr : r < 65536) (A : Option Addr) (n c : Nat) (l : List Int) (hr : Rd w0 A 1 n (l.map (Value.int .u8))) (hl : l.length = n) (hw : Byt l) (hn : n ≤ 140737488355000) (hc : n ≤ c) :
    CallR Try.prog 252 #[.int .u16 (r : Int), .slice A n c] w0 fun v w' => v = .int .u16 ((crcM r l : Nat) : Int) ∧ Ext w0 w' := by
 have hS := St.rd1 (S := NoB) hr
 refine c_enter (l := [.int .u16 (r : Int), .slice A n c, undef, undef, undef, undef, undef, undef, undef, undef, undef, undef, undef, undef, undef, undef, undef, undef, undef, undef, undef, undef, undef, undef, undef, undef, undef]) Try.func252 rfl (by simp only [Try.ntmps252, List.size_toArray, List.length_cons, List.length_nil, Nat.reduceAdd, Nat.reduceSub, Array.replicate_succ, Array.replicate_zero, List.push_toArray, List.append_toArray, List.nil_append, List.cons_append]) ?_
 refine x_seq fun K1 hK1 => ?_
 refine x_region ?_
 refine s_go (s_assign) ?_
 try simp only [opv, n1, n2, n3, n4, Value.cells]
 refine x_nil ?_
 refine hK1 _ _ ?_
 refine x_seq fun K2 hK2 => ?_
 refine x_region ?_
 refine s_call en260 ?_
 try simp only [opv, n1, n2, n3, n4, Value.cells, List.map_toArray, List.map_cons, List.map_nil, List.append_toArray, List.cons_append, List.nil_append, Array.append_empty]
 refine CallR.mono (c_crcTable _) ?_
 rintro _ w1 ⟨rfl, hE1⟩
 replace hS := hS.ext hE1
 try simp only [opv, n1, n2, n3, n4, Value.cells]
 refine m_alloc ti279 hS (fun w2 g2 hS => ?_)
 try simp only [opv, n1, n2, n3, n4, Value.cells, Array.toArray_toList] at hS ⊢
 refine m_store_obj ti279 (hS := hS) (h := fun w3 hS => ?_)
 try simp only [opv, n1, n2, n3, n4, Value.cells, Array.toArray_toList] at hS ⊢
 refine x_nil ?_
 refine hK2 _ _ ?_
 refine x_seq fun K3 hK3 => ?_
 refine x_seq fun K4 hK4 => ?_
 refine x_region ?_
 refine s_go (s_move) ?_
 try simp only [opv, n1, n2, n3, n4, Value.cells]
 refine s_go (s_len_sl Try.underlying43) ?_
 try simp only [opv, n1, n2, n3, n4, Value.cells]
 refine s_go (s_move) ?_
 try simp only [opv, n1, n2, n3, n4, Value.cells]
 refine x_nil ?_
 refine hK4 _ _ ?_
 refine x_block ?_
 refine x_loop [0, 7, 11, 12, 13, 14, 15, 16, 17, 18, 19, 20, 21, 22, 23, 24, 25] (fun m f w => ∃ k : Nat, k ≤ n ∧ m = n - k ∧ f 11 = .int .i64 (k : Int) ∧ f 0 = .int .u16 ((crcM r (l.take k) : Nat) : Int) ∧ St NoB w0 w [.obj g2 (.cells (ic .u16 ctab) 279 (0, 0)), .rd A 1 n (l.map (Value.int .u8))]) (n) ?init1 (fun m1 f1 wl1 hI => ?_)
 case init1 =>
  try simp only [opv, n1, n2, n3, n4, Value.cells]
  exact ⟨0, by omega, rfl, rfl, rfl, hS⟩
 obtain ⟨k, hk, hm, h11, h0, hS⟩ := hI
 simp only [clob, List.foldl, n3, n4, h11, h0]
 have hcl : crcM r (l.take k) < 65536 := crcM_lt _ hrr
 have hby := hw.bt k
 have hxl : (crcM r (l.take k) / 256) ^^^ bt l k < 256 := Nat.xor_lt_two_pow (n := 8) (by omega) (by omega)
 refine x_seq fun K5 hK5 => ?_
 refine x_region ?_
 refine s_go (s_lss) ?_
 try simp only [opv, n1, n2, n3, n4, Value.cells]
 refine x_nil ?_
 refine hK5 _ _ ?_
 refine x_seq fun K6 hK6 => ?_
 refine x_cond (ht := fun hc1 => ?_) (hf := fun hc1 => ?_)
 ·
  try simp only [decide_eq_true_eq, decide_eq_false_iff_not, Bool.not_eq_true', Bool.not_eq_false', Int.not_lt, Int.not_le, ne_eq, Decidable.not_not, bne_iff_ne, beq_iff_eq, not_true_eq_false, not_false_eq_true] at hc1
  refine x_skip ?_
  refine hK6 _ _ ?_
  refine x_seq fun K7 hK7 => ?_
  refine x_block ?_
  refine x_seq fun K8 hK8 => ?_
  refine x_region ?_
  refine s_go (m_indexAddr_rd Try.underlying43 ti5 (hS := hS)) ?_
  try simp only [opv, n1, n2, n3, n4, Value.cells, Nat.mul_one, Nat.zero_add, Int.toNat_natCast, Int.reduceToNat]
  refine s_go (m_load_rd Try.underlying5 (hS := hS)) ?_
  try simp only [opv, n1, n2, n3, n4, Value.cells, List.getElem_toArray, List.getElem_cons_zero, List.getElem_cons_succ]
  rw [hby.1]
  refine s_go (s_assign) ?_
  try simp only [opv, n1, n2, n3, n4, Value.cells]
  refine x_nil ?_
  refine hK8 _ _ ?_
  refine x_region ?_
  refine s_go (s_move) ?_
  try simp only [opv, n1, n2, n3, n4, Value.cells]
  refine s_go (s_shl (hc := shl_u16 (r := crcM r (l.take k)) (p := 256) (s := crcM r (l.take k) * 256 % 65536) rfl)) ?_
  try simp only [opv, n1, n2, n3, n4, Value.cells]
  refine s_go (s_move) ?_
  try simp only [opv, n1, n2, n3, n4, Value.cells]
  refine s_go (s_shr (hc := shr_u .u16 (r := crcM r (l.take k)) (p := 256) (s := crcM r (l.take k) / 256) rfl)) ?_
  try simp only [opv, n1, n2, n3, n4, Value.cells]
  refine s_go (s_conv Try.underlying58 Try.underlying5 (hc := by exact wr_u8 (by omega) (by omega))) ?_
  try simp only [opv, n1, n2, n3, n4, Value.cells]
  refine s_go (s_move) ?_
  try simp only [opv, n1, n2, n3, n4, Value.cells]
  refine s_go (s_bits (by simp) (hc := xor_u8 (a := crcM r (l.take k) / 256) (b := bt l k) (by omega) (by omega))) ?_
  try simp only [opv, n1, n2, n3, n4, Value.cells]
  refine s_go (m_indexAddr_arr Try.underlying279 ti58) ?_
  try simp only [opv, n1, n2, n3, n4, Value.cells, Nat.mul_one, Nat.zero_add, Int.toNat_natCast, Int.reduceToNat]
  refine s_go (m_load_obj Try.underlying58 (hS := hS) (hv := ctab_cell hxl)) ?_
  try simp only [opv, n1, n2, n3, n4, Value.cells, List.getElem_toArray, List.getElem_cons_zero, List.getElem_cons_succ]
  refine s_go (s_bits (by simp) (hc := (xor_u16 (by omega) (cstN_lt (by omega) 8)).trans (by rw [tab_step hcl hby.2]))) ?_
  try simp only [opv, n1, n2, n3, n4, Value.cells]
  refine s_go (s_assign) ?_
  try simp only [opv, n1, n2, n3, n4, Value.cells]
  refine x_nil ?_
  refine hK7 _ _ ?_
  refine x_region ?_
  refine s_go (s_add (hc := by exact wr_i64 (by omega) (by omega))) ?_
  try simp only [opv, n1, n2, n3, n4, Value.cells]
  refine s_go (s_move) ?_
  try simp only [opv, n1, n2, n3, n4, Value.cells]
  refine x_nil ?_
  refine loop_back (m' := n - (k + 1)) (by simp only [clob, List.foldl, n1, n2, n3, n4]) ?_ ?_
  · try simp only [opv, n1, n2, n3, n4, Value.cells]
    exact ⟨k + 1, by omega, by omega, by rfl, by rw [crcM_snoc (by omega)], hS⟩
  · omega
 ·
  try simp only [decide_eq_true_eq, decide_eq_false_iff_not, Bool.not_eq_true', Bool.not_eq_false', Int.not_lt, Int.not_le, ne_eq, Decidable.not_not, bne_iff_ne, beq_iff_eq, not_true_eq_false, not_false_eq_true] at hc1
  obtain rfl : k = n := by omega
  rw [← hl, List.take_length]
  refine x_exit (look_here ?_)
  refine hK3 _ _ ?_
  refine x_seq fun K9 hK9 => ?_
  refine x_region ?_
  refine s_go (s_move) ?_
  try simp only [opv, n1, n2, n3, n4, Value.cells]
  refine s_go (s_assign) ?_
  try simp only [opv, n1, n2, n3, n4, Value.cells]
  refine x_nil ?_
  refine hK9 _ _ ?_
  refine x_ret ?_
  refine r_tmp rfl ?_
  exact ⟨rfl, hS.ext_of⟩
theorem c_crcSum (w0 : World) (A : Option Addr) (n c : Nat) (l : List Int) (hr : Rd w0 A 1 n (l.map (Value.int .u8))) (hl : l.length = n) (hw : Byt l) (hn : n ≤ 140737488355000) (hc : n ≤ c) :
    CallR Try.prog 229 #[.slice A n c] w0 fun v w' => v = .int .u16 ((crcM 65535 l : Nat) : Int) ∧ Ext w0 w' := by
 have hS := St.rd1 (S := NoB) hr
 refine c_enter (l := [.slice A n c, undef, undef, undef, undef]) Try.func229 rfl (by simp only [Try.ntmps229, List.size_toArray, List.length_cons, List.length_nil, Nat.reduceAdd, Nat.reduceSub, Array.replicate_succ, Array.replicate_zero, List.push_toArray, List.append_toArray, List.nil_append, List.cons_append]) ?_
 refine x_seq fun K1 hK1 => ?_
 refine x_region ?_
 refine s_go (s_assign) ?_
 try simp only [opv, n1, n2, n3, n4, Value.cells]
 refine x_nil ?_
 refine hK1 _ _ ?_
 refine x_seq fun K2 hK2 => ?_
 refine x_region ?_
 refine s_go (s_move) ?_
 try simp only [opv, n1, n2, n3, n4, Value.cells]
 refine s_call en252 ?_
 try simp only [opv, n1, n2, n3, n4, Value.cells, List.map_toArray, List.map_cons, List.map_nil, List.append_toArray, List.cons_append, List.nil_append, Array.append_empty]
 refine CallR.mono (c_crcMore _ 65535 (by omega) _ _ _ _ (hS.hasRd (by repeat (exact Has.head))) (by simp [*]) (by assumption) (by omega) (by omega)) ?_
 rintro _ w1 ⟨rfl, hE1⟩
 replace hS := hS.ext hE1
 try simp only [opv, n1, n2, n3, n4, Value.cells]
 refine s_go (s_assign) ?_
 try simp only [opv, n1, n2, n3, n4, Value.cells]
 refine x_nil ?_
 refine hK2 _ _ ?_
 refine x_ret ?_
 refine r_tmp rfl ?_
 exact ⟨rfl, hS.ext_of⟩
end Go.Proofs.Ytpjpaipkkcengaa
