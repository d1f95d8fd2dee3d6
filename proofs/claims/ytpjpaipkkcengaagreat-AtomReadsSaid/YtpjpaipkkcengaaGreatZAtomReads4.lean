/- Rules, plain words and walks that the claim leans on: Di, Pread3, Cl, Cy. -/
import Derived.Test.YtpjpaipkkcengaaGreatZAtomReads3
set_option linter.unusedSimpArgs false
set_option linter.unusedVariables false
set_option linter.unusedSimpArgs false
set_option linter.unusedVariables false
set_option maxHeartbeats 8000000
set_option maxRecDepth 100000
namespace Go.Proofs.YtpjpaipkkcengaaGreat
open Go.RowKit

theorem unv_cnt {l : List Int} : ∀ (k i x : Nat), ¬ (unv l k i x).2.2 = 0 → (unv l k i x).2.1 = 0 ∧ (unv l k i x).1 = 0
  | 0, _, _, _ => ⟨rfl, rfl⟩
  | k + 1, i, x, h => by
    unfold unv at h ⊢
    split
    · exact ⟨rfl, rfl⟩
    · next h1 =>
      rw [if_neg h1] at h
      split
      · exact ⟨rfl, rfl⟩
      · next h2 =>
        rw [if_neg h2] at h
        split
        · exact ⟨rfl, rfl⟩
        · next h3 =>
          rw [if_neg h3] at h
          split
          · next h4 => rw [if_pos h4] at h; exact absurd rfl h
          · next h4 => rw [if_neg h4] at h; exact unv_cnt k _ _ h
theorem unvar_cnt {xs : List Int} (hb : Byt xs) : (unvar xs).2.1 ≤ xs.length := by
  by_cases h : (unvar xs).2.2 = 0
  · exact (unvar_back hb h).1
  · have := (unv_cnt (l := xs) 10 0 0 h).1
    rw [unvar, this]; exact Nat.zero_le _
def CrSt (w0 w' : World) (M : List Res) (g : Nat) (e : Int) (xs : List Int) (R : List Res) : Prop := ∃ (A : Option Addr) (c : Nat), xs.length ≤ c ∧ RdIn w0 M A xs.length ∧ St (OwnB M) w0 w' (.obj g (.cells #[.slice A xs.length c, .int .i64 e] 44 (0, 0)) :: .rd A 1 xs.length (xs.map (Value.int .u8)) :: R)
/-- where a number that was read ends -/
def NumJ (A : Option Addr) (c : Nat) (xs : List Int) (m x : Nat) (B : Option Addr) (k d : Nat) : Prop := (numS m 0 xs).2.1 = 0 → x = (numS m 0 xs).1 ∧ ∃ j, j ≤ xs.length ∧ (numS m 0 xs).2.2 = xs.drop j ∧ k = xs.length - j ∧ d = c - j ∧ (j < xs.length → B = A.map (·.add j))

theorem c_ref07num (w0 : World) (A : Option Addr) (c : Nat) (xs : List Int) (hr : Rd w0 A 1 xs.length (xs.map (Value.int .u8))) (hw : Byt xs) (hn : xs.length ≤ 1000000000) (hc : xs.length ≤ c) (m : Nat) (hm : m < 18446744073709551616)  :
    CallR Tryz.prog 61 #[.slice A xs.length c, .int .u64 (m : Int)] w0 fun v w' => ∃ (x : Nat) (B : Option Addr) (k d : Nat), v = .tuple #[.int .u64 (x : Int), .slice B k d, .int .i64 (numS m 0 xs).2.1] ∧ Ext w0 w' ∧ NumJ A c xs m x B k d := by
 have hS := St.rd1 (S := NoB) hr
 have hul := unvar_lt hw
 have huc := unvar_cnt hw
 refine c_enter (l := [.slice A xs.length c, .int .u64 (m : Int), undef, undef, undef, undef, undef, undef, undef, undef, undef, undef, undef, undef, undef, undef, undef, undef, undef, undef, undef, undef, undef, undef, undef, undef, undef, undef]) Tryz.func61 rfl (by simp only [Tryz.ntmps61, List.size_toArray, List.length_cons, List.length_nil, Nat.reduceAdd, Nat.reduceSub, Array.replicate_succ, Array.replicate_zero, List.push_toArray, List.append_toArray, List.nil_append, List.cons_append]) ?_
 refine x_seq fun K1 hK1 => ?_
 refine x_region ?_
 refine s_go (s_assign) ?_
 try simp only [opv, nZ, Value.cells]
 refine s_go (s_assign) ?_
 try simp only [opv, nZ, Value.cells]
 refine s_go (s_assign) ?_
 try simp only [opv, nZ, Value.cells]
 refine x_nil ?_
 refine hK1 _ _ ?_
 refine x_seq fun K2 hK2 => ?_
 refine x_region ?_
 refine s_go (s_move) ?_
 try simp only [opv, nZ, Value.cells]
 refine s_call en91 ?_
 try simp only [opv, nZ, Value.cells, List.map_toArray, List.map_cons, List.map_nil, List.append_toArray, List.cons_append, List.nil_append, Array.append_empty]
 refine CallR.mono (c_ref03Unvar _ A _ c xs (hS.hasRd (by repeat (exact Has.head))) rfl hw (by omega) hc) ?_
 rintro _ w1 ⟨rfl, hE1⟩
 replace hS := hS.ext hE1
 try simp only [opv, nZ, Value.cells]
 unfold UnvP
 refine s_go (s_move) ?_
 try simp only [opv, nZ, Value.cells]
 refine s_go (s_extract (hv := rfl)) ?_
 try simp only [List.getElem_toArray, List.getElem_cons_zero, List.getElem_cons_succ]
 try simp only [opv, nZ, Value.cells]
 refine s_go (s_extract (hv := rfl)) ?_
 try simp only [List.getElem_toArray, List.getElem_cons_zero, List.getElem_cons_succ]
 try simp only [opv, nZ, Value.cells]
 refine s_go (s_extract (hv := rfl)) ?_
 try simp only [List.getElem_toArray, List.getElem_cons_zero, List.getElem_cons_succ]
 try simp only [opv, nZ, Value.cells]
 refine s_go (s_assign) ?_
 try simp only [opv, nZ, Value.cells]
 refine s_go (s_assign) ?_
 try simp only [opv, nZ, Value.cells]
 refine s_go (s_assign) ?_
 try simp only [opv, nZ, Value.cells]
 refine x_nil ?_
 refine hK2 _ _ ?_
 refine x_seq fun K3 hK3 => ?_
 refine x_seq fun K4 hK4 => ?_
 refine x_region ?_
 refine s_go (s_move) ?_
 try simp only [opv, nZ, Value.cells]
 refine s_go (s_eql) ?_
 try simp only [opv, nZ, Value.cells]
 refine s_go (s_move) ?_
 try simp only [opv, nZ, Value.cells]
 refine s_part 18 rfl (fun hp1 => ?_) (fun hp1 => ?_)
 ·
  try simp only [n3, n4]
  try simp only [decide_eq_true_eq, decide_eq_false_iff_not, Bool.not_eq_true', Bool.not_eq_false', Int.not_lt, Int.not_le, ne_eq, Decidable.not_not] at hp1
  have h0 : (unvar xs).2.2 = 0 := by omega
  refine g_on (yi (t := 18) rfl rfl) ?_
  refine s_go (s_move) ?_
  try simp only [opv, nZ, Value.cells]
  refine g_on (yi (t := 18) rfl rfl) ?_
  refine s_go (s_move) ?_
  try simp only [opv, nZ, Value.cells]
  refine g_on (yi (t := 18) rfl rfl) ?_
  refine s_go (s_gtr) ?_
  try simp only [opv, nZ, Value.cells]
  refine s_go (s_pick_t) ?_
  try simp only [opv, nZ, Value.cells]
  refine x_nil ?_
  refine hK4 _ _ ?_
  refine x_cond (ht := fun hc1 => ?_) (hf := fun hc1 => ?_)
  ·
   try simp only [decide_eq_true_eq, decide_eq_false_iff_not, Bool.not_eq_true', Bool.not_eq_false', Int.not_lt, Int.not_le, ne_eq, Decidable.not_not, bne_iff_ne, beq_iff_eq, not_true_eq_false, not_false_eq_true] at hc1
   have hN : numS m 0 xs = (0, 2, []) := by simp only [numS, if_true]; rw [if_pos h0, if_neg (by omega)]
   refine x_seq fun K5 hK5 => ?_
   refine x_region ?_
   refine s_go (s_assign) ?_
   try simp only [opv, nZ, Value.cells]
   refine s_go (s_assign) ?_
   try simp only [opv, nZ, Value.cells]
   refine s_go (s_assign) ?_
   try simp only [opv, nZ, Value.cells]
   refine x_nil ?_
   refine hK5 _ _ ?_
   refine x_ret ?_
   refine r_tmp3 rfl ?_
   exact ⟨0, none, 0, 0, by rw [hN]; rfl, hS.ext_of, fun h => by rw [hN] at h; exact absurd h (by decide)⟩
  ·
   try simp only [decide_eq_true_eq, decide_eq_false_iff_not, Bool.not_eq_true', Bool.not_eq_false', Int.not_lt, Int.not_le, ne_eq, Decidable.not_not, bne_iff_ne, beq_iff_eq, not_true_eq_false, not_false_eq_true] at hc1
   have hN : numS m 0 xs = ((unvar xs).1, 0, xs.drop (unvar xs).2.1) := by (simp only [numS, if_true]; rw [if_pos h0, if_pos (by omega)])
   refine x_skip ?_
   refine hK3 _ _ ?_
   refine x_seq fun K6 hK6 => ?_
   refine x_mixed_f [] 0 [4, 5, 6, 23, 24, 25, 26, 27] (fun f w => ∃ B : Option Addr, f 4 = .int .u64 ((unvar xs).1 : Int) ∧ f 5 = .slice B (xs.length - (unvar xs).2.1) (c - (unvar xs).2.1) ∧ f 6 = .int .i64 ((unvar xs).2.2 : Int) ∧ ((unvar xs).2.1 < xs.length → B = A.map (·.add (unvar xs).2.1)) ∧ Ext w0 w) (by kernel_rfl) (by kernel_rfl) (by kernel_rfl) (by decide) hS (fun w2 hS => ?mixpre401) ?mixrest401
   case mixpre401 =>
    refine p_nil ?_
    simp only [List.length_cons, List.length_nil, Nat.reduceAdd, Nat.reduceSub]
    refine any_go (i := 0) (by rfl) (by decide +kernel) (by decide +kernel) noLate_nil (go_yields w_none (fun w hS => s_move)) ?_
    try simp only [opv, nZ, Value.cells]
    refine any_go (i := 1) (by rfl) (by decide +kernel) (by decide +kernel) noLate_nil (go_yields w_none (fun w hS => s_move)) ?_
    try simp only [opv, nZ, Value.cells]
    refine any_go (i := 2) (by rfl) (by decide +kernel) (by decide +kernel) noLate_nil (go_yields w_none (fun w hS => s_move)) ?_
    try simp only [opv, nZ, Value.cells]
    refine any_go (i := 4) (by rfl) (by decide +kernel) (by decide +kernel) noLate_nil (go_yields w_none (fun w hS => s_move)) ?_
    try simp only [opv, nZ, Value.cells]
    refine any_go (i := 5) (by rfl) (by decide +kernel) (by decide +kernel) noLate_nil (go_yields w_none (fun w hS => s_assign)) ?_
    try simp only [opv, nZ, Value.cells]
    refine any_step [3] (by kernel_rfl) (by decide) (fun w3 hE => ⟨fun _ => (hS.ext hE).sel (by repeat (first | exact Sel.nil | (refine Sel.cons (by repeat (exact Del.head)) ?_))), ?_⟩)
    replace hS := hS.ext hE
    intro i hi
    simp only [List.mem_cons, List.not_mem_nil, or_false] at hi
    subst hi
    ·
     refine any_op (by rfl) ?_
     refine m_slice_rd (lo := (unvar xs).2.1) (hi := xs.length) (m := c) Tryz.underlying33 ti5 (hlo := ⟨_, rfl⟩) (hhi := ⟨rfl, rfl⟩) (hmx := rfl) (hS := hS) (h := fun A1 hA1 hS => ?_)
     try simp only [Nat.mul_one, Nat.zero_mul] at hA1
     try simp only [← List.map_append, ← List.map_drop, ← List.map_take, Nat.mul_one, Nat.zero_mul, Nat.sub_zero, List.drop_zero, List.nil_append, Nat.zero_add] at hS ⊢
     try simp only [opv, nZ, Value.cells, Array.toArray_toList] at hS ⊢
     refine x_nil ?_
     refine any_go (i := 6) (by rfl) (by decide +kernel) (by decide +kernel) noLate_nil (go_yields w_none (fun w hS => s_assign)) ?_
     try simp only [opv, nZ, Value.cells]
     refine any_go (i := 7) (by rfl) (by decide +kernel) (by decide +kernel) noLate_nil (go_yields w_none (fun w hS => s_assign)) ?_
     try simp only [opv, nZ, Value.cells]
     refine any_nil (by kernel_rfl) (fun w4 hE => ?_)
     replace hS := hS.ext hE
     refine ⟨fun _ => hS.selA, ?_⟩
     refine mix_leaf (by simp only [clob, List.foldl, nZ]) ?_
     try simp only [n1, n2]
     exact ⟨_, by trivial, rfl, by trivial, by assumption, hS.ext_of⟩
   intro fm1 w5 hM
   obtain ⟨B, h4, h5, h6, hB, hEE⟩ := hM
   simp only [clob, List.foldl, n3, n4, h4, h5, h6]
   refine hK6 _ _ ?_
   refine x_ret ?_
   refine r_tmp3 rfl ?_
   exact ⟨_, B, _, _, by rw [hN, h0]; rfl, hEE, fun _ => by rw [hN]; exact ⟨rfl, _, huc, rfl, rfl, rfl, hB⟩⟩
 ·
  try simp only [n3, n4]
  try simp only [decide_eq_true_eq, decide_eq_false_iff_not, Bool.not_eq_true', Bool.not_eq_false', Int.not_lt, Int.not_le, ne_eq, Decidable.not_not] at hp1
  have h0 : ¬ (unvar xs).2.2 = 0 := by omega
  have hN : numS m 0 xs = (0, ((unvar xs).2.2 : Int), []) := by simp only [numS, if_true]; rw [if_neg h0]
  refine g_off (yi (t := 18) rfl rfl) ?_
  try simp only [opv, nZ, Value.cells]
  refine g_off (yi (t := 18) rfl rfl) ?_
  try simp only [opv, nZ, Value.cells]
  refine g_off (yi (t := 18) rfl rfl) ?_
  try simp only [opv, nZ, Value.cells]
  refine s_go (s_pick_f) ?_
  try simp only [opv, nZ, Value.cells]
  refine x_nil ?_
  refine hK4 _ _ ?_
  refine x_cond_f (h := ?_)
  skip
  refine x_skip ?_
  refine hK3 _ _ ?_
  refine x_seq fun K7 hK7 => ?_
  refine x_mixed_f [] 0 [4, 5, 6, 23, 24, 25, 26, 27] (fun f w => ∃ B : Option Addr, f 4 = .int .u64 ((unvar xs).1 : Int) ∧ f 5 = .slice B (xs.length - (unvar xs).2.1) (c - (unvar xs).2.1) ∧ f 6 = .int .i64 ((unvar xs).2.2 : Int) ∧ ((unvar xs).2.1 < xs.length → B = A.map (·.add (unvar xs).2.1)) ∧ Ext w0 w) (by kernel_rfl) (by kernel_rfl) (by kernel_rfl) (by decide) hS (fun w6 hS => ?mixpre402) ?mixrest402
  case mixpre402 =>
   refine p_nil ?_
   simp only [List.length_cons, List.length_nil, Nat.reduceAdd, Nat.reduceSub]
   refine any_go (i := 0) (by rfl) (by decide +kernel) (by decide +kernel) noLate_nil (go_yields w_none (fun w hS => s_move)) ?_
   try simp only [opv, nZ, Value.cells]
   refine any_go (i := 1) (by rfl) (by decide +kernel) (by decide +kernel) noLate_nil (go_yields w_none (fun w hS => s_move)) ?_
   try simp only [opv, nZ, Value.cells]
   refine any_go (i := 2) (by rfl) (by decide +kernel) (by decide +kernel) noLate_nil (go_yields w_none (fun w hS => s_move)) ?_
   try simp only [opv, nZ, Value.cells]
   refine any_go (i := 4) (by rfl) (by decide +kernel) (by decide +kernel) noLate_nil (go_yields w_none (fun w hS => s_move)) ?_
   try simp only [opv, nZ, Value.cells]
   refine any_go (i := 5) (by rfl) (by decide +kernel) (by decide +kernel) noLate_nil (go_yields w_none (fun w hS => s_assign)) ?_
   try simp only [opv, nZ, Value.cells]
   refine any_step [3] (by kernel_rfl) (by decide) (fun w7 hE => ⟨fun _ => (hS.ext hE).sel (by repeat (first | exact Sel.nil | (refine Sel.cons (by repeat (exact Del.head)) ?_))), ?_⟩)
   replace hS := hS.ext hE
   intro i hi
   simp only [List.mem_cons, List.not_mem_nil, or_false] at hi
   subst hi
   ·
    refine any_op (by rfl) ?_
    refine m_slice_rd (lo := (unvar xs).2.1) (hi := xs.length) (m := c) Tryz.underlying33 ti5 (hlo := ⟨_, rfl⟩) (hhi := ⟨rfl, rfl⟩) (hmx := rfl) (hS := hS) (h := fun A2 hA2 hS => ?_)
    try simp only [Nat.mul_one, Nat.zero_mul] at hA2
    try simp only [← List.map_append, ← List.map_drop, ← List.map_take, Nat.mul_one, Nat.zero_mul, Nat.sub_zero, List.drop_zero, List.nil_append, Nat.zero_add] at hS ⊢
    try simp only [opv, nZ, Value.cells, Array.toArray_toList] at hS ⊢
    refine x_nil ?_
    refine any_go (i := 6) (by rfl) (by decide +kernel) (by decide +kernel) noLate_nil (go_yields w_none (fun w hS => s_assign)) ?_
    try simp only [opv, nZ, Value.cells]
    refine any_go (i := 7) (by rfl) (by decide +kernel) (by decide +kernel) noLate_nil (go_yields w_none (fun w hS => s_assign)) ?_
    try simp only [opv, nZ, Value.cells]
    refine any_nil (by kernel_rfl) (fun w8 hE => ?_)
    replace hS := hS.ext hE
    refine ⟨fun _ => hS.selA, ?_⟩
    refine mix_leaf (by simp only [clob, List.foldl, nZ]) ?_
    try simp only [n1, n2]
    exact ⟨_, by trivial, rfl, by trivial, by assumption, hS.ext_of⟩
  intro fm2 w9 hM
  obtain ⟨B, h4, h5, h6, hB, hEE⟩ := hM
  simp only [clob, List.foldl, n3, n4, h4, h5, h6]
  refine hK7 _ _ ?_
  refine x_ret ?_
  refine r_tmp3 rfl ?_
  exact ⟨_, B, _, _, by rw [hN]; rfl, hEE, fun h => by rw [hN] at h; exact absurd h (by simpa using h0)⟩

theorem rdS_err {d : Int} {x : Nat} {n e : Int} {xs : List Int} (h : ¬ e = 0) : rdS d x n e xs = ((0, 0, nm0, []), e, xs) := by
  unfold rdS
  repeat' split
  · rw [numS_err h]
  · rw [oneS_err h]
  · rw [namS_err h]
  · rw [bytS_err h]
section
variable {d : Int} {x : Nat} {n : Int} {xs : List Int}
theorem rdS_0y (h0 : d = 0) (hE : (numS x 0 xs).2.1 = 0) : rdS d x n 0 xs = (((numS x 0 xs).1, 0, nm0, []), 0, (numS x 0 xs).2.2) := by rw [rdS, if_pos h0]; exact Prod.ext rfl (Prod.ext hE rfl)
theorem rdS_0e (h0 : d = 0) (hE : ¬ (numS x 0 xs).2.1 = 0) : rdS d x n 0 xs = ((0, 0, nm0, []), (numS x 0 xs).2.1, []) := by
  rw [rdS, if_pos h0]
  have h1 := numS_bad hE
  have h2 : (numS x 0 xs).2.2 = [] := numS_ok (xs := xs) (fun h => absurd rfl h) hE
  rw [h1, ← h2]
theorem rdS_1s (h0 : ¬ d = 0) (h1 : d = 1) (hl : ¬ 1 ≤ xs.length) : rdS d x n 0 xs = ((0, 0, nm0, []), 4, []) := by
  rw [rdS, if_neg h0, if_pos h1]; simp only [oneS, if_true]; rw [if_neg hl]
theorem rdS_1y (h0 : ¬ d = 0) (h1 : d = 1) (hl : 1 ≤ xs.length) : rdS d x n 0 xs = ((0, xs.getD 0 0, nm0, []), 0, xs.drop 1) := by
  rw [rdS, if_neg h0, if_pos h1]; simp only [oneS, if_true]; rw [if_pos hl]
theorem rdS_2 (h0 : ¬ d = 0) (h1 : ¬ d = 1) (h2 : d = 2) {nm ys : List Int} {e : Int} (h : namS 0 xs = (nm, e, ys)) : rdS d x n 0 xs = ((0, 0, nm, []), e, ys) := by
  rw [rdS, if_neg h0, if_neg h1, if_pos h2, h]
theorem rdS_3e (h0 : ¬ d = 0) (h1 : ¬ d = 1) (h2 : ¬ d = 2) (hE : ¬ (numS n.toNat 0 xs).2.1 = 0) : rdS d x n 0 xs = ((0, 0, nm0, []), (numS n.toNat 0 xs).2.1, []) := by
  have h3 : (numS n.toNat 0 xs).2.2 = [] := numS_ok (xs := xs) (fun h => absurd rfl h) hE
  rw [rdS, if_neg h0, if_neg h1, if_neg h2, bytS, if_neg hE, h3]
theorem rdS_3s (h0 : ¬ d = 0) (h1 : ¬ d = 1) (h2 : ¬ d = 2) (hE : (numS n.toNat 0 xs).2.1 = 0) (hl : ¬ (numS n.toNat 0 xs).1 ≤ (numS n.toNat 0 xs).2.2.length) : rdS d x n 0 xs = ((0, 0, nm0, []), 4, []) := by
  rw [rdS, if_neg h0, if_neg h1, if_neg h2, bytS, if_pos hE, if_neg hl]
theorem rdS_3y (h0 : ¬ d = 0) (h1 : ¬ d = 1) (h2 : ¬ d = 2) (hE : (numS n.toNat 0 xs).2.1 = 0) {ys : List Int} (hy : (numS n.toNat 0 xs).2.2 = ys) (hl : (numS n.toNat 0 xs).1 ≤ ys.length) : rdS d x n 0 xs = ((0, 0, nm0, ys.take (numS n.toNat 0 xs).1), 0, ys.drop (numS n.toNat 0 xs).1) := by
  subst hy
  rw [rdS, if_neg h0, if_neg h1, if_neg h2, bytS, if_pos hE, if_pos hl]
end
theorem add_block (A : Option Addr) (k : Nat) : (A.map (·.add k)).map (·.block) = A.map (·.block) := by
  rcases A with _ | ⟨g, o, p⟩ <;> simp only [Option.map, Addr.add] <;> (try (split <;> rfl))
theorem RdIn.sub2 {w0 : World} {M : List Res} {A A' : Option Addr} {n n' : Nat} {xs : List Value} (hm : Res.rd A 1 n xs ∈ M) (h : 0 < n' → 0 < n ∧ A'.map (·.block) = A.map (·.block)) : RdIn w0 M A' n' := fun b hb => by
  by_cases h0 : n' = 0
  · rw [if_pos h0] at hb; cases hb
  · obtain ⟨h1, h2⟩ := h (by omega)
    rw [if_neg h0, h2] at hb
    exact .inr ⟨_, hm, .inr (by simp only [Res.reads, if_neg (show ¬ n = 0 by omega)]; exact hb)⟩
theorem pA_nm {d : Int} {x : Nat} {c : Int} {nm' nm : List Int} {B : Option Addr} {m k : Nat} {n : Int} (h : nm.length = 8) : splice (pA d x c nm' B m k n).toList 3 (ic .u8 nm).toList = (pA d x c nm B m k n).toList := by
  rw [← ic8 h]; rfl

theorem c_ref07Read (w0 : World) (g : Nat) (e : Int) (A : Option Addr) (c : Nat) (xs : List Int) (hc : xs.length ≤ c) (hw : Byt xs) (hn : xs.length ≤ 1000000000) (p : Pc) (hpx : p.x < 18446744073709551616) (hpn : p.n ≤ 9223372036854775807) (hM : St (OwnB [.obj g (.cells #[.slice A xs.length c, .int .i64 e] 44 (0, 0)), .rd A 1 xs.length (xs.map (Value.int .u8))]) w0 w0 [.obj g (.cells #[.slice A xs.length c, .int .i64 e] 44 (0, 0)), .rd A 1 xs.length (xs.map (Value.int .u8))]) :
    CallR Tryz.prog 29 #[.pointer (some ⟨g, 0, none⟩), .agg (pP p)] w0 fun v w' => ∃ (B : Option Addr) (k : Nat), v = .agg (pA p.d (rdS p.d p.x p.n e xs).1.1 (rdS p.d p.x p.n e xs).1.2.1 (rdS p.d p.x p.n e xs).1.2.2.1 B (rdS p.d p.x p.n e xs).1.2.2.2.length k 0) ∧ RdIn w0 [.obj g (.cells #[.slice A xs.length c, .int .i64 e] 44 (0, 0)), .rd A 1 xs.length (xs.map (Value.int .u8))] B (rdS p.d p.x p.n e xs).1.2.2.2.length ∧ CrSt w0 w' [.obj g (.cells #[.slice A xs.length c, .int .i64 e] 44 (0, 0)), .rd A 1 xs.length (xs.map (Value.int .u8))] g (rdS p.d p.x p.n e xs).2.1 (rdS p.d p.x p.n e xs).2.2 [.rd B 1 (rdS p.d p.x p.n e xs).1.2.2.2.length ((rdS p.d p.x p.n e xs).1.2.2.2.map (Value.int .u8))] := by
 have hS := hM
 refine c_enter (l := [.pointer (some ⟨g, 0, none⟩), .agg (pP p), undef, undef, undef, undef, undef, undef, undef, undef, undef, undef, undef, undef, undef, undef, undef, undef, undef, undef, undef, undef, undef, undef, undef, undef, undef, undef, undef, undef, undef, undef, undef, undef, undef, undef, undef, undef, undef, undef, undef, undef, undef, undef, undef, undef, undef, undef, undef, undef, undef, undef, undef, undef, undef, undef, undef, undef, undef, undef, undef, undef, undef, undef, undef, undef, undef, undef, undef, undef, undef, undef, undef, undef, undef, undef, undef, undef, undef, undef, undef, undef, undef, undef, undef, undef, undef, undef, undef, undef, undef, undef, undef, undef, undef, undef, undef, undef, undef, undef, undef, undef, undef, undef, undef, undef, undef, undef, undef, undef, undef, undef, undef, undef, undef, undef, undef, undef, undef, undef, undef, undef, undef, undef, undef, undef, undef, undef, undef, undef, undef, undef, undef, undef, undef, undef, undef, undef, undef, undef, undef, undef, undef, undef, undef, undef, undef, undef, undef, undef, undef, undef, undef, undef, undef, undef, undef, undef, undef, undef, undef]) Tryz.func29 rfl (by simp only [Tryz.ntmps29, List.size_toArray, List.length_cons, List.length_nil, Nat.reduceAdd, Nat.reduceSub, Array.replicate_succ, Array.replicate_zero, List.push_toArray, List.append_toArray, List.nil_append, List.cons_append]) ?_
 refine x_seq fun K1 hK1 => ?_
 refine x_region ?_
 refine m_box hS (fun w1 g1 hS => ?_)
 try simp only [opv, nZ, Value.cells, Array.toArray_toList] at hS ⊢
 refine m_alloc ti58 hS (fun w2 g2 hS => ?_)
 try simp only [opv, nZ, Value.cells, Array.toArray_toList] at hS ⊢
 replace hS : St (OwnB [.obj g (.cells #[.slice A xs.length c, .int .i64 e] 44 (0, 0)), .rd A 1 xs.length (xs.map (Value.int .u8))]) w0 w2 [.obj g2 (.cells (pA 0 0 0 nm0 none 0 0 0) 58 (0, 0)), .obj g1 (.cells (pP p) 58 (0, 0)), .obj g (.cells #[.slice A xs.length c, .int .i64 e] 44 (0, 0)), .rd A 1 xs.length (xs.map (Value.int .u8))] := hS
 refine x_nil ?_
 refine hK1 _ _ ?_
 refine x_seq fun K2 hK2 => ?_
 refine x_region ?_
 refine s_go (m_fieldAddr Tryz.underlying58 (hi := ti3)) ?_
 try simp only [opv, nZ, Value.cells, Nat.zero_add, Nat.add_zero, List.getElem_toArray, List.getElem_cons_zero, List.getElem_cons_succ]
 refine s_go (m_load_obj Tryz.underlying3 (hS := hS)) ?_
 try simp only [opv, nZ, Value.cells, List.getElem_toArray, List.getElem_cons_zero, List.getElem_cons_succ]
 refine s_go (s_build_struct (cells := #[_, .int .u64 0, .int .u8 0, .int .u8 0, .int .u8 0, .int .u8 0, .int .u8 0, .int .u8 0, .int .u8 0, .int .u8 0, .int .u8 0, .slice none 0 0, .int .i64 0]) Tryz.underlying58 ti58 bp58 (hc := by simp only [List.map_toArray, List.map_cons, List.map_nil, opv, nZ, Value.cells, List.toList_toArray]; (repeat (refine fill_cons rfl rfl (Nat.le_of_ble_eq_true rfl) ?_)); rfl)) ?_
 try simp only [opv, nZ, Value.cells]
 refine m_alloc ti58 hS (fun w3 g3 hS => ?_)
 try simp only [opv, nZ, Value.cells, Array.toArray_toList] at hS ⊢
 refine m_store_obj ti58 (hS := hS) (h := fun w4 hS => ?_)
 try simp only [opv, nZ, Value.cells, Array.toArray_toList] at hS ⊢
 replace hS : St (OwnB [.obj g (.cells #[.slice A xs.length c, .int .i64 e] 44 (0, 0)), .rd A 1 xs.length (xs.map (Value.int .u8))]) w0 w4 [.obj g3 (.cells (pA p.d 0 0 nm0 none 0 0 0) 58 (0, 0)), .obj g2 (.cells (pA 0 0 0 nm0 none 0 0 0) 58 (0, 0)), .obj g1 (.cells (pP p) 58 (0, 0)), .obj g (.cells #[.slice A xs.length c, .int .i64 e] 44 (0, 0)), .rd A 1 xs.length (xs.map (Value.int .u8))] := hS
 refine x_nil ?_
 refine hK2 _ _ ?_
 refine x_seq fun K3 hK3 => ?_
 refine x_seq fun K4 hK4 => ?_
 refine x_region ?_
 refine s_go (s_move) ?_
 try simp only [opv, nZ, Value.cells]
 refine s_go (s_nilCheck) ?_
 try simp only [opv, nZ, Value.cells]
 refine s_go (m_fieldAddr Tryz.underlying44 (hi := ti42)) ?_
 try simp only [opv, nZ, Value.cells, Nat.zero_add, Nat.add_zero, List.getElem_toArray, List.getElem_cons_zero, List.getElem_cons_succ]
 refine s_go (m_load_obj Tryz.underlying42 (hS := hS)) ?_
 try simp only [opv, nZ, Value.cells, List.getElem_toArray, List.getElem_cons_zero, List.getElem_cons_succ]
 refine s_go (s_neq) ?_
 try simp only [opv, nZ, Value.cells]
 refine x_nil ?_
 refine hK4 _ _ ?_
 refine x_cond (ht := fun hc1 => ?_) (hf := fun hc1 => ?_)
 ·
  try simp only [decide_eq_true_eq, decide_eq_false_iff_not, Bool.not_eq_true', Bool.not_eq_false', Int.not_lt, Int.not_le, ne_eq, Decidable.not_not, bne_iff_ne, beq_iff_eq, not_true_eq_false, not_false_eq_true] at hc1
  have hz := rdS_err (d := p.d) (x := p.x) (n := p.n) (xs := xs) hc1
  refine x_seq fun K5 hK5 => ?_
  refine x_region ?_
  refine s_go (m_load_row Tryz.underlying58 (hi := ti58) (hS := hS)) ?_
  try simp only [opv, nZ, Value.cells, List.getElem_toArray, List.getElem_cons_zero, List.getElem_cons_succ]
  refine m_store_obj ti58 (hS := hS) (h := fun w5 hS => ?_)
  try simp only [opv, nZ, Value.cells, Array.toArray_toList] at hS ⊢
  refine x_nil ?_
  refine hK5 _ _ ?_
  refine x_ret ?_
  refine r_cell_agg rfl Tryz.underlying58 ti58 (hS := hS) (hR := ?_)
  replace hS := hS.rd_none none 1
  exact ⟨none, 0, by rw [hz]; rfl, by rw [hz]; exact RdIn.none _ _ _, A, c, by rw [hz]; exact hc, by rw [hz]; exact RdIn.self (List.mem_cons_of_mem _ (List.mem_cons_self ..)), by rw [hz]; exact hS.selA⟩
 ·
  try simp only [decide_eq_true_eq, decide_eq_false_iff_not, Bool.not_eq_true', Bool.not_eq_false', Int.not_lt, Int.not_le, ne_eq, Decidable.not_not, bne_iff_ne, beq_iff_eq, not_true_eq_false, not_false_eq_true] at hc1
  have he0 : e = 0 := hc1
  subst he0
  refine x_skip ?_
  refine hK3 _ _ ?_
  refine x_seq fun K6 hK6 => ?_
  refine x_region ?_
  refine s_go (s_move) ?_
  try simp only [opv, nZ, Value.cells]
  refine s_go (s_nilCheck) ?_
  try simp only [opv, nZ, Value.cells]
  refine s_go (m_fieldAddr Tryz.underlying44 (hi := ti33)) ?_
  try simp only [opv, nZ, Value.cells, Nat.zero_add, Nat.add_zero, List.getElem_toArray, List.getElem_cons_zero, List.getElem_cons_succ]
  refine s_go (m_load_obj Tryz.underlying33 (hS := hS)) ?_
  try simp only [opv, nZ, Value.cells, List.getElem_toArray, List.getElem_cons_zero, List.getElem_cons_succ]
  refine s_go (s_assign) ?_
  try simp only [opv, nZ, Value.cells]
  refine s_go (s_assign) ?_
  try simp only [opv, nZ, Value.cells]
  refine x_nil ?_
  refine hK6 _ _ ?_
  refine x_seq fun K7 hK7 => ?_
  refine x_seq fun K8 hK8 => ?_
  refine x_region ?_
  refine s_go (m_fieldAddr Tryz.underlying58 (hi := ti3)) ?_
  try simp only [opv, nZ, Value.cells, Nat.zero_add, Nat.add_zero, List.getElem_toArray, List.getElem_cons_zero, List.getElem_cons_succ]
  refine s_go (m_load_obj Tryz.underlying3 (hS := hS)) ?_
  try simp only [opv, nZ, Value.cells, List.getElem_toArray, List.getElem_cons_zero, List.getElem_cons_succ]
  refine x_nil ?_
  refine hK8 _ _ ?_
  refine x_block ?_
  refine x_seq fun K9 hK9 => ?_
  refine x_region ?_
  refine s_go (s_eql) ?_
  try simp only [opv, nZ, Value.cells]
  refine s_go (s_assign) ?_
  try simp only [opv, nZ, Value.cells]
  refine x_nil ?_
  refine hK9 _ _ ?_
  refine x_cond (ht := fun hc2 => ?_) (hf := fun hc2 => ?_)
  ·
   try simp only [decide_eq_true_eq, decide_eq_false_iff_not, Bool.not_eq_true', Bool.not_eq_false', Int.not_lt, Int.not_le, ne_eq, Decidable.not_not, bne_iff_ne, beq_iff_eq, not_true_eq_false, not_false_eq_true] at hc2
   have h0 : p.d = 0 := hc2
   refine x_mixed_c (Lc := [.obj g1 (.cells (pP p) 58 (0, 0)), .obj g (.cells #[.slice A xs.length c, .int .i64 0] 44 (0, 0)), .rd A 1 xs.length (xs.map (Value.int .u8))]) [] 0 [6, 7, 62, 63, 64, 65, 66, 67, 68, 69, 70, 71, 72, 73] (fun f w => ∃ (x : Nat) (B : Option Addr) (k d : Nat), f 6 = .slice B k d ∧ f 7 = .int .i64 (numS p.x 0 xs).2.1 ∧ NumJ A c xs p.x x B k d ∧ St (OwnB [.obj g (.cells #[.slice A xs.length c, .int .i64 0] 44 (0, 0)), .rd A 1 xs.length (xs.map (Value.int .u8))]) w0 w [.obj g3 (.cells (pA p.d x 0 nm0 none 0 0 0) 58 (0, 0)), .obj g2 (.cells (pA 0 0 0 nm0 none 0 0 0) 58 (0, 0)), .obj g1 (.cells (pP p) 58 (0, 0)), .obj g (.cells #[.slice A xs.length c, .int .i64 0] 44 (0, 0)), .rd A 1 xs.length (xs.map (Value.int .u8))]) (by kernel_rfl) (by kernel_rfl) (by kernel_rfl) (by decide) hS (fun w6 hS => ?mixpre1301) ?mixrest1301
   case mixpre1301 =>
    refine p_nil ?_
    simp only [List.length_cons, List.length_nil, Nat.reduceAdd, Nat.reduceSub]
    refine any_go (i := 0) (by rfl) (by decide +kernel) (by decide +kernel) noLate_nil (go_yields w_none (fun w hS => s_move)) ?_
    try simp only [opv, nZ, Value.cells]
    refine any_go (i := 1) (by rfl) (by decide +kernel) (by decide +kernel) noLate_nil (go_yields w_none (fun w hS => s_nilCheck)) ?_
    try simp only [opv, nZ, Value.cells]
    refine any_go (i := 2) (by rfl) (by decide +kernel) (by decide +kernel) noLate_nil (go_yields w_none (fun w hS => m_fieldAddr Tryz.underlying44 (hi := ti33))) ?_
    try simp only [opv, nZ, Value.cells, Nat.zero_add, Nat.add_zero, List.getElem_toArray, List.getElem_cons_zero, List.getElem_cons_succ]
    refine any_go (i := 3) (by rfl) (by decide +kernel) (by decide +kernel) noLate_nil (go_yields w_none (fun w hS => m_load_obj Tryz.underlying33 (hS := hS))) ?_
    try simp only [opv, nZ, Value.cells, List.getElem_toArray, List.getElem_cons_zero, List.getElem_cons_succ]
    refine any_go (i := 4) (by rfl) (by decide +kernel) (by decide +kernel) noLate_nil (go_yields w_none (fun w hS => m_fieldAddr Tryz.underlying58 (hi := ti28))) ?_
    try simp only [opv, nZ, Value.cells, Nat.zero_add, Nat.add_zero, List.getElem_toArray, List.getElem_cons_zero, List.getElem_cons_succ]
    refine any_go (i := 5) (by rfl) (by decide +kernel) (by decide +kernel) noLate_nil (go_yields w_none (fun w hS => m_load_obj Tryz.underlying28 (hS := hS))) ?_
    try simp only [opv, nZ, Value.cells, List.getElem_toArray, List.getElem_cons_zero, List.getElem_cons_succ]
    refine any_step [6] (by kernel_rfl) (by decide) (fun w7 hE => ⟨fun _ => (hS.ext hE).sel (by repeat (first | exact Sel.nil | (refine Sel.cons (by repeat (first | exact Del.head | apply Del.tail)) ?_))), ?_⟩)
    replace hS := hS.ext hE
    intro i hi
    simp only [List.mem_cons, List.not_mem_nil, or_false] at hi
    subst hi
    ·
     refine any_op (by rfl) ?_
     refine s_call en61 ?_
     try simp only [opv, nZ, Value.cells, List.map_toArray, List.map_cons, List.map_nil, List.append_toArray, List.cons_append, List.nil_append, Array.append_empty]
     refine CallR.mono (c_ref07num _ A c xs (hS.hasRd (by repeat (first | exact Has.head | apply Has.tail))) hw hn hc p.x hpx) ?_
     rintro _ w8 ⟨x8, B8, k8, d8, rfl, hE8, hj8⟩
     replace hS := hS.ext hE8
     try simp only [opv, nZ, Value.cells]
     refine x_nil ?_
     refine any_go (i := 7) (by rfl) (by decide +kernel) (by decide +kernel) noLate_nil (go_yields w_none (fun w hS => s_move)) ?_
     try simp only [opv, nZ, Value.cells]
     refine any_go (i := 8) (by rfl) (by decide +kernel) (by decide +kernel) noLate_nil (go_yields w_none (fun w hS => s_extract (hv := rfl))) ?_
     try simp only [List.getElem_toArray, List.getElem_cons_zero, List.getElem_cons_succ]
     try simp only [opv, nZ, Value.cells]
     refine any_go (i := 9) (by rfl) (by decide +kernel) (by decide +kernel) noLate_nil (go_yields w_none (fun w hS => s_extract (hv := rfl))) ?_
     try simp only [List.getElem_toArray, List.getElem_cons_zero, List.getElem_cons_succ]
     try simp only [opv, nZ, Value.cells]
     refine any_go (i := 10) (by rfl) (by decide +kernel) (by decide +kernel) noLate_nil (go_yields w_none (fun w hS => s_extract (hv := rfl))) ?_
     try simp only [List.getElem_toArray, List.getElem_cons_zero, List.getElem_cons_succ]
     try simp only [opv, nZ, Value.cells]
     refine any_go (i := 11) (by rfl) (by decide +kernel) (by decide +kernel) noLate_nil (go_yields w_none (fun w hS => m_fieldAddr Tryz.underlying58 (hi := ti28))) ?_
     try simp only [opv, nZ, Value.cells, Nat.zero_add, Nat.add_zero, List.getElem_toArray, List.getElem_cons_zero, List.getElem_cons_succ]
     refine any_step [12] (by kernel_rfl) (by decide) (fun w9 hE => ⟨fun _ => (hS.ext hE).sel (by repeat (first | exact Sel.nil | (refine Sel.cons (by repeat (first | exact Del.head | apply Del.tail)) ?_))), ?_⟩)
     replace hS := hS.ext hE
     intro i hi
     simp only [List.mem_cons, List.not_mem_nil, or_false] at hi
     subst hi
     ·
      refine any_op (by rfl) ?_
      refine m_store_obj ti28 (hS := hS) (h := fun w10 hS => ?_)
      try simp only [opv, nZ, Value.cells, Array.toArray_toList] at hS ⊢
      refine x_nil ?_
      refine any_go (i := 13) (by rfl) (by decide +kernel) (by decide +kernel) noLate_nil (go_yields w_none (fun w hS => s_assign)) ?_
      try simp only [opv, nZ, Value.cells]
      refine any_go (i := 14) (by rfl) (by decide +kernel) (by decide +kernel) noLate_nil (go_yields w_none (fun w hS => s_assign)) ?_
      try simp only [opv, nZ, Value.cells]
      refine any_nil (by kernel_rfl) (fun w11 hE => ?_)
      replace hS := hS.ext hE
      refine ⟨fun _ => hS.selA, ?_⟩
      refine mix_leaf (by simp only [clob, List.foldl, nZ]) ?_
      try simp only [n1, n2]
      exact ⟨_, _, _, _, rfl, by trivial, by assumption, hS.sel (by repeat (first | exact Sel.nil | (refine Sel.cons (by repeat (exact Del.head)) ?_)))⟩
   intro fm1 w12 hM
   obtain ⟨xv, B, kb, db, h6, h7, hj, hS⟩ := hM
   simp only [clob, List.foldl, n3, n4, h6, h7]
   refine hK7 _ _ ?_
   refine x_seq fun K10 hK10 => ?_
   refine x_seq fun K11 hK11 => ?_
   refine x_region ?_
   refine s_go (s_move) ?_
   try simp only [opv, nZ, Value.cells]
   refine s_go (s_neq) ?_
   try simp only [opv, nZ, Value.cells]
   refine x_nil ?_
   refine hK11 _ _ ?_
   refine x_cond (ht := fun hc3 => ?_) (hf := fun hc3 => ?_)
   ·
    try simp only [decide_eq_true_eq, decide_eq_false_iff_not, Bool.not_eq_true', Bool.not_eq_false', Int.not_lt, Int.not_le, ne_eq, Decidable.not_not, bne_iff_ne, beq_iff_eq, not_true_eq_false, not_false_eq_true] at hc3
    have hz := rdS_0e (n := p.n) h0 (by assumption)
    refine x_seq fun K12 hK12 => ?_
    refine x_region ?_
    refine s_go (s_move) ?_
    try simp only [opv, nZ, Value.cells]
    refine s_go (s_move) ?_
    try simp only [opv, nZ, Value.cells]
    refine s_go (s_move) ?_
    try simp only [opv, nZ, Value.cells]
    refine s_go (s_nilCheck) ?_
    try simp only [opv, nZ, Value.cells]
    refine s_go (m_fieldAddr Tryz.underlying44 (hi := ti33)) ?_
    try simp only [opv, nZ, Value.cells, Nat.zero_add, Nat.add_zero, List.getElem_toArray, List.getElem_cons_zero, List.getElem_cons_succ]
    refine m_store_obj ti33 (hS := hS) (h := fun w13 hS => ?_)
    try simp only [opv, nZ, Value.cells, Array.toArray_toList] at hS ⊢
    refine s_go (s_nilCheck) ?_
    try simp only [opv, nZ, Value.cells]
    refine s_go (m_fieldAddr Tryz.underlying44 (hi := ti42)) ?_
    try simp only [opv, nZ, Value.cells, Nat.zero_add, Nat.add_zero, List.getElem_toArray, List.getElem_cons_zero, List.getElem_cons_succ]
    refine m_store_obj ti42 (hS := hS) (h := fun w14 hS => ?_)
    try simp only [opv, nZ, Value.cells, Array.toArray_toList] at hS ⊢
    refine x_nil ?_
    refine hK12 _ _ ?_
    refine x_seq fun K13 hK13 => ?_
    refine x_region ?_
    refine s_go (m_fieldAddr Tryz.underlying58 (hi := ti3)) ?_
    try simp only [opv, nZ, Value.cells, Nat.zero_add, Nat.add_zero, List.getElem_toArray, List.getElem_cons_zero, List.getElem_cons_succ]
    refine s_go (m_load_obj Tryz.underlying3 (hS := hS)) ?_
    try simp only [opv, nZ, Value.cells, List.getElem_toArray, List.getElem_cons_zero, List.getElem_cons_succ]
    refine s_go (s_build_struct (cells := #[_, .int .u64 0, .int .u8 0, .int .u8 0, .int .u8 0, .int .u8 0, .int .u8 0, .int .u8 0, .int .u8 0, .int .u8 0, .int .u8 0, .slice none 0 0, .int .i64 0]) Tryz.underlying58 ti58 bp58 (hc := by simp only [List.map_toArray, List.map_cons, List.map_nil, opv, nZ, Value.cells, List.toList_toArray]; (repeat (refine fill_cons rfl rfl (Nat.le_of_ble_eq_true rfl) ?_)); rfl)) ?_
    try simp only [opv, nZ, Value.cells]
    refine m_store_obj ti58 (hS := hS) (h := fun w15 hS => ?_)
    try simp only [opv, nZ, Value.cells, Array.toArray_toList] at hS ⊢
    refine x_nil ?_
    refine hK13 _ _ ?_
    refine x_ret ?_
    refine r_cell_agg rfl Tryz.underlying58 ti58 (hS := hS) (hR := ?_)
    replace hS := (hS.rd_none none 1).rd_none none 1
    exact ⟨none, 0, by rw [hz]; rfl, by rw [hz]; exact RdIn.none _ _ _, none, 0, by rw [hz]; exact Nat.le_refl 0, by rw [hz]; exact RdIn.none _ _ _, by rw [hz]; exact hS.selA⟩
   ·
    try simp only [decide_eq_true_eq, decide_eq_false_iff_not, Bool.not_eq_true', Bool.not_eq_false', Int.not_lt, Int.not_le, ne_eq, Decidable.not_not, bne_iff_ne, beq_iff_eq, not_true_eq_false, not_false_eq_true] at hc3
    (obtain ⟨rfl, j, hjl, hdr, rfl, rfl, hB⟩ := hj (by assumption); have hz := rdS_0y (n := p.n) h0 (by assumption); rw [hdr] at hz)
    refine x_skip ?_
    refine hK10 _ _ ?_
    refine x_seq fun K14 hK14 => ?_
    refine x_region ?_
    refine s_go (s_move) ?_
    try simp only [opv, nZ, Value.cells]
    refine s_go (s_move) ?_
    try simp only [opv, nZ, Value.cells]
    refine s_go (s_nilCheck) ?_
    try simp only [opv, nZ, Value.cells]
    refine s_go (m_fieldAddr Tryz.underlying44 (hi := ti33)) ?_
    try simp only [opv, nZ, Value.cells, Nat.zero_add, Nat.add_zero, List.getElem_toArray, List.getElem_cons_zero, List.getElem_cons_succ]
    refine m_store_obj ti33 (hS := hS) (h := fun w16 hS => ?_)
    try simp only [opv, nZ, Value.cells, Array.toArray_toList] at hS ⊢
    refine x_nil ?_
    refine hK14 _ _ ?_
    refine x_seq fun K15 hK15 => ?_
    refine x_region ?_
    refine s_go (m_load_row Tryz.underlying58 (hi := ti58) (hS := hS)) ?_
    try simp only [opv, nZ, Value.cells, List.getElem_toArray, List.getElem_cons_zero, List.getElem_cons_succ]
    refine m_store_obj ti58 (hS := hS) (h := fun w17 hS => ?_)
    try simp only [opv, nZ, Value.cells, Array.toArray_toList] at hS ⊢
    refine x_nil ?_
    refine hK15 _ _ ?_
    refine x_ret ?_
    refine r_cell_agg rfl Tryz.underlying58 ti58 (hS := hS) (hR := ?_)
    have hcpo : (xs.drop (j)).length ≤ c - (j) := by simp; omega
    have hRo : RdIn w0 [.obj g (.cells #[.slice A xs.length c, .int .i64 0] 44 (0, 0)), .rd A 1 xs.length (xs.map (Value.int .u8))] B (xs.drop (j)).length := RdIn.sub (List.mem_cons_of_mem _ (List.mem_cons_self ..)) (fun h => by simp at h; exact ⟨by omega, hB (by omega)⟩)
    replace hS := (hS.rd_drop (by repeat (first | exact Has.head | apply Has.tail)) (j) (by omega) B hB).rd_none none 1
    try rw [← List.length_drop] at hS
    exact ⟨_, _, by rw [hz]; rfl, by rw [hz]; exact RdIn.none _ _ _, _, _, by rw [hz]; exact hcpo, by rw [hz]; exact hRo, by rw [hz]; exact hS.selA⟩
  ·
   try simp only [decide_eq_true_eq, decide_eq_false_iff_not, Bool.not_eq_true', Bool.not_eq_false', Int.not_lt, Int.not_le, ne_eq, Decidable.not_not, bne_iff_ne, beq_iff_eq, not_true_eq_false, not_false_eq_true] at hc2
   have h0 : ¬ p.d = 0 := hc2
   refine x_seq fun K16 hK16 => ?_
   refine x_region ?_
   refine s_go (s_eql) ?_
   try simp only [opv, nZ, Value.cells]
   refine s_go (s_assign) ?_
   try simp only [opv, nZ, Value.cells]
   refine x_nil ?_
   refine hK16 _ _ ?_
   refine x_cond (ht := fun hc4 => ?_) (hf := fun hc4 => ?_)
   ·
    try simp only [decide_eq_true_eq, decide_eq_false_iff_not, Bool.not_eq_true', Bool.not_eq_false', Int.not_lt, Int.not_le, ne_eq, Decidable.not_not, bne_iff_ne, beq_iff_eq, not_true_eq_false, not_false_eq_true] at hc4
    have h1 : p.d = 1 := hc4
    refine x_seq fun K17 hK17 => ?_
    refine x_region ?_
    refine s_go (s_move) ?_
    try simp only [opv, nZ, Value.cells]
    refine s_go (s_nilCheck) ?_
    try simp only [opv, nZ, Value.cells]
    refine s_go (m_fieldAddr Tryz.underlying44 (hi := ti33)) ?_
    try simp only [opv, nZ, Value.cells, Nat.zero_add, Nat.add_zero, List.getElem_toArray, List.getElem_cons_zero, List.getElem_cons_succ]
    refine s_go (m_load_obj Tryz.underlying33 (hS := hS)) ?_
    try simp only [opv, nZ, Value.cells, List.getElem_toArray, List.getElem_cons_zero, List.getElem_cons_succ]
    refine s_go (s_len_sl Tryz.underlying33) ?_
    try simp only [opv, nZ, Value.cells]
    refine s_go (s_eql) ?_
    try simp only [opv, nZ, Value.cells]
    refine x_nil ?_
    refine hK17 _ _ ?_
    refine x_cond (ht := fun hc5 => ?_) (hf := fun hc5 => ?_)
    ·
     try simp only [decide_eq_true_eq, decide_eq_false_iff_not, Bool.not_eq_true', Bool.not_eq_false', Int.not_lt, Int.not_le, ne_eq, Decidable.not_not, bne_iff_ne, beq_iff_eq, not_true_eq_false, not_false_eq_true] at hc5
     have hz := rdS_1s (x := p.x) (n := p.n) (xs := xs) h0 h1 (by omega)
     refine x_region ?_
     refine s_go (s_assign) ?_
     try simp only [opv, nZ, Value.cells]
     refine x_nil ?_
     refine hK7 _ _ ?_
     refine x_seq fun K18 hK18 => ?_
     refine x_seq fun K19 hK19 => ?_
     refine x_region ?_
     refine s_go (s_move) ?_
     try simp only [opv, nZ, Value.cells]
     refine s_go (s_neq) ?_
     try simp only [opv, nZ, Value.cells]
     refine x_nil ?_
     refine hK19 _ _ ?_
     refine x_cond_t (h := ?_)
     skip
     refine x_seq fun K20 hK20 => ?_
     refine x_region ?_
     refine s_go (s_move) ?_
     try simp only [opv, nZ, Value.cells]
     refine s_go (s_move) ?_
     try simp only [opv, nZ, Value.cells]
     refine s_go (s_move) ?_
     try simp only [opv, nZ, Value.cells]
     refine s_go (s_nilCheck) ?_
     try simp only [opv, nZ, Value.cells]
     refine s_go (m_fieldAddr Tryz.underlying44 (hi := ti33)) ?_
     try simp only [opv, nZ, Value.cells, Nat.zero_add, Nat.add_zero, List.getElem_toArray, List.getElem_cons_zero, List.getElem_cons_succ]
     refine m_store_obj ti33 (hS := hS) (h := fun w18 hS => ?_)
     try simp only [opv, nZ, Value.cells, Array.toArray_toList] at hS ⊢
     refine s_go (s_nilCheck) ?_
     try simp only [opv, nZ, Value.cells]
     refine s_go (m_fieldAddr Tryz.underlying44 (hi := ti42)) ?_
     try simp only [opv, nZ, Value.cells, Nat.zero_add, Nat.add_zero, List.getElem_toArray, List.getElem_cons_zero, List.getElem_cons_succ]
     refine m_store_obj ti42 (hS := hS) (h := fun w19 hS => ?_)
     try simp only [opv, nZ, Value.cells, Array.toArray_toList] at hS ⊢
     refine x_nil ?_
     refine hK20 _ _ ?_
     refine x_seq fun K21 hK21 => ?_
     refine x_region ?_
     refine s_go (m_fieldAddr Tryz.underlying58 (hi := ti3)) ?_
     try simp only [opv, nZ, Value.cells, Nat.zero_add, Nat.add_zero, List.getElem_toArray, List.getElem_cons_zero, List.getElem_cons_succ]
     refine s_go (m_load_obj Tryz.underlying3 (hS := hS)) ?_
     try simp only [opv, nZ, Value.cells, List.getElem_toArray, List.getElem_cons_zero, List.getElem_cons_succ]
     refine s_go (s_build_struct (cells := #[_, .int .u64 0, .int .u8 0, .int .u8 0, .int .u8 0, .int .u8 0, .int .u8 0, .int .u8 0, .int .u8 0, .int .u8 0, .int .u8 0, .slice none 0 0, .int .i64 0]) Tryz.underlying58 ti58 bp58 (hc := by simp only [List.map_toArray, List.map_cons, List.map_nil, opv, nZ, Value.cells, List.toList_toArray]; (repeat (refine fill_cons rfl rfl (Nat.le_of_ble_eq_true rfl) ?_)); rfl)) ?_
     try simp only [opv, nZ, Value.cells]
     refine m_store_obj ti58 (hS := hS) (h := fun w20 hS => ?_)
     try simp only [opv, nZ, Value.cells, Array.toArray_toList] at hS ⊢
     refine x_nil ?_
     refine hK21 _ _ ?_
     refine x_ret ?_
     refine r_cell_agg rfl Tryz.underlying58 ti58 (hS := hS) (hR := ?_)
     replace hS := (hS.rd_none none 1).rd_none none 1
     exact ⟨none, 0, by rw [hz]; rfl, by rw [hz]; exact RdIn.none _ _ _, none, 0, by rw [hz]; exact Nat.le_refl 0, by rw [hz]; exact RdIn.none _ _ _, by rw [hz]; exact hS.selA⟩
    ·
     try simp only [decide_eq_true_eq, decide_eq_false_iff_not, Bool.not_eq_true', Bool.not_eq_false', Int.not_lt, Int.not_le, ne_eq, Decidable.not_not, bne_iff_ne, beq_iff_eq, not_true_eq_false, not_false_eq_true] at hc5
     have hl1 : 1 ≤ xs.length := by omega
     have hz := rdS_1y (x := p.x) (n := p.n) h0 h1 hl1
     refine x_mixed_c (Lc := [.obj g (.cells #[.slice A xs.length c, .int .i64 0] 44 (0, 0)), .rd A 1 xs.length (xs.map (Value.int .u8))]) [] 0 [6, 82, 83, 84, 85, 86, 87, 88, 89, 90, 91, 92, 93] (fun f w => ∃ B : Option Addr, f 6 = .slice B (xs.length - 1) (c - 1) ∧ (1 < xs.length → B = A.map (·.add 1)) ∧ St (OwnB [.obj g (.cells #[.slice A xs.length c, .int .i64 0] 44 (0, 0)), .rd A 1 xs.length (xs.map (Value.int .u8))]) w0 w [.obj g3 (.cells (pA p.d 0 (xs.getD 0 0) nm0 none 0 0 0) 58 (0, 0)), .obj g2 (.cells (pA 0 0 0 nm0 none 0 0 0) 58 (0, 0)), .obj g1 (.cells (pP p) 58 (0, 0)), .obj g (.cells #[.slice A xs.length c, .int .i64 0] 44 (0, 0)), .rd A 1 xs.length (xs.map (Value.int .u8))]) (by kernel_rfl) (by kernel_rfl) (by kernel_rfl) (by decide) hS (fun w21 hS => ?mixpre1702) ?mixrest1702
     case mixpre1702 =>
      refine p_nil ?_
      simp only [List.length_cons, List.length_nil, Nat.reduceAdd, Nat.reduceSub]
      refine any_go (i := 0) (by rfl) (by decide +kernel) (by decide +kernel) noLate_nil (go_yields w_none (fun w hS => s_move)) ?_
      try simp only [opv, nZ, Value.cells]
      refine any_go (i := 1) (by rfl) (by decide +kernel) (by decide +kernel) noLate_nil (go_yields w_none (fun w hS => s_nilCheck)) ?_
      try simp only [opv, nZ, Value.cells]
      refine any_go (i := 2) (by rfl) (by decide +kernel) (by decide +kernel) noLate_nil (go_yields w_none (fun w hS => m_fieldAddr Tryz.underlying44 (hi := ti33))) ?_
      try simp only [opv, nZ, Value.cells, Nat.zero_add, Nat.add_zero, List.getElem_toArray, List.getElem_cons_zero, List.getElem_cons_succ]
      refine any_go (i := 3) (by rfl) (by decide +kernel) (by decide +kernel) noLate_nil (go_yields w_none (fun w hS => m_load_obj Tryz.underlying33 (hS := hS))) ?_
      try simp only [opv, nZ, Value.cells, List.getElem_toArray, List.getElem_cons_zero, List.getElem_cons_succ]
      refine any_go (i := 4) (by rfl) (by decide +kernel) (by decide +kernel) noLate_nil (go_yields w_none (fun w hS => m_indexAddr_rd Tryz.underlying33 ti5 (hS := hS))) ?_
      try simp only [opv, nZ, Value.cells, Nat.mul_one, Nat.zero_add, Int.toNat_natCast, Int.reduceToNat]
      refine any_go (i := 5) (by rfl) (by decide +kernel) (by decide +kernel) noLate_nil (go_yields w_none (fun w hS => m_load_rd Tryz.underlying5 (hS := hS))) ?_
      try simp only [opv, nZ, Value.cells, List.getElem_toArray, List.getElem_cons_zero, List.getElem_cons_succ]
      refine any_go (i := 6) (by rfl) (by decide +kernel) (by decide +kernel) noLate_nil (go_yields w_none (fun w hS => s_move)) ?_
      try simp only [opv, nZ, Value.cells]
      refine any_go (i := 7) (by rfl) (by decide +kernel) (by decide +kernel) noLate_nil (go_yields w_none (fun w hS => s_nilCheck)) ?_
      try simp only [opv, nZ, Value.cells]
      refine any_go (i := 8) (by rfl) (by decide +kernel) (by decide +kernel) noLate_nil (go_yields w_none (fun w hS => m_fieldAddr Tryz.underlying44 (hi := ti33))) ?_
      try simp only [opv, nZ, Value.cells, Nat.zero_add, Nat.add_zero, List.getElem_toArray, List.getElem_cons_zero, List.getElem_cons_succ]
      refine any_go (i := 9) (by rfl) (by decide +kernel) (by decide +kernel) noLate_nil (go_yields w_none (fun w hS => m_load_obj Tryz.underlying33 (hS := hS))) ?_
      try simp only [opv, nZ, Value.cells, List.getElem_toArray, List.getElem_cons_zero, List.getElem_cons_succ]
      refine any_go (i := 11) (by rfl) (by decide +kernel) (by decide +kernel) noLate_nil (go_yields w_none (fun w hS => m_fieldAddr Tryz.underlying58 (hi := ti5))) ?_
      try simp only [opv, nZ, Value.cells, Nat.zero_add, Nat.add_zero, List.getElem_toArray, List.getElem_cons_zero, List.getElem_cons_succ]
      refine any_step [10, 12] (by kernel_rfl) (by decide) (fun w22 hE => ⟨fun _ => (hS.ext hE).sel (by repeat (first | exact Sel.nil | (refine Sel.cons (by repeat (first | exact Del.head | apply Del.tail)) ?_))), ?_⟩)
      replace hS := hS.ext hE
      intro i hi
      simp only [List.mem_cons, List.not_mem_nil, or_false] at hi
      rcases hi with rfl | rfl
      ·
       refine any_op (by rfl) ?_
       refine m_slice_rd (lo := 1) (hi := xs.length) (m := c) Tryz.underlying33 ti5 (hlo := ⟨_, rfl⟩) (hhi := ⟨rfl, rfl⟩) (hmx := rfl) (hS := hS) (h := fun A1 hA1 hS => ?_)
       try simp only [Nat.mul_one, Nat.zero_mul] at hA1
       try simp only [← List.map_append, ← List.map_drop, ← List.map_take, Nat.mul_one, Nat.zero_mul, Nat.sub_zero, List.drop_zero, List.nil_append, Nat.zero_add] at hS ⊢
       try simp only [opv, nZ, Value.cells, Array.toArray_toList] at hS ⊢
       refine x_nil ?_
       refine any_step [12] (by kernel_rfl) (by decide) (fun w23 hE => ⟨fun _ => (hS.ext hE).sel (by repeat (first | exact Sel.nil | (refine Sel.cons (by repeat (first | exact Del.head | apply Del.tail)) ?_))), ?_⟩)
       replace hS := hS.ext hE
       intro i hi
       simp only [List.mem_cons, List.not_mem_nil, or_false] at hi
       subst hi
       ·
        refine any_op (by rfl) ?_
        refine m_store_obj ti5 (hS := hS) (h := fun w24 hS => ?_)
        try simp only [opv, nZ, Value.cells, Array.toArray_toList] at hS ⊢
        refine x_nil ?_
        refine any_go (i := 13) (by rfl) (by decide +kernel) (by decide +kernel) noLate_nil (go_yields w_none (fun w hS => s_assign)) ?_
        try simp only [opv, nZ, Value.cells]
        refine any_nil (by kernel_rfl) (fun w25 hE => ?_)
        replace hS := hS.ext hE
        refine ⟨fun _ => hS.selA, ?_⟩
        refine mix_leaf (by simp only [clob, List.foldl, nZ]) ?_
        try simp only [n1, n2]
        exact ⟨_, rfl, by assumption, hS.selA⟩
      ·
       refine any_op (by rfl) ?_
       refine m_store_obj ti5 (hS := hS) (h := fun w26 hS => ?_)
       try simp only [opv, nZ, Value.cells, Array.toArray_toList] at hS ⊢
       refine x_nil ?_
       refine any_step [10] (by kernel_rfl) (by decide) (fun w27 hE => ⟨fun _ => (hS.ext hE).sel (by repeat (first | exact Sel.nil | (refine Sel.cons (by repeat (first | exact Del.head | apply Del.tail)) ?_))), ?_⟩)
       replace hS := hS.ext hE
       intro i hi
       simp only [List.mem_cons, List.not_mem_nil, or_false] at hi
       subst hi
       ·
        refine any_op (by rfl) ?_
        refine m_slice_rd (lo := 1) (hi := xs.length) (m := c) Tryz.underlying33 ti5 (hlo := ⟨_, rfl⟩) (hhi := ⟨rfl, rfl⟩) (hmx := rfl) (hS := hS) (h := fun A2 hA2 hS => ?_)
        try simp only [Nat.mul_one, Nat.zero_mul] at hA2
        try simp only [← List.map_append, ← List.map_drop, ← List.map_take, Nat.mul_one, Nat.zero_mul, Nat.sub_zero, List.drop_zero, List.nil_append, Nat.zero_add] at hS ⊢
        try simp only [opv, nZ, Value.cells, Array.toArray_toList] at hS ⊢
        refine x_nil ?_
        refine any_go (i := 13) (by rfl) (by decide +kernel) (by decide +kernel) noLate_nil (go_yields w_none (fun w hS => s_assign)) ?_
        try simp only [opv, nZ, Value.cells]
        refine any_nil (by kernel_rfl) (fun w28 hE => ?_)
        replace hS := hS.ext hE
        refine ⟨fun _ => hS.selA, ?_⟩
        refine mix_leaf (by simp only [clob, List.foldl, nZ]) ?_
        try simp only [n1, n2]
        exact ⟨_, rfl, by assumption, hS.selA⟩
     intro fm2 w29 hM
     obtain ⟨B, h6, hB, hS⟩ := hM
     simp only [clob, List.foldl, n3, n4, h6]
     refine hK7 _ _ ?_
     refine x_seq fun K22 hK22 => ?_
     refine x_seq fun K23 hK23 => ?_
     refine x_region ?_
     refine s_go (s_move) ?_
     try simp only [opv, nZ, Value.cells]
     refine s_go (s_neq) ?_
     try simp only [opv, nZ, Value.cells]
     refine x_nil ?_
     refine hK23 _ _ ?_
     refine x_cond_f (h := ?_)
     skip
     refine x_skip ?_
     refine hK22 _ _ ?_
     refine x_seq fun K24 hK24 => ?_
     refine x_region ?_
     refine s_go (s_move) ?_
     try simp only [opv, nZ, Value.cells]
     refine s_go (s_move) ?_
     try simp only [opv, nZ, Value.cells]
     refine s_go (s_nilCheck) ?_
     try simp only [opv, nZ, Value.cells]
     refine s_go (m_fieldAddr Tryz.underlying44 (hi := ti33)) ?_
     try simp only [opv, nZ, Value.cells, Nat.zero_add, Nat.add_zero, List.getElem_toArray, List.getElem_cons_zero, List.getElem_cons_succ]
     refine m_store_obj ti33 (hS := hS) (h := fun w30 hS => ?_)
     try simp only [opv, nZ, Value.cells, Array.toArray_toList] at hS ⊢
     refine x_nil ?_
     refine hK24 _ _ ?_
     refine x_seq fun K25 hK25 => ?_
     refine x_region ?_
     refine s_go (m_load_row Tryz.underlying58 (hi := ti58) (hS := hS)) ?_
     try simp only [opv, nZ, Value.cells, List.getElem_toArray, List.getElem_cons_zero, List.getElem_cons_succ]
     refine m_store_obj ti58 (hS := hS) (h := fun w31 hS => ?_)
     try simp only [opv, nZ, Value.cells, Array.toArray_toList] at hS ⊢
     refine x_nil ?_
     refine hK25 _ _ ?_
     refine x_ret ?_
     refine r_cell_agg rfl Tryz.underlying58 ti58 (hS := hS) (hR := ?_)
     have hcpo : (xs.drop (1)).length ≤ c - (1) := by simp; omega
     have hRo : RdIn w0 [.obj g (.cells #[.slice A xs.length c, .int .i64 0] 44 (0, 0)), .rd A 1 xs.length (xs.map (Value.int .u8))] B (xs.drop (1)).length := RdIn.sub (List.mem_cons_of_mem _ (List.mem_cons_self ..)) (fun h => by simp at h; exact ⟨by omega, hB (by omega)⟩)
     replace hS := (hS.rd_drop (by repeat (first | exact Has.head | apply Has.tail)) (1) (by omega) B hB).rd_none none 1
     try rw [← List.length_drop] at hS
     exact ⟨_, _, by rw [hz]; rfl, by rw [hz]; exact RdIn.none _ _ _, _, _, by rw [hz]; exact hcpo, by rw [hz]; exact hRo, by rw [hz]; exact hS.selA⟩
   ·
    try simp only [decide_eq_true_eq, decide_eq_false_iff_not, Bool.not_eq_true', Bool.not_eq_false', Int.not_lt, Int.not_le, ne_eq, Decidable.not_not, bne_iff_ne, beq_iff_eq, not_true_eq_false, not_false_eq_true] at hc4
    have h1 : ¬ p.d = 1 := hc4
    refine x_seq fun K26 hK26 => ?_
    refine x_region ?_
    refine s_go (s_eql) ?_
    try simp only [opv, nZ, Value.cells]
    refine s_go (s_assign) ?_
    try simp only [opv, nZ, Value.cells]
    refine x_nil ?_
    refine hK26 _ _ ?_
    refine x_cond (ht := fun hc8 => ?_) (hf := fun hc8 => ?_)
    ·
     try simp only [decide_eq_true_eq, decide_eq_false_iff_not, Bool.not_eq_true', Bool.not_eq_false', Int.not_lt, Int.not_le, ne_eq, Decidable.not_not, bne_iff_ne, beq_iff_eq, not_true_eq_false, not_false_eq_true] at hc8
     have h2 : p.d = 2 := hc8
     refine x_seq fun K27 hK27 => ?_
     refine x_seq fun K28 hK28 => ?_
     refine x_region ?_
     refine s_go (s_move) ?_
     try simp only [opv, nZ, Value.cells]
     refine s_go (s_nilCheck) ?_
     try simp only [opv, nZ, Value.cells]
     refine s_go (m_fieldAddr Tryz.underlying44 (hi := ti33)) ?_
     try simp only [opv, nZ, Value.cells, Nat.zero_add, Nat.add_zero, List.getElem_toArray, List.getElem_cons_zero, List.getElem_cons_succ]
     refine s_go (m_load_obj Tryz.underlying33 (hS := hS)) ?_
     try simp only [opv, nZ, Value.cells, List.getElem_toArray, List.getElem_cons_zero, List.getElem_cons_succ]
     refine s_go (s_len_sl Tryz.underlying33) ?_
     try simp only [opv, nZ, Value.cells]
     refine s_go (s_eql) ?_
     try simp only [opv, nZ, Value.cells]
     refine x_nil ?_
     refine hK28 _ _ ?_
     refine x_cond (ht := fun hc9 => ?_) (hf := fun hc9 => ?_)
     ·
      try simp only [decide_eq_true_eq, decide_eq_false_iff_not, Bool.not_eq_true', Bool.not_eq_false', Int.not_lt, Int.not_le, ne_eq, Decidable.not_not, bne_iff_ne, beq_iff_eq, not_true_eq_false, not_false_eq_true] at hc9
      have hz := rdS_2 (x := p.x) (n := p.n) h0 h1 h2 (namS_short (xs := xs) (by omega))
      refine x_seq fun K29 hK29 => ?_
      refine x_region ?_
      refine s_go (s_assign) ?_
      try simp only [opv, nZ, Value.cells]
      refine x_nil ?_
      refine hK29 _ _ ?_
      refine x_exit (look_here ?_)
      refine hK7 _ _ ?_
      refine x_seq fun K30 hK30 => ?_
      refine x_seq fun K31 hK31 => ?_
      refine x_region ?_
      refine s_go (s_move) ?_
      try simp only [opv, nZ, Value.cells]
      refine s_go (s_neq) ?_
      try simp only [opv, nZ, Value.cells]
      refine x_nil ?_
      refine hK31 _ _ ?_
      refine x_cond_t (h := ?_)
      skip
      refine x_seq fun K32 hK32 => ?_
      refine x_region ?_
      refine s_go (s_move) ?_
      try simp only [opv, nZ, Value.cells]
      refine s_go (s_move) ?_
      try simp only [opv, nZ, Value.cells]
      refine s_go (s_move) ?_
      try simp only [opv, nZ, Value.cells]
      refine s_go (s_nilCheck) ?_
      try simp only [opv, nZ, Value.cells]
      refine s_go (m_fieldAddr Tryz.underlying44 (hi := ti33)) ?_
      try simp only [opv, nZ, Value.cells, Nat.zero_add, Nat.add_zero, List.getElem_toArray, List.getElem_cons_zero, List.getElem_cons_succ]
      refine m_store_obj ti33 (hS := hS) (h := fun w32 hS => ?_)
      try simp only [opv, nZ, Value.cells, Array.toArray_toList] at hS ⊢
      refine s_go (s_nilCheck) ?_
      try simp only [opv, nZ, Value.cells]
      refine s_go (m_fieldAddr Tryz.underlying44 (hi := ti42)) ?_
      try simp only [opv, nZ, Value.cells, Nat.zero_add, Nat.add_zero, List.getElem_toArray, List.getElem_cons_zero, List.getElem_cons_succ]
      refine m_store_obj ti42 (hS := hS) (h := fun w33 hS => ?_)
      try simp only [opv, nZ, Value.cells, Array.toArray_toList] at hS ⊢
      refine x_nil ?_
      refine hK32 _ _ ?_
      refine x_seq fun K33 hK33 => ?_
      refine x_region ?_
      refine s_go (m_fieldAddr Tryz.underlying58 (hi := ti3)) ?_
      try simp only [opv, nZ, Value.cells, Nat.zero_add, Nat.add_zero, List.getElem_toArray, List.getElem_cons_zero, List.getElem_cons_succ]
      refine s_go (m_load_obj Tryz.underlying3 (hS := hS)) ?_
      try simp only [opv, nZ, Value.cells, List.getElem_toArray, List.getElem_cons_zero, List.getElem_cons_succ]
      refine s_go (s_build_struct (cells := #[_, .int .u64 0, .int .u8 0, .int .u8 0, .int .u8 0, .int .u8 0, .int .u8 0, .int .u8 0, .int .u8 0, .int .u8 0, .int .u8 0, .slice none 0 0, .int .i64 0]) Tryz.underlying58 ti58 bp58 (hc := by simp only [List.map_toArray, List.map_cons, List.map_nil, opv, nZ, Value.cells, List.toList_toArray]; (repeat (refine fill_cons rfl rfl (Nat.le_of_ble_eq_true rfl) ?_)); rfl)) ?_
      try simp only [opv, nZ, Value.cells]
      refine m_store_obj ti58 (hS := hS) (h := fun w34 hS => ?_)
      try simp only [opv, nZ, Value.cells, Array.toArray_toList] at hS ⊢
      refine x_nil ?_
      refine hK33 _ _ ?_
      refine x_ret ?_
      refine r_cell_agg rfl Tryz.underlying58 ti58 (hS := hS) (hR := ?_)
      replace hS := (hS.rd_none none 1).rd_none none 1
      exact ⟨none, 0, by rw [hz]; rfl, by rw [hz]; exact RdIn.none _ _ _, none, 0, by rw [hz]; exact Nat.le_refl 0, by rw [hz]; exact RdIn.none _ _ _, by rw [hz]; exact hS.selA⟩
     ·
      try simp only [decide_eq_true_eq, decide_eq_false_iff_not, Bool.not_eq_true', Bool.not_eq_false', Int.not_lt, Int.not_le, ne_eq, Decidable.not_not, bne_iff_ne, beq_iff_eq, not_true_eq_false, not_false_eq_true] at hc9
      have hl1 : 1 ≤ xs.length := by omega
      refine x_skip ?_
      refine hK27 _ _ ?_
      refine x_seq fun K34 hK34 => ?_
      refine x_region ?_
      refine s_go (s_move) ?_
      try simp only [opv, nZ, Value.cells]
      refine s_go (s_nilCheck) ?_
      try simp only [opv, nZ, Value.cells]
      refine s_go (m_fieldAddr Tryz.underlying44 (hi := ti33)) ?_
      try simp only [opv, nZ, Value.cells, Nat.zero_add, Nat.add_zero, List.getElem_toArray, List.getElem_cons_zero, List.getElem_cons_succ]
      refine s_go (m_load_obj Tryz.underlying33 (hS := hS)) ?_
      try simp only [opv, nZ, Value.cells, List.getElem_toArray, List.getElem_cons_zero, List.getElem_cons_succ]
      refine s_go (m_indexAddr_rd Tryz.underlying33 ti5 (hS := hS)) ?_
      try simp only [opv, nZ, Value.cells, Nat.mul_one, Nat.zero_add, Int.toNat_natCast, Int.reduceToNat]
      refine s_go (m_load_rd Tryz.underlying5 (hS := hS)) ?_
      try simp only [opv, nZ, Value.cells, List.getElem_toArray, List.getElem_cons_zero, List.getElem_cons_succ]
      have hgb := hw.get 0
      obtain ⟨k, hk⟩ := Int.eq_ofNat_of_zero_le hgb.1
      rw [hk] at hgb ⊢
      refine s_go (s_conv Tryz.underlying5 Tryz.underlying3 (hc := by exact wr_i64 (by omega) (by omega))) ?_
      try simp only [opv, nZ, Value.cells]
      refine s_go (s_assign) ?_
      try simp only [opv, nZ, Value.cells]
      refine x_nil ?_
      refine hK34 _ _ ?_
      refine x_seq fun K35 hK35 => ?_
      refine x_region ?_
      refine s_go (s_move) ?_
      try simp only [opv, nZ, Value.cells]
      refine s_go (s_gtr) ?_
      try simp only [opv, nZ, Value.cells]
      refine x_nil ?_
      refine hK35 _ _ ?_
      refine x_cond (ht := fun hc11 => ?_) (hf := fun hc11 => ?_)
      ·
       try simp only [decide_eq_true_eq, decide_eq_false_iff_not, Bool.not_eq_true', Bool.not_eq_false', Int.not_lt, Int.not_le, ne_eq, Decidable.not_not, bne_iff_ne, beq_iff_eq, not_true_eq_false, not_false_eq_true] at hc11
       have hz := rdS_2 (x := p.x) (n := p.n) h0 h1 h2 (namS_long hl1 (by omega))
       refine x_region ?_
       refine s_go (s_assign) ?_
       try simp only [opv, nZ, Value.cells]
       refine x_nil ?_
       refine hK7 _ _ ?_
       refine x_seq fun K36 hK36 => ?_
       refine x_seq fun K37 hK37 => ?_
       refine x_region ?_
       refine s_go (s_move) ?_
       try simp only [opv, nZ, Value.cells]
       refine s_go (s_neq) ?_
       try simp only [opv, nZ, Value.cells]
       refine x_nil ?_
       refine hK37 _ _ ?_
       refine x_cond_t (h := ?_)
       skip
       refine x_seq fun K38 hK38 => ?_
       refine x_region ?_
       refine s_go (s_move) ?_
       try simp only [opv, nZ, Value.cells]
       refine s_go (s_move) ?_
       try simp only [opv, nZ, Value.cells]
       refine s_go (s_move) ?_
       try simp only [opv, nZ, Value.cells]
       refine s_go (s_nilCheck) ?_
       try simp only [opv, nZ, Value.cells]
       refine s_go (m_fieldAddr Tryz.underlying44 (hi := ti33)) ?_
       try simp only [opv, nZ, Value.cells, Nat.zero_add, Nat.add_zero, List.getElem_toArray, List.getElem_cons_zero, List.getElem_cons_succ]
       refine m_store_obj ti33 (hS := hS) (h := fun w35 hS => ?_)
       try simp only [opv, nZ, Value.cells, Array.toArray_toList] at hS ⊢
       refine s_go (s_nilCheck) ?_
       try simp only [opv, nZ, Value.cells]
       refine s_go (m_fieldAddr Tryz.underlying44 (hi := ti42)) ?_
       try simp only [opv, nZ, Value.cells, Nat.zero_add, Nat.add_zero, List.getElem_toArray, List.getElem_cons_zero, List.getElem_cons_succ]
       refine m_store_obj ti42 (hS := hS) (h := fun w36 hS => ?_)
       try simp only [opv, nZ, Value.cells, Array.toArray_toList] at hS ⊢
       refine x_nil ?_
       refine hK38 _ _ ?_
       refine x_seq fun K39 hK39 => ?_
       refine x_region ?_
       refine s_go (m_fieldAddr Tryz.underlying58 (hi := ti3)) ?_
       try simp only [opv, nZ, Value.cells, Nat.zero_add, Nat.add_zero, List.getElem_toArray, List.getElem_cons_zero, List.getElem_cons_succ]
       refine s_go (m_load_obj Tryz.underlying3 (hS := hS)) ?_
       try simp only [opv, nZ, Value.cells, List.getElem_toArray, List.getElem_cons_zero, List.getElem_cons_succ]
       refine s_go (s_build_struct (cells := #[_, .int .u64 0, .int .u8 0, .int .u8 0, .int .u8 0, .int .u8 0, .int .u8 0, .int .u8 0, .int .u8 0, .int .u8 0, .int .u8 0, .slice none 0 0, .int .i64 0]) Tryz.underlying58 ti58 bp58 (hc := by simp only [List.map_toArray, List.map_cons, List.map_nil, opv, nZ, Value.cells, List.toList_toArray]; (repeat (refine fill_cons rfl rfl (Nat.le_of_ble_eq_true rfl) ?_)); rfl)) ?_
       try simp only [opv, nZ, Value.cells]
       refine m_store_obj ti58 (hS := hS) (h := fun w37 hS => ?_)
       try simp only [opv, nZ, Value.cells, Array.toArray_toList] at hS ⊢
       refine x_nil ?_
       refine hK39 _ _ ?_
       refine x_ret ?_
       refine r_cell_agg rfl Tryz.underlying58 ti58 (hS := hS) (hR := ?_)
       replace hS := (hS.rd_none none 1).rd_none none 1
       exact ⟨none, 0, by rw [hz]; rfl, by rw [hz]; exact RdIn.none _ _ _, none, 0, by rw [hz]; exact Nat.le_refl 0, by rw [hz]; exact RdIn.none _ _ _, by rw [hz]; exact hS.selA⟩
      ·
       try simp only [decide_eq_true_eq, decide_eq_false_iff_not, Bool.not_eq_true', Bool.not_eq_false', Int.not_lt, Int.not_le, ne_eq, Decidable.not_not, bne_iff_ne, beq_iff_eq, not_true_eq_false, not_false_eq_true] at hc11
       refine x_seq fun K40 hK40 => ?_
       refine x_region ?_
       refine s_go (s_move) ?_
       try simp only [opv, nZ, Value.cells]
       refine s_go (s_nilCheck) ?_
       try simp only [opv, nZ, Value.cells]
       refine s_go (m_fieldAddr Tryz.underlying44 (hi := ti33)) ?_
       try simp only [opv, nZ, Value.cells, Nat.zero_add, Nat.add_zero, List.getElem_toArray, List.getElem_cons_zero, List.getElem_cons_succ]
       refine s_go (m_load_obj Tryz.underlying33 (hS := hS)) ?_
       try simp only [opv, nZ, Value.cells, List.getElem_toArray, List.getElem_cons_zero, List.getElem_cons_succ]
       refine s_go (s_len_sl Tryz.underlying33) ?_
       try simp only [opv, nZ, Value.cells]
       refine s_go (s_move) ?_
       try simp only [opv, nZ, Value.cells]
       refine s_go (s_add (hc := by exact wr_i64 (by omega) (by omega))) ?_
       try simp only [opv, nZ, Value.cells]
       refine s_go (s_lss) ?_
       try simp only [opv, nZ, Value.cells]
       refine x_nil ?_
       refine hK40 _ _ ?_
       refine x_cond (ht := fun hc13 => ?_) (hf := fun hc13 => ?_)
       ·
        try simp only [decide_eq_true_eq, decide_eq_false_iff_not, Bool.not_eq_true', Bool.not_eq_false', Int.not_lt, Int.not_le, ne_eq, Decidable.not_not, bne_iff_ne, beq_iff_eq, not_true_eq_false, not_false_eq_true] at hc13
        have hz := rdS_2 (x := p.x) (n := p.n) h0 h1 h2 (namS_cut hl1 hk (by omega) (by simp; omega))
        refine x_region ?_
        refine s_go (s_assign) ?_
        try simp only [opv, nZ, Value.cells]
        refine x_nil ?_
        refine hK7 _ _ ?_
        refine x_seq fun K41 hK41 => ?_
        refine x_seq fun K42 hK42 => ?_
        refine x_region ?_
        refine s_go (s_move) ?_
        try simp only [opv, nZ, Value.cells]
        refine s_go (s_neq) ?_
        try simp only [opv, nZ, Value.cells]
        refine x_nil ?_
        refine hK42 _ _ ?_
        refine x_cond_t (h := ?_)
        skip
        refine x_seq fun K43 hK43 => ?_
        refine x_region ?_
        refine s_go (s_move) ?_
        try simp only [opv, nZ, Value.cells]
        refine s_go (s_move) ?_
        try simp only [opv, nZ, Value.cells]
        refine s_go (s_move) ?_
        try simp only [opv, nZ, Value.cells]
        refine s_go (s_nilCheck) ?_
        try simp only [opv, nZ, Value.cells]
        refine s_go (m_fieldAddr Tryz.underlying44 (hi := ti33)) ?_
        try simp only [opv, nZ, Value.cells, Nat.zero_add, Nat.add_zero, List.getElem_toArray, List.getElem_cons_zero, List.getElem_cons_succ]
        refine m_store_obj ti33 (hS := hS) (h := fun w38 hS => ?_)
        try simp only [opv, nZ, Value.cells, Array.toArray_toList] at hS ⊢
        refine s_go (s_nilCheck) ?_
        try simp only [opv, nZ, Value.cells]
        refine s_go (m_fieldAddr Tryz.underlying44 (hi := ti42)) ?_
        try simp only [opv, nZ, Value.cells, Nat.zero_add, Nat.add_zero, List.getElem_toArray, List.getElem_cons_zero, List.getElem_cons_succ]
        refine m_store_obj ti42 (hS := hS) (h := fun w39 hS => ?_)
        try simp only [opv, nZ, Value.cells, Array.toArray_toList] at hS ⊢
        refine x_nil ?_
        refine hK43 _ _ ?_
        refine x_seq fun K44 hK44 => ?_
        refine x_region ?_
        refine s_go (m_fieldAddr Tryz.underlying58 (hi := ti3)) ?_
        try simp only [opv, nZ, Value.cells, Nat.zero_add, Nat.add_zero, List.getElem_toArray, List.getElem_cons_zero, List.getElem_cons_succ]
        refine s_go (m_load_obj Tryz.underlying3 (hS := hS)) ?_
        try simp only [opv, nZ, Value.cells, List.getElem_toArray, List.getElem_cons_zero, List.getElem_cons_succ]
        refine s_go (s_build_struct (cells := #[_, .int .u64 0, .int .u8 0, .int .u8 0, .int .u8 0, .int .u8 0, .int .u8 0, .int .u8 0, .int .u8 0, .int .u8 0, .int .u8 0, .slice none 0 0, .int .i64 0]) Tryz.underlying58 ti58 bp58 (hc := by simp only [List.map_toArray, List.map_cons, List.map_nil, opv, nZ, Value.cells, List.toList_toArray]; (repeat (refine fill_cons rfl rfl (Nat.le_of_ble_eq_true rfl) ?_)); rfl)) ?_
        try simp only [opv, nZ, Value.cells]
        refine m_store_obj ti58 (hS := hS) (h := fun w40 hS => ?_)
        try simp only [opv, nZ, Value.cells, Array.toArray_toList] at hS ⊢
        refine x_nil ?_
        refine hK44 _ _ ?_
        refine x_ret ?_
        refine r_cell_agg rfl Tryz.underlying58 ti58 (hS := hS) (hR := ?_)
        replace hS := (hS.rd_none none 1).rd_none none 1
        exact ⟨none, 0, by rw [hz]; rfl, by rw [hz]; exact RdIn.none _ _ _, none, 0, by rw [hz]; exact Nat.le_refl 0, by rw [hz]; exact RdIn.none _ _ _, by rw [hz]; exact hS.selA⟩
       ·
        try simp only [decide_eq_true_eq, decide_eq_false_iff_not, Bool.not_eq_true', Bool.not_eq_false', Int.not_lt, Int.not_le, ne_eq, Decidable.not_not, bne_iff_ne, beq_iff_eq, not_true_eq_false, not_false_eq_true] at hc13
        have h3 : k ≤ (xs.drop 1).length := by simp; omega
        have htb : Byt ((xs.drop 1).take k) := (hw.drop 1).take k
        have htl : ((xs.drop 1).take k).length = k := by simp; omega
        refine x_seq fun K45 hK45 => ?_
        refine x_region ?_
        refine s_go (s_move) ?_
        try simp only [opv, nZ, Value.cells]
        refine s_go (s_nilCheck) ?_
        try simp only [opv, nZ, Value.cells]
        refine s_go (m_fieldAddr Tryz.underlying44 (hi := ti33)) ?_
        try simp only [opv, nZ, Value.cells, Nat.zero_add, Nat.add_zero, List.getElem_toArray, List.getElem_cons_zero, List.getElem_cons_succ]
        refine s_go (m_load_obj Tryz.underlying33 (hS := hS)) ?_
        try simp only [opv, nZ, Value.cells, List.getElem_toArray, List.getElem_cons_zero, List.getElem_cons_succ]
        refine s_go (s_move) ?_
        try simp only [opv, nZ, Value.cells]
        refine s_go (s_add (hc := by exact wr_i64 (by omega) (by omega))) ?_
        try simp only [opv, nZ, Value.cells]
        rw [show (1 : Int) + (k : Int) = ((1 + k : Nat) : Int) by omega]
        refine m_slice_rd (lo := 1) (hi := 1 + k) (m := c) Tryz.underlying33 ti5 (hlo := ⟨_, rfl⟩) (hhi := ⟨_, rfl⟩) (hmx := rfl) (hS := hS) (h := fun A3 hA3 hS => ?_)
        try simp only [Nat.mul_one, Nat.zero_mul] at hA3
        try simp only [← List.map_append, ← List.map_drop, ← List.map_take, Nat.mul_one, Nat.zero_mul, Nat.sub_zero, List.drop_zero, List.nil_append, Nat.zero_add] at hS ⊢
        try simp only [opv, nZ, Value.cells, Array.toArray_toList] at hS ⊢
        rw [show 1 + k - 1 = k by omega] at hS ⊢
        obtain ⟨ns, hns⟩ : ∃ ns, (xs.drop 1).take k = ns := ⟨_, rfl⟩
        rw [hns] at htb htl hS
        have hpl := padN_len ns
        refine s_go (m_bytes_str Tryz.underlying33 Tryz.underlying9 Tryz.underlying5 (hS := hS)) ?_
        try simp only [opv, nZ, Value.cells]
        refine s_go (s_assign) ?_
        try simp only [opv, nZ, Value.cells]
        refine x_nil ?_
        refine hK45 _ _ ?_
        refine x_seq fun K46 hK46 => ?_
        refine x_region ?_
        refine s_go (s_move) ?_
        try simp only [opv, nZ, Value.cells]
        refine s_go (s_gtr) ?_
        try simp only [opv, nZ, Value.cells]
        refine s_go (s_move) ?_
        try simp only [opv, nZ, Value.cells]
        refine s_part 129 rfl (fun hp1 => ?_) (fun hp1 => ?_)
        ·
         try simp only [n3, n4]
         try simp only [decide_eq_true_eq, decide_eq_false_iff_not, Bool.not_eq_true', Bool.not_eq_false', Int.not_lt, Int.not_le, ne_eq, Decidable.not_not] at hp1
         refine g_on (yi (t := 129) rfl rfl) ?_
         refine s_go (s_move) ?_
         try simp only [opv, nZ, Value.cells]
         refine g_on (yi (t := 129) rfl rfl) ?_
         refine s_call en62 ?_
         try simp only [opv, nZ, Value.cells, List.map_toArray, List.map_cons, List.map_nil, List.append_toArray, List.cons_append, List.nil_append, Array.append_empty]
         refine CallR.mono (c_ref06Is _ (by assumption) (by omega) _) ?_
         rintro _ w41 ⟨rfl, hE41⟩
         replace hS := hS.ext hE41
         try simp only [opv, nZ, Value.cells]
         refine g_on (yi (t := 129) rfl rfl) ?_
         refine s_go (s_not) ?_
         try simp only [opv, nZ, Value.cells]
         refine s_go (s_pick_t) ?_
         try simp only [opv, nZ, Value.cells]
         refine x_nil ?_
         refine hK46 _ _ ?_
         refine x_cond (ht := fun hc15 => ?_) (hf := fun hc15 => ?_)
         ·
          try simp only [decide_eq_true_eq, decide_eq_false_iff_not, Bool.not_eq_true', Bool.not_eq_false', Int.not_lt, Int.not_le, ne_eq, Decidable.not_not, bne_iff_ne, beq_iff_eq, not_true_eq_false, not_false_eq_true] at hc15
          have hz := rdS_2 (x := p.x) (n := p.n) h0 h1 h2 (namS_no hl1 hk (by omega) h3 (by omega) (by rw [hns]; simpa using hc15))
          refine x_region ?_
          refine s_go (s_assign) ?_
          try simp only [opv, nZ, Value.cells]
          refine x_nil ?_
          refine hK7 _ _ ?_
          refine x_seq fun K47 hK47 => ?_
          refine x_seq fun K48 hK48 => ?_
          refine x_region ?_
          refine s_go (s_move) ?_
          try simp only [opv, nZ, Value.cells]
          refine s_go (s_neq) ?_
          try simp only [opv, nZ, Value.cells]
          refine x_nil ?_
          refine hK48 _ _ ?_
          refine x_cond_t (h := ?_)
          skip
          refine x_seq fun K49 hK49 => ?_
          refine x_region ?_
          refine s_go (s_move) ?_
          try simp only [opv, nZ, Value.cells]
          refine s_go (s_move) ?_
          try simp only [opv, nZ, Value.cells]
          refine s_go (s_move) ?_
          try simp only [opv, nZ, Value.cells]
          refine s_go (s_nilCheck) ?_
          try simp only [opv, nZ, Value.cells]
          refine s_go (m_fieldAddr Tryz.underlying44 (hi := ti33)) ?_
          try simp only [opv, nZ, Value.cells, Nat.zero_add, Nat.add_zero, List.getElem_toArray, List.getElem_cons_zero, List.getElem_cons_succ]
          refine m_store_obj ti33 (hS := hS) (h := fun w42 hS => ?_)
          try simp only [opv, nZ, Value.cells, Array.toArray_toList] at hS ⊢
          refine s_go (s_nilCheck) ?_
          try simp only [opv, nZ, Value.cells]
          refine s_go (m_fieldAddr Tryz.underlying44 (hi := ti42)) ?_
          try simp only [opv, nZ, Value.cells, Nat.zero_add, Nat.add_zero, List.getElem_toArray, List.getElem_cons_zero, List.getElem_cons_succ]
          refine m_store_obj ti42 (hS := hS) (h := fun w43 hS => ?_)
          try simp only [opv, nZ, Value.cells, Array.toArray_toList] at hS ⊢
          refine x_nil ?_
          refine hK49 _ _ ?_
          refine x_seq fun K50 hK50 => ?_
          refine x_region ?_
          refine s_go (m_fieldAddr Tryz.underlying58 (hi := ti3)) ?_
          try simp only [opv, nZ, Value.cells, Nat.zero_add, Nat.add_zero, List.getElem_toArray, List.getElem_cons_zero, List.getElem_cons_succ]
          refine s_go (m_load_obj Tryz.underlying3 (hS := hS)) ?_
          try simp only [opv, nZ, Value.cells, List.getElem_toArray, List.getElem_cons_zero, List.getElem_cons_succ]
          refine s_go (s_build_struct (cells := #[_, .int .u64 0, .int .u8 0, .int .u8 0, .int .u8 0, .int .u8 0, .int .u8 0, .int .u8 0, .int .u8 0, .int .u8 0, .int .u8 0, .slice none 0 0, .int .i64 0]) Tryz.underlying58 ti58 bp58 (hc := by simp only [List.map_toArray, List.map_cons, List.map_nil, opv, nZ, Value.cells, List.toList_toArray]; (repeat (refine fill_cons rfl rfl (Nat.le_of_ble_eq_true rfl) ?_)); rfl)) ?_
          try simp only [opv, nZ, Value.cells]
          refine m_store_obj ti58 (hS := hS) (h := fun w44 hS => ?_)
          try simp only [opv, nZ, Value.cells, Array.toArray_toList] at hS ⊢
          refine x_nil ?_
          refine hK50 _ _ ?_
          refine x_ret ?_
          refine r_cell_agg rfl Tryz.underlying58 ti58 (hS := hS) (hR := ?_)
          replace hS := (hS.rd_none none 1).rd_none none 1
          exact ⟨none, 0, by rw [hz]; rfl, by rw [hz]; exact RdIn.none _ _ _, none, 0, by rw [hz]; exact Nat.le_refl 0, by rw [hz]; exact RdIn.none _ _ _, by rw [hz]; exact hS.selA⟩
         ·
          try simp only [decide_eq_true_eq, decide_eq_false_iff_not, Bool.not_eq_true', Bool.not_eq_false', Int.not_lt, Int.not_le, ne_eq, Decidable.not_not, bne_iff_ne, beq_iff_eq, not_true_eq_false, not_false_eq_true] at hc15
          have hz := rdS_2 (x := p.x) (n := p.n) h0 h1 h2 (namS_yes hl1 hk (by omega) h3 (.inr (by rw [hns]; simpa using hc15)))
          rw [hns, List.drop_drop] at hz
          refine x_mixed_c (Lc := [.obj g (.cells #[.slice A xs.length c, .int .i64 0] 44 (0, 0)), .rd A 1 xs.length (xs.map (Value.int .u8))]) [] 0 [6, 134, 135, 136, 137, 138, 139, 140, 141, 142, 143] (fun f w => ∃ B : Option Addr, f 6 = .slice B (xs.length - (1 + k)) (c - (1 + k)) ∧ (1 + k < xs.length → B = A.map (·.add (1 + k))) ∧ St (OwnB [.obj g (.cells #[.slice A xs.length c, .int .i64 0] 44 (0, 0)), .rd A 1 xs.length (xs.map (Value.int .u8))]) w0 w [.obj g3 (.cells (pA p.d 0 0 (padN ns) none 0 0 0) 58 (0, 0)), .obj g2 (.cells (pA 0 0 0 nm0 none 0 0 0) 58 (0, 0)), .obj g1 (.cells (pP p) 58 (0, 0)), .obj g (.cells #[.slice A xs.length c, .int .i64 0] 44 (0, 0)), .rd A 1 xs.length (xs.map (Value.int .u8))]) (by kernel_rfl) (by kernel_rfl) (by kernel_rfl) (by decide) hS (fun w45 hS => ?mixpre2903) ?mixrest2903
          case mixpre2903 =>
           refine p_nil ?_
           simp only [List.length_cons, List.length_nil, Nat.reduceAdd, Nat.reduceSub]
           refine any_go (i := 0) (by rfl) (by decide +kernel) (by decide +kernel) noLate_nil (go_yields w_none (fun w hS => s_move)) ?_
           try simp only [opv, nZ, Value.cells]
           apply any_go (i := 1) (by rfl) (by decide +kernel) (by decide +kernel) noLate_nil (call_yields w_none en63 ?H1) ?K1
           case H1 =>
             intro w hS
             try simp only [opv, nZ, List.map_toArray, List.map_cons, List.map_nil, List.append_toArray, List.cons_append, List.nil_append, Array.append_empty]
             refine CallR.mono (c_ref06Pad _ (by assumption) (by omega) _) ?_
             rintro _ w1 ⟨rfl, hE⟩; exact ⟨rfl, hE⟩
           try simp only [opv, nZ, Value.cells]
           refine any_go (i := 2) (by rfl) (by decide +kernel) (by decide +kernel) noLate_nil (go_yields w_none (fun w hS => s_move)) ?_
           try simp only [opv, nZ, Value.cells]
           refine any_go (i := 3) (by rfl) (by decide +kernel) (by decide +kernel) noLate_nil (go_yields w_none (fun w hS => s_nilCheck)) ?_
           try simp only [opv, nZ, Value.cells]
           refine any_go (i := 4) (by rfl) (by decide +kernel) (by decide +kernel) noLate_nil (go_yields w_none (fun w hS => m_fieldAddr Tryz.underlying44 (hi := ti33))) ?_
           try simp only [opv, nZ, Value.cells, Nat.zero_add, Nat.add_zero, List.getElem_toArray, List.getElem_cons_zero, List.getElem_cons_succ]
           refine any_go (i := 5) (by rfl) (by decide +kernel) (by decide +kernel) noLate_nil (go_yields w_none (fun w hS => m_load_obj Tryz.underlying33 (hS := hS))) ?_
           try simp only [opv, nZ, Value.cells, List.getElem_toArray, List.getElem_cons_zero, List.getElem_cons_succ]
           refine any_go (i := 6) (by rfl) (by decide +kernel) (by decide +kernel) noLate_nil (go_yields w_none (fun w hS => s_move)) ?_
           try simp only [opv, nZ, Value.cells]
           refine any_go (i := 7) (by rfl) (by decide +kernel) (by decide +kernel) noLate_nil (go_yields w_none (fun w hS => s_add (hc := by exact wr_i64 (by omega) (by omega)))) ?_
           try simp only [opv, nZ, Value.cells]
           rw [show (1 : Int) + (k : Int) = ((1 + k : Nat) : Int) by omega]
           refine any_go (i := 9) (by rfl) (by decide +kernel) (by decide +kernel) noLate_nil (go_yields w_none (fun w hS => m_fieldAddr Tryz.underlying58 (hi := ti24))) ?_
           try simp only [opv, nZ, Value.cells, Nat.zero_add, Nat.add_zero, List.getElem_toArray, List.getElem_cons_zero, List.getElem_cons_succ]
           refine any_step [8, 10] (by kernel_rfl) (by decide) (fun w46 hE => ⟨fun _ => (hS.ext hE).sel (by repeat (first | exact Sel.nil | (refine Sel.cons (by repeat (first | exact Del.head | apply Del.tail)) ?_))), ?_⟩)
           replace hS := hS.ext hE
           intro i hi
           simp only [List.mem_cons, List.not_mem_nil, or_false] at hi
           rcases hi with rfl | rfl
           ·
            refine any_op (by rfl) ?_
            refine m_slice_rd (lo := 1 + k) (hi := xs.length) (m := c) Tryz.underlying33 ti5 (hlo := ⟨_, rfl⟩) (hhi := ⟨rfl, rfl⟩) (hmx := rfl) (hS := hS) (h := fun A4 hA4 hS => ?_)
            try simp only [Nat.mul_one, Nat.zero_mul] at hA4
            try simp only [← List.map_append, ← List.map_drop, ← List.map_take, Nat.mul_one, Nat.zero_mul, Nat.sub_zero, List.drop_zero, List.nil_append, Nat.zero_add] at hS ⊢
            try simp only [opv, nZ, Value.cells, Array.toArray_toList] at hS ⊢
            refine x_nil ?_
            refine any_step [10] (by kernel_rfl) (by decide) (fun w47 hE => ⟨fun _ => (hS.ext hE).sel (by repeat (first | exact Sel.nil | (refine Sel.cons (by repeat (first | exact Del.head | apply Del.tail)) ?_))), ?_⟩)
            replace hS := hS.ext hE
            intro i hi
            simp only [List.mem_cons, List.not_mem_nil, or_false] at hi
            subst hi
            ·
             refine any_op (by rfl) ?_
             refine m_store_obj ti24 (hS := hS) (hc := pA_nm (padN_len ns)) (h := fun w48 hS => ?_)
             try simp only [opv, nZ, Value.cells, Array.toArray_toList] at hS ⊢
             refine x_nil ?_
             refine any_go (i := 11) (by rfl) (by decide +kernel) (by decide +kernel) noLate_nil (go_yields w_none (fun w hS => s_assign)) ?_
             try simp only [opv, nZ, Value.cells]
             refine any_nil (by kernel_rfl) (fun w49 hE => ?_)
             replace hS := hS.ext hE
             refine ⟨fun _ => hS.selA, ?_⟩
             refine mix_leaf (by simp only [clob, List.foldl, nZ]) ?_
             try simp only [n1, n2]
             exact ⟨_, rfl, by assumption, hS.selA⟩
           ·
            refine any_op (by rfl) ?_
            refine m_store_obj ti24 (hS := hS) (hc := pA_nm (padN_len ns)) (h := fun w50 hS => ?_)
            try simp only [opv, nZ, Value.cells, Array.toArray_toList] at hS ⊢
            refine x_nil ?_
            refine any_step [8] (by kernel_rfl) (by decide) (fun w51 hE => ⟨fun _ => (hS.ext hE).sel (by repeat (first | exact Sel.nil | (refine Sel.cons (by repeat (first | exact Del.head | apply Del.tail)) ?_))), ?_⟩)
            replace hS := hS.ext hE
            intro i hi
            simp only [List.mem_cons, List.not_mem_nil, or_false] at hi
            subst hi
            ·
             refine any_op (by rfl) ?_
             refine m_slice_rd (lo := 1 + k) (hi := xs.length) (m := c) Tryz.underlying33 ti5 (hlo := ⟨_, rfl⟩) (hhi := ⟨rfl, rfl⟩) (hmx := rfl) (hS := hS) (h := fun A5 hA5 hS => ?_)
             try simp only [Nat.mul_one, Nat.zero_mul] at hA5
             try simp only [← List.map_append, ← List.map_drop, ← List.map_take, Nat.mul_one, Nat.zero_mul, Nat.sub_zero, List.drop_zero, List.nil_append, Nat.zero_add] at hS ⊢
             try simp only [opv, nZ, Value.cells, Array.toArray_toList] at hS ⊢
             refine x_nil ?_
             refine any_go (i := 11) (by rfl) (by decide +kernel) (by decide +kernel) noLate_nil (go_yields w_none (fun w hS => s_assign)) ?_
             try simp only [opv, nZ, Value.cells]
             refine any_nil (by kernel_rfl) (fun w52 hE => ?_)
             replace hS := hS.ext hE
             refine ⟨fun _ => hS.selA, ?_⟩
             refine mix_leaf (by simp only [clob, List.foldl, nZ]) ?_
             try simp only [n1, n2]
             exact ⟨_, rfl, by assumption, hS.selA⟩
          intro fm3 w53 hM
          obtain ⟨B, h6, hB, hS⟩ := hM
          simp only [clob, List.foldl, n3, n4, h6]
          refine hK7 _ _ ?_
          refine x_seq fun K51 hK51 => ?_
          refine x_seq fun K52 hK52 => ?_
          refine x_region ?_
          refine s_go (s_move) ?_
          try simp only [opv, nZ, Value.cells]
          refine s_go (s_neq) ?_
          try simp only [opv, nZ, Value.cells]
          refine x_nil ?_
          refine hK52 _ _ ?_
          refine x_cond_f (h := ?_)
          skip
          refine x_skip ?_
          refine hK51 _ _ ?_
          refine x_seq fun K53 hK53 => ?_
          refine x_region ?_
          refine s_go (s_move) ?_
          try simp only [opv, nZ, Value.cells]
          refine s_go (s_move) ?_
          try simp only [opv, nZ, Value.cells]
          refine s_go (s_nilCheck) ?_
          try simp only [opv, nZ, Value.cells]
          refine s_go (m_fieldAddr Tryz.underlying44 (hi := ti33)) ?_
          try simp only [opv, nZ, Value.cells, Nat.zero_add, Nat.add_zero, List.getElem_toArray, List.getElem_cons_zero, List.getElem_cons_succ]
          refine m_store_obj ti33 (hS := hS) (h := fun w54 hS => ?_)
          try simp only [opv, nZ, Value.cells, Array.toArray_toList] at hS ⊢
          refine x_nil ?_
          refine hK53 _ _ ?_
          refine x_seq fun K54 hK54 => ?_
          refine x_region ?_
          refine s_go (m_load_row Tryz.underlying58 (hi := ti58) (hS := hS)) ?_
          try simp only [opv, nZ, Value.cells, List.getElem_toArray, List.getElem_cons_zero, List.getElem_cons_succ]
          refine m_store_obj ti58 (hS := hS) (h := fun w55 hS => ?_)
          try simp only [opv, nZ, Value.cells, Array.toArray_toList] at hS ⊢
          refine x_nil ?_
          refine hK54 _ _ ?_
          refine x_ret ?_
          refine r_cell_agg rfl Tryz.underlying58 ti58 (hS := hS) (hR := ?_)
          have hcpo : (xs.drop (1 + k)).length ≤ c - (1 + k) := by simp; omega
          have hRo : RdIn w0 [.obj g (.cells #[.slice A xs.length c, .int .i64 0] 44 (0, 0)), .rd A 1 xs.length (xs.map (Value.int .u8))] B (xs.drop (1 + k)).length := RdIn.sub (List.mem_cons_of_mem _ (List.mem_cons_self ..)) (fun h => by simp at h; exact ⟨by omega, hB (by omega)⟩)
          replace hS := (hS.rd_drop (by repeat (first | exact Has.head | apply Has.tail)) (1 + k) (by omega) B hB).rd_none none 1
          try rw [← List.length_drop] at hS
          exact ⟨_, _, by rw [hz]; rfl, by rw [hz]; exact RdIn.none _ _ _, _, _, by rw [hz]; exact hcpo, by rw [hz]; exact hRo, by rw [hz]; exact hS.selA⟩
        ·
         try simp only [n3, n4]
         try simp only [decide_eq_true_eq, decide_eq_false_iff_not, Bool.not_eq_true', Bool.not_eq_false', Int.not_lt, Int.not_le, ne_eq, Decidable.not_not] at hp1
         have hk0 : k = 0 := by omega
         have hz := rdS_2 (x := p.x) (n := p.n) h0 h1 h2 (namS_yes hl1 hk (by omega) h3 (.inl hk0))
         refine g_off (yi (t := 129) rfl rfl) ?_
         try simp only [opv, nZ, Value.cells]
         refine g_off (yi (t := 129) rfl rfl) ?_
         try simp only [opv, nZ, Value.cells]
         refine g_off (yi (t := 129) rfl rfl) ?_
         try simp only [opv, nZ, Value.cells]
         refine s_go (s_pick_f) ?_
         try simp only [opv, nZ, Value.cells]
         refine x_nil ?_
         refine hK46 _ _ ?_
         refine x_cond_f (h := ?_)
         skip
         rw [hns, List.drop_drop] at hz
         refine x_mixed_c (Lc := [.obj g (.cells #[.slice A xs.length c, .int .i64 0] 44 (0, 0)), .rd A 1 xs.length (xs.map (Value.int .u8))]) [] 0 [6, 134, 135, 136, 137, 138, 139, 140, 141, 142, 143] (fun f w => ∃ B : Option Addr, f 6 = .slice B (xs.length - (1 + k)) (c - (1 + k)) ∧ (1 + k < xs.length → B = A.map (·.add (1 + k))) ∧ St (OwnB [.obj g (.cells #[.slice A xs.length c, .int .i64 0] 44 (0, 0)), .rd A 1 xs.length (xs.map (Value.int .u8))]) w0 w [.obj g3 (.cells (pA p.d 0 0 (padN ns) none 0 0 0) 58 (0, 0)), .obj g2 (.cells (pA 0 0 0 nm0 none 0 0 0) 58 (0, 0)), .obj g1 (.cells (pP p) 58 (0, 0)), .obj g (.cells #[.slice A xs.length c, .int .i64 0] 44 (0, 0)), .rd A 1 xs.length (xs.map (Value.int .u8))]) (by kernel_rfl) (by kernel_rfl) (by kernel_rfl) (by decide) hS (fun w56 hS => ?mixpre2904) ?mixrest2904
         case mixpre2904 =>
          refine p_nil ?_
          simp only [List.length_cons, List.length_nil, Nat.reduceAdd, Nat.reduceSub]
          refine any_go (i := 0) (by rfl) (by decide +kernel) (by decide +kernel) noLate_nil (go_yields w_none (fun w hS => s_move)) ?_
          try simp only [opv, nZ, Value.cells]
          apply any_go (i := 1) (by rfl) (by decide +kernel) (by decide +kernel) noLate_nil (call_yields w_none en63 ?H2) ?K2
          case H2 =>
            intro w hS
            try simp only [opv, nZ, List.map_toArray, List.map_cons, List.map_nil, List.append_toArray, List.cons_append, List.nil_append, Array.append_empty]
            refine CallR.mono (c_ref06Pad _ (by assumption) (by omega) _) ?_
            rintro _ w1 ⟨rfl, hE⟩; exact ⟨rfl, hE⟩
          try simp only [opv, nZ, Value.cells]
          refine any_go (i := 2) (by rfl) (by decide +kernel) (by decide +kernel) noLate_nil (go_yields w_none (fun w hS => s_move)) ?_
          try simp only [opv, nZ, Value.cells]
          refine any_go (i := 3) (by rfl) (by decide +kernel) (by decide +kernel) noLate_nil (go_yields w_none (fun w hS => s_nilCheck)) ?_
          try simp only [opv, nZ, Value.cells]
          refine any_go (i := 4) (by rfl) (by decide +kernel) (by decide +kernel) noLate_nil (go_yields w_none (fun w hS => m_fieldAddr Tryz.underlying44 (hi := ti33))) ?_
          try simp only [opv, nZ, Value.cells, Nat.zero_add, Nat.add_zero, List.getElem_toArray, List.getElem_cons_zero, List.getElem_cons_succ]
          refine any_go (i := 5) (by rfl) (by decide +kernel) (by decide +kernel) noLate_nil (go_yields w_none (fun w hS => m_load_obj Tryz.underlying33 (hS := hS))) ?_
          try simp only [opv, nZ, Value.cells, List.getElem_toArray, List.getElem_cons_zero, List.getElem_cons_succ]
          refine any_go (i := 6) (by rfl) (by decide +kernel) (by decide +kernel) noLate_nil (go_yields w_none (fun w hS => s_move)) ?_
          try simp only [opv, nZ, Value.cells]
          refine any_go (i := 7) (by rfl) (by decide +kernel) (by decide +kernel) noLate_nil (go_yields w_none (fun w hS => s_add (hc := by exact wr_i64 (by omega) (by omega)))) ?_
          try simp only [opv, nZ, Value.cells]
          rw [show (1 : Int) + (k : Int) = ((1 + k : Nat) : Int) by omega]
          refine any_go (i := 9) (by rfl) (by decide +kernel) (by decide +kernel) noLate_nil (go_yields w_none (fun w hS => m_fieldAddr Tryz.underlying58 (hi := ti24))) ?_
          try simp only [opv, nZ, Value.cells, Nat.zero_add, Nat.add_zero, List.getElem_toArray, List.getElem_cons_zero, List.getElem_cons_succ]
          refine any_step [8, 10] (by kernel_rfl) (by decide) (fun w57 hE => ⟨fun _ => (hS.ext hE).sel (by repeat (first | exact Sel.nil | (refine Sel.cons (by repeat (first | exact Del.head | apply Del.tail)) ?_))), ?_⟩)
          replace hS := hS.ext hE
          intro i hi
          simp only [List.mem_cons, List.not_mem_nil, or_false] at hi
          rcases hi with rfl | rfl
          ·
           refine any_op (by rfl) ?_
           refine m_slice_rd (lo := 1 + k) (hi := xs.length) (m := c) Tryz.underlying33 ti5 (hlo := ⟨_, rfl⟩) (hhi := ⟨rfl, rfl⟩) (hmx := rfl) (hS := hS) (h := fun A6 hA6 hS => ?_)
           try simp only [Nat.mul_one, Nat.zero_mul] at hA6
           try simp only [← List.map_append, ← List.map_drop, ← List.map_take, Nat.mul_one, Nat.zero_mul, Nat.sub_zero, List.drop_zero, List.nil_append, Nat.zero_add] at hS ⊢
           try simp only [opv, nZ, Value.cells, Array.toArray_toList] at hS ⊢
           refine x_nil ?_
           refine any_step [10] (by kernel_rfl) (by decide) (fun w58 hE => ⟨fun _ => (hS.ext hE).sel (by repeat (first | exact Sel.nil | (refine Sel.cons (by repeat (first | exact Del.head | apply Del.tail)) ?_))), ?_⟩)
           replace hS := hS.ext hE
           intro i hi
           simp only [List.mem_cons, List.not_mem_nil, or_false] at hi
           subst hi
           ·
            refine any_op (by rfl) ?_
            refine m_store_obj ti24 (hS := hS) (hc := pA_nm (padN_len ns)) (h := fun w59 hS => ?_)
            try simp only [opv, nZ, Value.cells, Array.toArray_toList] at hS ⊢
            refine x_nil ?_
            refine any_go (i := 11) (by rfl) (by decide +kernel) (by decide +kernel) noLate_nil (go_yields w_none (fun w hS => s_assign)) ?_
            try simp only [opv, nZ, Value.cells]
            refine any_nil (by kernel_rfl) (fun w60 hE => ?_)
            replace hS := hS.ext hE
            refine ⟨fun _ => hS.selA, ?_⟩
            refine mix_leaf (by simp only [clob, List.foldl, nZ]) ?_
            try simp only [n1, n2]
            exact ⟨_, rfl, by assumption, hS.selA⟩
          ·
           refine any_op (by rfl) ?_
           refine m_store_obj ti24 (hS := hS) (hc := pA_nm (padN_len ns)) (h := fun w61 hS => ?_)
           try simp only [opv, nZ, Value.cells, Array.toArray_toList] at hS ⊢
           refine x_nil ?_
           refine any_step [8] (by kernel_rfl) (by decide) (fun w62 hE => ⟨fun _ => (hS.ext hE).sel (by repeat (first | exact Sel.nil | (refine Sel.cons (by repeat (first | exact Del.head | apply Del.tail)) ?_))), ?_⟩)
           replace hS := hS.ext hE
           intro i hi
           simp only [List.mem_cons, List.not_mem_nil, or_false] at hi
           subst hi
           ·
            refine any_op (by rfl) ?_
            refine m_slice_rd (lo := 1 + k) (hi := xs.length) (m := c) Tryz.underlying33 ti5 (hlo := ⟨_, rfl⟩) (hhi := ⟨rfl, rfl⟩) (hmx := rfl) (hS := hS) (h := fun A7 hA7 hS => ?_)
            try simp only [Nat.mul_one, Nat.zero_mul] at hA7
            try simp only [← List.map_append, ← List.map_drop, ← List.map_take, Nat.mul_one, Nat.zero_mul, Nat.sub_zero, List.drop_zero, List.nil_append, Nat.zero_add] at hS ⊢
            try simp only [opv, nZ, Value.cells, Array.toArray_toList] at hS ⊢
            refine x_nil ?_
            refine any_go (i := 11) (by rfl) (by decide +kernel) (by decide +kernel) noLate_nil (go_yields w_none (fun w hS => s_assign)) ?_
            try simp only [opv, nZ, Value.cells]
            refine any_nil (by kernel_rfl) (fun w63 hE => ?_)
            replace hS := hS.ext hE
            refine ⟨fun _ => hS.selA, ?_⟩
            refine mix_leaf (by simp only [clob, List.foldl, nZ]) ?_
            try simp only [n1, n2]
            exact ⟨_, rfl, by assumption, hS.selA⟩
         intro fm4 w64 hM
         obtain ⟨B, h6, hB, hS⟩ := hM
         simp only [clob, List.foldl, n3, n4, h6]
         refine hK7 _ _ ?_
         refine x_seq fun K55 hK55 => ?_
         refine x_seq fun K56 hK56 => ?_
         refine x_region ?_
         refine s_go (s_move) ?_
         try simp only [opv, nZ, Value.cells]
         refine s_go (s_neq) ?_
         try simp only [opv, nZ, Value.cells]
         refine x_nil ?_
         refine hK56 _ _ ?_
         refine x_cond_f (h := ?_)
         skip
         refine x_skip ?_
         refine hK55 _ _ ?_
         refine x_seq fun K57 hK57 => ?_
         refine x_region ?_
         refine s_go (s_move) ?_
         try simp only [opv, nZ, Value.cells]
         refine s_go (s_move) ?_
         try simp only [opv, nZ, Value.cells]
         refine s_go (s_nilCheck) ?_
         try simp only [opv, nZ, Value.cells]
         refine s_go (m_fieldAddr Tryz.underlying44 (hi := ti33)) ?_
         try simp only [opv, nZ, Value.cells, Nat.zero_add, Nat.add_zero, List.getElem_toArray, List.getElem_cons_zero, List.getElem_cons_succ]
         refine m_store_obj ti33 (hS := hS) (h := fun w65 hS => ?_)
         try simp only [opv, nZ, Value.cells, Array.toArray_toList] at hS ⊢
         refine x_nil ?_
         refine hK57 _ _ ?_
         refine x_seq fun K58 hK58 => ?_
         refine x_region ?_
         refine s_go (m_load_row Tryz.underlying58 (hi := ti58) (hS := hS)) ?_
         try simp only [opv, nZ, Value.cells, List.getElem_toArray, List.getElem_cons_zero, List.getElem_cons_succ]
         refine m_store_obj ti58 (hS := hS) (h := fun w66 hS => ?_)
         try simp only [opv, nZ, Value.cells, Array.toArray_toList] at hS ⊢
         refine x_nil ?_
         refine hK58 _ _ ?_
         refine x_ret ?_
         refine r_cell_agg rfl Tryz.underlying58 ti58 (hS := hS) (hR := ?_)
         have hcpo : (xs.drop (1 + k)).length ≤ c - (1 + k) := by simp; omega
         have hRo : RdIn w0 [.obj g (.cells #[.slice A xs.length c, .int .i64 0] 44 (0, 0)), .rd A 1 xs.length (xs.map (Value.int .u8))] B (xs.drop (1 + k)).length := RdIn.sub (List.mem_cons_of_mem _ (List.mem_cons_self ..)) (fun h => by simp at h; exact ⟨by omega, hB (by omega)⟩)
         replace hS := (hS.rd_drop (by repeat (first | exact Has.head | apply Has.tail)) (1 + k) (by omega) B hB).rd_none none 1
         try rw [← List.length_drop] at hS
         exact ⟨_, _, by rw [hz]; rfl, by rw [hz]; exact RdIn.none _ _ _, _, _, by rw [hz]; exact hcpo, by rw [hz]; exact hRo, by rw [hz]; exact hS.selA⟩
    ·
     try simp only [decide_eq_true_eq, decide_eq_false_iff_not, Bool.not_eq_true', Bool.not_eq_false', Int.not_lt, Int.not_le, ne_eq, Decidable.not_not, bne_iff_ne, beq_iff_eq, not_true_eq_false, not_false_eq_true] at hc8
     have h2 : ¬ p.d = 2 := hc8
     refine x_seq fun K59 hK59 => ?_
     refine x_mixed_c (Lc := [.obj g1 (.cells (pP p) 58 (0, 0)), .obj g (.cells #[.slice A xs.length c, .int .i64 0] 44 (0, 0)), .rd A 1 xs.length (xs.map (Value.int .u8))]) [] 0 [10, 11, 12, 28, 29, 30, 31, 32, 33, 34, 35, 36, 37, 38, 39, 40] (fun f w => ∃ (x : Nat) (B : Option Addr) (k d : Nat), f 10 = .int .u64 (x : Int) ∧ f 11 = .slice B k d ∧ f 12 = .int .i64 (numS p.n.toNat 0 xs).2.1 ∧ NumJ A c xs p.n.toNat x B k d ∧ St (OwnB [.obj g (.cells #[.slice A xs.length c, .int .i64 0] 44 (0, 0)), .rd A 1 xs.length (xs.map (Value.int .u8))]) w0 w [.obj g3 (.cells (pA p.d 0 0 nm0 none 0 0 0) 58 (0, 0)), .obj g2 (.cells (pA 0 0 0 nm0 none 0 0 0) 58 (0, 0)), .obj g1 (.cells (pP p) 58 (0, 0)), .obj g (.cells #[.slice A xs.length c, .int .i64 0] 44 (0, 0)), .rd A 1 xs.length (xs.map (Value.int .u8))]) (by kernel_rfl) (by kernel_rfl) (by kernel_rfl) (by decide) hS (fun w67 hS => ?mixpre605) ?mixrest605
     case mixpre605 =>
      refine p_nil ?_
      simp only [List.length_cons, List.length_nil, Nat.reduceAdd, Nat.reduceSub]
      refine any_go (i := 0) (by rfl) (by decide +kernel) (by decide +kernel) noLate_nil (go_yields w_none (fun w hS => s_move)) ?_
      try simp only [opv, nZ, Value.cells]
      refine any_go (i := 1) (by rfl) (by decide +kernel) (by decide +kernel) noLate_nil (go_yields w_none (fun w hS => s_nilCheck)) ?_
      try simp only [opv, nZ, Value.cells]
      refine any_go (i := 2) (by rfl) (by decide +kernel) (by decide +kernel) noLate_nil (go_yields w_none (fun w hS => m_fieldAddr Tryz.underlying44 (hi := ti33))) ?_
      try simp only [opv, nZ, Value.cells, Nat.zero_add, Nat.add_zero, List.getElem_toArray, List.getElem_cons_zero, List.getElem_cons_succ]
      refine any_go (i := 3) (by rfl) (by decide +kernel) (by decide +kernel) noLate_nil (go_yields w_none (fun w hS => m_load_obj Tryz.underlying33 (hS := hS))) ?_
      try simp only [opv, nZ, Value.cells, List.getElem_toArray, List.getElem_cons_zero, List.getElem_cons_succ]
      refine any_go (i := 4) (by rfl) (by decide +kernel) (by decide +kernel) noLate_nil (go_yields w_none (fun w hS => m_fieldAddr Tryz.underlying58 (hi := ti3))) ?_
      try simp only [opv, nZ, Value.cells, Nat.zero_add, Nat.add_zero, List.getElem_toArray, List.getElem_cons_zero, List.getElem_cons_succ]
      refine any_go (i := 5) (by rfl) (by decide +kernel) (by decide +kernel) noLate_nil (go_yields w_none (fun w hS => m_load_obj Tryz.underlying3 (hS := hS))) ?_
      try simp only [opv, nZ, Value.cells, List.getElem_toArray, List.getElem_cons_zero, List.getElem_cons_succ]
      refine any_go (i := 6) (by rfl) (by decide +kernel) (by decide +kernel) noLate_nil (go_yields w_none (fun w hS => s_max)) ?_
      try simp only [opv, nZ, Value.cells]
      refine any_go (i := 7) (by rfl) (by decide +kernel) (by decide +kernel) noLate_nil (go_yields w_none (fun w hS => s_conv Tryz.underlying3 Tryz.underlying28 (hc := max_u64 hpn))) ?_
      try simp only [opv, nZ, Value.cells]
      refine any_step [8] (by kernel_rfl) (by decide) (fun w68 hE => ⟨fun _ => (hS.ext hE).sel (by repeat (first | exact Sel.nil | (refine Sel.cons (by repeat (first | exact Del.head | apply Del.tail)) ?_))), ?_⟩)
      replace hS := hS.ext hE
      intro i hi
      simp only [List.mem_cons, List.not_mem_nil, or_false] at hi
      subst hi
      ·
       refine any_op (by rfl) ?_
       refine s_call en61 ?_
       try simp only [opv, nZ, Value.cells, List.map_toArray, List.map_cons, List.map_nil, List.append_toArray, List.cons_append, List.nil_append, Array.append_empty]
       refine CallR.mono (c_ref07num _ A c xs (hS.hasRd (by repeat (first | exact Has.head | apply Has.tail))) hw hn hc p.n.toNat (by omega)) ?_
       rintro _ w69 ⟨x69, B69, k69, d69, rfl, hE69, hj69⟩
       replace hS := hS.ext hE69
       try simp only [opv, nZ, Value.cells]
       refine x_nil ?_
       refine any_go (i := 9) (by rfl) (by decide +kernel) (by decide +kernel) noLate_nil (go_yields w_none (fun w hS => s_move)) ?_
       try simp only [opv, nZ, Value.cells]
       refine any_go (i := 10) (by rfl) (by decide +kernel) (by decide +kernel) noLate_nil (go_yields w_none (fun w hS => s_extract (hv := rfl))) ?_
       try simp only [List.getElem_toArray, List.getElem_cons_zero, List.getElem_cons_succ]
       try simp only [opv, nZ, Value.cells]
       refine any_go (i := 11) (by rfl) (by decide +kernel) (by decide +kernel) noLate_nil (go_yields w_none (fun w hS => s_extract (hv := rfl))) ?_
       try simp only [List.getElem_toArray, List.getElem_cons_zero, List.getElem_cons_succ]
       try simp only [opv, nZ, Value.cells]
       refine any_go (i := 12) (by rfl) (by decide +kernel) (by decide +kernel) noLate_nil (go_yields w_none (fun w hS => s_extract (hv := rfl))) ?_
       try simp only [List.getElem_toArray, List.getElem_cons_zero, List.getElem_cons_succ]
       try simp only [opv, nZ, Value.cells]
       refine any_go (i := 13) (by rfl) (by decide +kernel) (by decide +kernel) noLate_nil (go_yields w_none (fun w hS => s_assign)) ?_
       try simp only [opv, nZ, Value.cells]
       refine any_go (i := 14) (by rfl) (by decide +kernel) (by decide +kernel) noLate_nil (go_yields w_none (fun w hS => s_assign)) ?_
       try simp only [opv, nZ, Value.cells]
       refine any_go (i := 15) (by rfl) (by decide +kernel) (by decide +kernel) noLate_nil (go_yields w_none (fun w hS => s_assign)) ?_
       try simp only [opv, nZ, Value.cells]
       refine any_nil (by kernel_rfl) (fun w70 hE => ?_)
       replace hS := hS.ext hE
       refine ⟨fun _ => hS.selA, ?_⟩
       refine mix_leaf (by simp only [clob, List.foldl, nZ]) ?_
       try simp only [n1, n2]
       exact ⟨_, _, _, _, by trivial, rfl, by trivial, by assumption, hS.sel (by repeat (first | exact Sel.nil | (refine Sel.cons (by repeat (exact Del.head)) ?_)))⟩
     intro fm5 w71 hM
     obtain ⟨xv, B, kb, db, h10, h11, h12, hj, hS⟩ := hM
     simp only [clob, List.foldl, n3, n4, h10, h11, h12]
     refine hK59 _ _ ?_
     refine x_seq fun K60 hK60 => ?_
     refine x_region ?_
     refine s_go (s_move) ?_
     try simp only [opv, nZ, Value.cells]
     refine s_go (s_assign) ?_
     try simp only [opv, nZ, Value.cells]
     refine x_nil ?_
     refine hK60 _ _ ?_
     refine x_seq fun K61 hK61 => ?_
     refine x_seq fun K62 hK62 => ?_
     refine x_region ?_
     refine s_go (s_move) ?_
     try simp only [opv, nZ, Value.cells]
     refine s_go (s_eql) ?_
     try simp only [opv, nZ, Value.cells]
     refine s_go (s_move) ?_
     try simp only [opv, nZ, Value.cells]
     refine s_part 44 rfl (fun hp2 => ?_) (fun hp2 => ?_)
     ·
      try simp only [n3, n4]
      try simp only [decide_eq_true_eq, decide_eq_false_iff_not, Bool.not_eq_true', Bool.not_eq_false', Int.not_lt, Int.not_le, ne_eq, Decidable.not_not] at hp2
      have hE : (numS p.n.toNat 0 xs).2.1 = 0 := by simpa using hp2
      obtain ⟨rfl, j, hjl, hdr, rfl, rfl, hB⟩ := hj hE
      have hdl : (xs.drop j).length = xs.length - j := by simp
      have hnl := numS_le p.n.toNat 0 xs
      replace hS := hS.rd_drop (by repeat (first | exact Has.head | apply Has.tail)) j hjl B hB
      rw [hdl] at hS
      refine g_on (yi (t := 44) rfl rfl) ?_
      refine s_go (s_move) ?_
      try simp only [opv, nZ, Value.cells]
      refine g_on (yi (t := 44) rfl rfl) ?_
      refine s_go (s_len_sl Tryz.underlying33) ?_
      try simp only [opv, nZ, Value.cells]
      refine g_on (yi (t := 44) rfl rfl) ?_
      refine s_go (s_conv Tryz.underlying3 Tryz.underlying28 (hc := by exact wr_u64 (by omega) (by omega))) ?_
      try simp only [opv, nZ, Value.cells]
      refine g_on (yi (t := 44) rfl rfl) ?_
      refine s_go (s_move) ?_
      try simp only [opv, nZ, Value.cells]
      refine g_on (yi (t := 44) rfl rfl) ?_
      refine s_go (s_lss) ?_
      try simp only [opv, nZ, Value.cells]
      refine s_go (s_pick_t) ?_
      try simp only [opv, nZ, Value.cells]
      refine x_nil ?_
      refine hK62 _ _ ?_
      refine x_cond (ht := fun hc20 => ?_) (hf := fun hc20 => ?_)
      ·
       try simp only [decide_eq_true_eq, decide_eq_false_iff_not, Bool.not_eq_true', Bool.not_eq_false', Int.not_lt, Int.not_le, ne_eq, Decidable.not_not, bne_iff_ne, beq_iff_eq, not_true_eq_false, not_false_eq_true] at hc20
       have hz := rdS_3s (x := p.x) h0 h1 h2 hE (by rw [hdr, hdl]; omega)
       refine x_region ?_
       refine s_go (s_assign) ?_
       try simp only [opv, nZ, Value.cells]
       refine x_nil ?_
       refine hK61 _ _ ?_
       refine x_seq fun K63 hK63 => ?_
       refine x_region ?_
       refine s_go (s_move) ?_
       try simp only [opv, nZ, Value.cells]
       refine s_go (s_eql) ?_
       try simp only [opv, nZ, Value.cells]
       refine x_nil ?_
       refine hK63 _ _ ?_
       refine x_cond_f (h := ?_)
       refine x_skip ?_
       refine hK7 _ _ ?_
       refine x_seq fun K64 hK64 => ?_
       refine x_seq fun K65 hK65 => ?_
       refine x_region ?_
       refine s_go (s_move) ?_
       try simp only [opv, nZ, Value.cells]
       refine s_go (s_neq) ?_
       try simp only [opv, nZ, Value.cells]
       refine x_nil ?_
       refine hK65 _ _ ?_
       refine x_cond_t (h := ?_)
       skip
       refine x_seq fun K66 hK66 => ?_
       refine x_region ?_
       refine s_go (s_move) ?_
       try simp only [opv, nZ, Value.cells]
       refine s_go (s_move) ?_
       try simp only [opv, nZ, Value.cells]
       refine s_go (s_move) ?_
       try simp only [opv, nZ, Value.cells]
       refine s_go (s_nilCheck) ?_
       try simp only [opv, nZ, Value.cells]
       refine s_go (m_fieldAddr Tryz.underlying44 (hi := ti33)) ?_
       try simp only [opv, nZ, Value.cells, Nat.zero_add, Nat.add_zero, List.getElem_toArray, List.getElem_cons_zero, List.getElem_cons_succ]
       refine m_store_obj ti33 (hS := hS) (h := fun w72 hS => ?_)
       try simp only [opv, nZ, Value.cells, Array.toArray_toList] at hS ⊢
       refine s_go (s_nilCheck) ?_
       try simp only [opv, nZ, Value.cells]
       refine s_go (m_fieldAddr Tryz.underlying44 (hi := ti42)) ?_
       try simp only [opv, nZ, Value.cells, Nat.zero_add, Nat.add_zero, List.getElem_toArray, List.getElem_cons_zero, List.getElem_cons_succ]
       refine m_store_obj ti42 (hS := hS) (h := fun w73 hS => ?_)
       try simp only [opv, nZ, Value.cells, Array.toArray_toList] at hS ⊢
       refine x_nil ?_
       refine hK66 _ _ ?_
       refine x_seq fun K67 hK67 => ?_
       refine x_region ?_
       refine s_go (m_fieldAddr Tryz.underlying58 (hi := ti3)) ?_
       try simp only [opv, nZ, Value.cells, Nat.zero_add, Nat.add_zero, List.getElem_toArray, List.getElem_cons_zero, List.getElem_cons_succ]
       refine s_go (m_load_obj Tryz.underlying3 (hS := hS)) ?_
       try simp only [opv, nZ, Value.cells, List.getElem_toArray, List.getElem_cons_zero, List.getElem_cons_succ]
       refine s_go (s_build_struct (cells := #[_, .int .u64 0, .int .u8 0, .int .u8 0, .int .u8 0, .int .u8 0, .int .u8 0, .int .u8 0, .int .u8 0, .int .u8 0, .int .u8 0, .slice none 0 0, .int .i64 0]) Tryz.underlying58 ti58 bp58 (hc := by simp only [List.map_toArray, List.map_cons, List.map_nil, opv, nZ, Value.cells, List.toList_toArray]; (repeat (refine fill_cons rfl rfl (Nat.le_of_ble_eq_true rfl) ?_)); rfl)) ?_
       try simp only [opv, nZ, Value.cells]
       refine m_store_obj ti58 (hS := hS) (h := fun w74 hS => ?_)
       try simp only [opv, nZ, Value.cells, Array.toArray_toList] at hS ⊢
       refine x_nil ?_
       refine hK67 _ _ ?_
       refine x_ret ?_
       refine r_cell_agg rfl Tryz.underlying58 ti58 (hS := hS) (hR := ?_)
       replace hS := (hS.rd_none none 1).rd_none none 1
       exact ⟨none, 0, by rw [hz]; rfl, by rw [hz]; exact RdIn.none _ _ _, none, 0, by rw [hz]; exact Nat.le_refl 0, by rw [hz]; exact RdIn.none _ _ _, by rw [hz]; exact hS.selA⟩
      ·
       try simp only [decide_eq_true_eq, decide_eq_false_iff_not, Bool.not_eq_true', Bool.not_eq_false', Int.not_lt, Int.not_le, ne_eq, Decidable.not_not, bne_iff_ne, beq_iff_eq, not_true_eq_false, not_false_eq_true] at hc20
       (have hql : (numS p.n.toNat 0 xs).1 ≤ (xs.drop j).length := by rw [hdl]; omega); (have hz := rdS_3y (x := p.x) h0 h1 h2 hE hdr hql)
       refine x_skip ?_
       refine hK61 _ _ ?_
       refine x_seq fun K68 hK68 => ?_
       refine x_region ?_
       refine s_go (s_move) ?_
       try simp only [opv, nZ, Value.cells]
       refine s_go (s_eql) ?_
       try simp only [opv, nZ, Value.cells]
       refine x_nil ?_
       refine hK68 _ _ ?_
       refine x_cond (ht := fun hc23 => ?_) (hf := fun hc23 => ?_)
       ·
        try simp only [decide_eq_true_eq, decide_eq_false_iff_not, Bool.not_eq_true', Bool.not_eq_false', Int.not_lt, Int.not_le, ne_eq, Decidable.not_not, bne_iff_ne, beq_iff_eq, not_true_eq_false, not_false_eq_true] at hc23
        refine x_mixed_c (Lc := [.rd A 1 xs.length (xs.map (Value.int .u8))]) [] 0 [6, 53, 54, 55, 56, 57, 58, 59] (fun f w => ∃ (B1 B2 : Option Addr) (d1 q1 : Nat), q1 = ((xs.drop j).take (numS p.n.toNat 0 xs).1).length ∧ f 6 = .slice B2 (xs.length - j - (numS p.n.toNat 0 xs).1) (c - j - (numS p.n.toNat 0 xs).1) ∧ (0 < (numS p.n.toNat 0 xs).1 → B1.map (·.block) = B.map (·.block)) ∧ ((numS p.n.toNat 0 xs).1 < xs.length - j → B2.map (·.block) = B.map (·.block)) ∧ St (OwnB [.obj g (.cells #[.slice A xs.length c, .int .i64 0] 44 (0, 0)), .rd A 1 xs.length (xs.map (Value.int .u8))]) w0 w [.obj g3 (.cells (pA p.d 0 0 nm0 B1 q1 d1 0) 58 (0, 0)), .rd B1 1 q1 (((xs.drop j).take (numS p.n.toNat 0 xs).1).map (Value.int .u8)), .rd B2 1 (xs.length - j - (numS p.n.toNat 0 xs).1) (((xs.drop j).drop (numS p.n.toNat 0 xs).1).map (Value.int .u8)), .obj g2 (.cells (pA 0 0 0 nm0 none 0 0 0) 58 (0, 0)), .obj g1 (.cells (pP p) 58 (0, 0)), .obj g (.cells #[.slice A xs.length c, .int .i64 0] 44 (0, 0)), .rd A 1 xs.length (xs.map (Value.int .u8))]) (by kernel_rfl) (by kernel_rfl) (by kernel_rfl) (by decide) hS (fun w75 hS => ?mixpre1106) ?mixrest1106
        case mixpre1106 =>
         refine p_nil ?_
         simp only [List.length_cons, List.length_nil, Nat.reduceAdd, Nat.reduceSub]
         refine any_go (i := 0) (by rfl) (by decide +kernel) (by decide +kernel) noLate_nil (go_yields w_none (fun w hS => s_move)) ?_
         try simp only [opv, nZ, Value.cells]
         refine any_go (i := 1) (by rfl) (by decide +kernel) (by decide +kernel) noLate_nil (go_yields w_none (fun w hS => s_move)) ?_
         try simp only [opv, nZ, Value.cells]
         refine any_go (i := 3) (by rfl) (by decide +kernel) (by decide +kernel) noLate_nil (go_yields w_none (fun w hS => s_move)) ?_
         try simp only [opv, nZ, Value.cells]
         refine any_go (i := 4) (by rfl) (by decide +kernel) (by decide +kernel) noLate_nil (go_yields w_none (fun w hS => s_move)) ?_
         try simp only [opv, nZ, Value.cells]
         refine any_step [2, 5] (by kernel_rfl) (by decide) (fun w76 hE => ⟨fun _ => (hS.ext hE).sel (by repeat (first | exact Sel.nil | (refine Sel.cons (by repeat (first | exact Del.head | apply Del.tail)) ?_))), ?_⟩)
         replace hS := hS.ext hE
         intro i hi
         simp only [List.mem_cons, List.not_mem_nil, or_false] at hi
         rcases hi with rfl | rfl
         ·
          refine any_op (by rfl) ?_
          refine m_slice_rd (lo := 0) (hi := (numS p.n.toNat 0 xs).1) (m := c - j) Tryz.underlying33 ti5 (hlo := rfl) (hhi := ⟨_, rfl⟩) (hmx := rfl) (hS := hS) (h := fun A8 hA8 hS => ?_)
          try simp only [Nat.mul_one, Nat.zero_mul] at hA8
          try simp only [← List.map_append, ← List.map_drop, ← List.map_take, Nat.mul_one, Nat.zero_mul, Nat.sub_zero, List.drop_zero, List.nil_append, Nat.zero_add] at hS ⊢
          try simp only [opv, nZ, Value.cells, Array.toArray_toList] at hS ⊢
          refine x_nil ?_
          refine any_go (i := 6) (by rfl) (by decide +kernel) (by decide +kernel) noLate_nil (go_yields w_none (fun w hS => m_fieldAddr Tryz.underlying58 (hi := ti33))) ?_
          try simp only [opv, nZ, Value.cells, Nat.zero_add, Nat.add_zero, List.getElem_toArray, List.getElem_cons_zero, List.getElem_cons_succ]
          refine any_step [5, 7] (by kernel_rfl) (by decide) (fun w77 hE => ⟨fun _ => (hS.ext hE).sel (by repeat (first | exact Sel.nil | (refine Sel.cons (by repeat (first | exact Del.head | apply Del.tail)) ?_))), ?_⟩)
          replace hS := hS.ext hE
          intro i hi
          simp only [List.mem_cons, List.not_mem_nil, or_false] at hi
          rcases hi with rfl | rfl
          ·
           refine any_op (by rfl) ?_
           refine m_slice_rd (lo := (numS p.n.toNat 0 xs).1) (hi := xs.length - j) (m := c - j) Tryz.underlying33 ti5 (hlo := ⟨_, rfl⟩) (hhi := ⟨rfl, rfl⟩) (hmx := rfl) (hS := hS) (h := fun A9 hA9 hS => ?_)
           try simp only [Nat.mul_one, Nat.zero_mul] at hA9
           try simp only [← List.map_append, ← List.map_drop, ← List.map_take, Nat.mul_one, Nat.zero_mul, Nat.sub_zero, List.drop_zero, List.nil_append, Nat.zero_add] at hS ⊢
           try simp only [opv, nZ, Value.cells, Array.toArray_toList] at hS ⊢
           rw [show List.take (xs.length - j - (numS p.n.toNat 0 xs).1) (List.drop (numS p.n.toNat 0 xs).1 (List.drop j xs)) = List.drop (numS p.n.toNat 0 xs).1 (List.drop j xs) from List.take_of_length_le (by simp; omega)] at hS
           refine x_nil ?_
           refine any_step [7] (by kernel_rfl) (by decide) (fun w78 hE => ⟨fun _ => (hS.ext hE).sel (by repeat (first | exact Sel.nil | (refine Sel.cons (by repeat (first | exact Del.head | apply Del.tail)) ?_))), ?_⟩)
           replace hS := hS.ext hE
           intro i hi
           simp only [List.mem_cons, List.not_mem_nil, or_false] at hi
           subst hi
           ·
            refine any_op (by rfl) ?_
            refine m_store_obj ti33 (hS := hS) (h := fun w79 hS => ?_)
            try simp only [opv, nZ, Value.cells, Array.toArray_toList] at hS ⊢
            refine x_nil ?_
            refine any_go (i := 8) (by rfl) (by decide +kernel) (by decide +kernel) noLate_nil (go_yields w_none (fun w hS => s_assign)) ?_
            try simp only [opv, nZ, Value.cells]
            refine any_nil (by kernel_rfl) (fun w80 hE => ?_)
            replace hS := hS.ext hE
            refine ⟨fun _ => hS.selA, ?_⟩
            refine mix_leaf (by simp only [clob, List.foldl, nZ]) ?_
            try simp only [n1, n2]
            refine ⟨_, _, _, (numS p.n.toNat 0 xs).1, by rw [List.length_take]; omega, rfl, fun h => ?_, fun h => ?_, hS.selA⟩
            · exact (congrArg (Option.map (fun a : Addr => a.block)) ((by assumption : 0 < (numS p.n.toNat 0 xs).1 → _) h)).trans (add_block _ _)
            · exact (congrArg (Option.map (fun a : Addr => a.block)) ((by assumption : (numS p.n.toNat 0 xs).1 < xs.length - j → _) h)).trans (add_block _ _)
          ·
           refine any_op (by rfl) ?_
           refine m_store_obj ti33 (hS := hS) (h := fun w81 hS => ?_)
           try simp only [opv, nZ, Value.cells, Array.toArray_toList] at hS ⊢
           refine x_nil ?_
           refine any_step [5] (by kernel_rfl) (by decide) (fun w82 hE => ⟨fun _ => (hS.ext hE).sel (by repeat (first | exact Sel.nil | (refine Sel.cons (by repeat (first | exact Del.head | apply Del.tail)) ?_))), ?_⟩)
           replace hS := hS.ext hE
           intro i hi
           simp only [List.mem_cons, List.not_mem_nil, or_false] at hi
           subst hi
           ·
            refine any_op (by rfl) ?_
            refine m_slice_rd (lo := (numS p.n.toNat 0 xs).1) (hi := xs.length - j) (m := c - j) Tryz.underlying33 ti5 (hlo := ⟨_, rfl⟩) (hhi := ⟨rfl, rfl⟩) (hmx := rfl) (hS := hS) (h := fun A10 hA10 hS => ?_)
            try simp only [Nat.mul_one, Nat.zero_mul] at hA10
            try simp only [← List.map_append, ← List.map_drop, ← List.map_take, Nat.mul_one, Nat.zero_mul, Nat.sub_zero, List.drop_zero, List.nil_append, Nat.zero_add] at hS ⊢
            try simp only [opv, nZ, Value.cells, Array.toArray_toList] at hS ⊢
            rw [show List.take (xs.length - j - (numS p.n.toNat 0 xs).1) (List.drop (numS p.n.toNat 0 xs).1 (List.drop j xs)) = List.drop (numS p.n.toNat 0 xs).1 (List.drop j xs) from List.take_of_length_le (by simp; omega)] at hS
            refine x_nil ?_
            refine any_go (i := 8) (by rfl) (by decide +kernel) (by decide +kernel) noLate_nil (go_yields w_none (fun w hS => s_assign)) ?_
            try simp only [opv, nZ, Value.cells]
            refine any_nil (by kernel_rfl) (fun w83 hE => ?_)
            replace hS := hS.ext hE
            refine ⟨fun _ => hS.selA, ?_⟩
            refine mix_leaf (by simp only [clob, List.foldl, nZ]) ?_
            try simp only [n1, n2]
            refine ⟨_, _, _, (numS p.n.toNat 0 xs).1, by rw [List.length_take]; omega, rfl, fun h => ?_, fun h => ?_, hS.selA⟩
            · exact (congrArg (Option.map (fun a : Addr => a.block)) ((by assumption : 0 < (numS p.n.toNat 0 xs).1 → _) h)).trans (add_block _ _)
            · exact (congrArg (Option.map (fun a : Addr => a.block)) ((by assumption : (numS p.n.toNat 0 xs).1 < xs.length - j → _) h)).trans (add_block _ _)
         ·
          refine any_op (by rfl) ?_
          refine m_slice_rd (lo := (numS p.n.toNat 0 xs).1) (hi := xs.length - j) (m := c - j) Tryz.underlying33 ti5 (hlo := ⟨_, rfl⟩) (hhi := ⟨rfl, rfl⟩) (hmx := rfl) (hS := hS) (h := fun A11 hA11 hS => ?_)
          try simp only [Nat.mul_one, Nat.zero_mul] at hA11
          try simp only [← List.map_append, ← List.map_drop, ← List.map_take, Nat.mul_one, Nat.zero_mul, Nat.sub_zero, List.drop_zero, List.nil_append, Nat.zero_add] at hS ⊢
          try simp only [opv, nZ, Value.cells, Array.toArray_toList] at hS ⊢
          rw [show List.take (xs.length - j - (numS p.n.toNat 0 xs).1) (List.drop (numS p.n.toNat 0 xs).1 (List.drop j xs)) = List.drop (numS p.n.toNat 0 xs).1 (List.drop j xs) from List.take_of_length_le (by simp; omega)] at hS
          refine x_nil ?_
          refine any_step [2] (by kernel_rfl) (by decide) (fun w84 hE => ⟨fun _ => (hS.ext hE).sel (by repeat (first | exact Sel.nil | (refine Sel.cons (by repeat (first | exact Del.head | apply Del.tail)) ?_))), ?_⟩)
          replace hS := hS.ext hE
          intro i hi
          simp only [List.mem_cons, List.not_mem_nil, or_false] at hi
          subst hi
          ·
           refine any_op (by rfl) ?_
           refine m_slice_rd (lo := 0) (hi := (numS p.n.toNat 0 xs).1) (m := c - j) Tryz.underlying33 ti5 (hlo := rfl) (hhi := ⟨_, rfl⟩) (hmx := rfl) (hS := hS) (h := fun A12 hA12 hS => ?_)
           try simp only [Nat.mul_one, Nat.zero_mul] at hA12
           try simp only [← List.map_append, ← List.map_drop, ← List.map_take, Nat.mul_one, Nat.zero_mul, Nat.sub_zero, List.drop_zero, List.nil_append, Nat.zero_add] at hS ⊢
           try simp only [opv, nZ, Value.cells, Array.toArray_toList] at hS ⊢
           refine x_nil ?_
           refine any_go (i := 6) (by rfl) (by decide +kernel) (by decide +kernel) noLate_nil (go_yields w_none (fun w hS => m_fieldAddr Tryz.underlying58 (hi := ti33))) ?_
           try simp only [opv, nZ, Value.cells, Nat.zero_add, Nat.add_zero, List.getElem_toArray, List.getElem_cons_zero, List.getElem_cons_succ]
           refine any_step [7] (by kernel_rfl) (by decide) (fun w85 hE => ⟨fun _ => (hS.ext hE).sel (by repeat (first | exact Sel.nil | (refine Sel.cons (by repeat (first | exact Del.head | apply Del.tail)) ?_))), ?_⟩)
           replace hS := hS.ext hE
           intro i hi
           simp only [List.mem_cons, List.not_mem_nil, or_false] at hi
           subst hi
           ·
            refine any_op (by rfl) ?_
            refine m_store_obj ti33 (hS := hS) (h := fun w86 hS => ?_)
            try simp only [opv, nZ, Value.cells, Array.toArray_toList] at hS ⊢
            refine x_nil ?_
            refine any_go (i := 8) (by rfl) (by decide +kernel) (by decide +kernel) noLate_nil (go_yields w_none (fun w hS => s_assign)) ?_
            try simp only [opv, nZ, Value.cells]
            refine any_nil (by kernel_rfl) (fun w87 hE => ?_)
            replace hS := hS.ext hE
            refine ⟨fun _ => hS.selA, ?_⟩
            refine mix_leaf (by simp only [clob, List.foldl, nZ]) ?_
            try simp only [n1, n2]
            refine ⟨_, _, _, (numS p.n.toNat 0 xs).1, by rw [List.length_take]; omega, rfl, fun h => ?_, fun h => ?_, hS.selA⟩
            · exact (congrArg (Option.map (fun a : Addr => a.block)) ((by assumption : 0 < (numS p.n.toNat 0 xs).1 → _) h)).trans (add_block _ _)
            · exact (congrArg (Option.map (fun a : Addr => a.block)) ((by assumption : (numS p.n.toNat 0 xs).1 < xs.length - j → _) h)).trans (add_block _ _)
        intro fm6 w88 hM
        obtain ⟨B1, B2, d1, q1, hq1, h6, hB1, hB2, hS⟩ := hM
        simp only [clob, List.foldl, n3, n4, h6]
        refine hK7 _ _ ?_
        refine x_seq fun K69 hK69 => ?_
        refine x_seq fun K70 hK70 => ?_
        refine x_region ?_
        refine s_go (s_move) ?_
        try simp only [opv, nZ, Value.cells]
        refine s_go (s_neq) ?_
        try simp only [opv, nZ, Value.cells]
        refine x_nil ?_
        refine hK70 _ _ ?_
        refine x_cond (ht := fun hc24 => ?_) (hf := fun hc24 => ?_)
        ·
         try simp only [decide_eq_true_eq, decide_eq_false_iff_not, Bool.not_eq_true', Bool.not_eq_false', Int.not_lt, Int.not_le, ne_eq, Decidable.not_not, bne_iff_ne, beq_iff_eq, not_true_eq_false, not_false_eq_true] at hc24
         (exfalso; omega)
        ·
         try simp only [decide_eq_true_eq, decide_eq_false_iff_not, Bool.not_eq_true', Bool.not_eq_false', Int.not_lt, Int.not_le, ne_eq, Decidable.not_not, bne_iff_ne, beq_iff_eq, not_true_eq_false, not_false_eq_true] at hc24
         subst hq1
         refine x_skip ?_
         refine hK69 _ _ ?_
         refine x_seq fun K73 hK73 => ?_
         refine x_region ?_
         refine s_go (s_move) ?_
         try simp only [opv, nZ, Value.cells]
         refine s_go (s_move) ?_
         try simp only [opv, nZ, Value.cells]
         refine s_go (s_nilCheck) ?_
         try simp only [opv, nZ, Value.cells]
         refine s_go (m_fieldAddr Tryz.underlying44 (hi := ti33)) ?_
         try simp only [opv, nZ, Value.cells, Nat.zero_add, Nat.add_zero, List.getElem_toArray, List.getElem_cons_zero, List.getElem_cons_succ]
         refine m_store_obj ti33 (hS := hS) (h := fun w92 hS => ?_)
         try simp only [opv, nZ, Value.cells, Array.toArray_toList] at hS ⊢
         refine x_nil ?_
         refine hK73 _ _ ?_
         refine x_seq fun K74 hK74 => ?_
         refine x_region ?_
         refine s_go (m_load_row Tryz.underlying58 (hi := ti58) (hS := hS)) ?_
         try simp only [opv, nZ, Value.cells, List.getElem_toArray, List.getElem_cons_zero, List.getElem_cons_succ]
         refine m_store_obj ti58 (hS := hS) (h := fun w93 hS => ?_)
         try simp only [opv, nZ, Value.cells, Array.toArray_toList] at hS ⊢
         refine x_nil ?_
         refine hK74 _ _ ?_
         refine x_ret ?_
         refine r_cell_agg rfl Tryz.underlying58 ti58 (hS := hS) (hR := ?_)
         have hbk : j < xs.length → B.map (·.block) = A.map (·.block) := fun h => by rw [hB h]; exact add_block _ _
         have hcpo : ((xs.drop j).drop (numS p.n.toNat 0 xs).1).length ≤ c - j - (numS p.n.toNat 0 xs).1 := by simp; omega
         have hdd : ((xs.drop j).drop (numS p.n.toNat 0 xs).1).length = xs.length - j - (numS p.n.toNat 0 xs).1 := by simp; omega
         have htt : ((xs.drop j).take (numS p.n.toNat 0 xs).1).length = (numS p.n.toNat 0 xs).1 := by simp; omega
         have hQo : RdIn w0 [.obj g (.cells #[.slice A xs.length c, .int .i64 0] 44 (0, 0)), .rd A 1 xs.length (xs.map (Value.int .u8))] B1 ((xs.drop j).take (numS p.n.toNat 0 xs).1).length := RdIn.sub2 (List.mem_cons_of_mem _ (List.mem_cons_self ..)) (fun h => by rw [htt] at h; exact ⟨by omega, (hB1 h).trans (hbk (by omega))⟩)
         have hRo : RdIn w0 [.obj g (.cells #[.slice A xs.length c, .int .i64 0] 44 (0, 0)), .rd A 1 xs.length (xs.map (Value.int .u8))] B2 ((xs.drop j).drop (numS p.n.toNat 0 xs).1).length := RdIn.sub2 (List.mem_cons_of_mem _ (List.mem_cons_self ..)) (fun h => by rw [hdd] at h; exact ⟨by omega, (hB2 (by omega)).trans (hbk (by omega))⟩)
         rw [← hdd] at hS
         exact ⟨_, _, by rw [hz], by rw [hz]; exact hQo, _, _, by rw [hz]; exact hcpo, by rw [hz]; exact hRo, by rw [hz]; exact hS.selA⟩
       ·
        try simp only [decide_eq_true_eq, decide_eq_false_iff_not, Bool.not_eq_true', Bool.not_eq_false', Int.not_lt, Int.not_le, ne_eq, Decidable.not_not, bne_iff_ne, beq_iff_eq, not_true_eq_false, not_false_eq_true] at hc23
        (exfalso; omega)
     ·
      try simp only [n3, n4]
      try simp only [decide_eq_true_eq, decide_eq_false_iff_not, Bool.not_eq_true', Bool.not_eq_false', Int.not_lt, Int.not_le, ne_eq, Decidable.not_not] at hp2
      have hE : ¬ (numS p.n.toNat 0 xs).2.1 = 0 := by simpa using hp2
      have hz := rdS_3e (x := p.x) h0 h1 h2 hE
      refine g_off (yi (t := 44) rfl rfl) ?_
      try simp only [opv, nZ, Value.cells]
      refine g_off (yi (t := 44) rfl rfl) ?_
      try simp only [opv, nZ, Value.cells]
      refine g_off (yi (t := 44) rfl rfl) ?_
      try simp only [opv, nZ, Value.cells]
      refine g_off (yi (t := 44) rfl rfl) ?_
      try simp only [opv, nZ, Value.cells]
      refine g_off (yi (t := 44) rfl rfl) ?_
      try simp only [opv, nZ, Value.cells]
      refine s_go (s_pick_f) ?_
      try simp only [opv, nZ, Value.cells]
      refine x_nil ?_
      refine hK62 _ _ ?_
      refine x_cond_f (h := ?_)
      skip
      refine x_skip ?_
      refine hK61 _ _ ?_
      refine x_seq fun K81 hK81 => ?_
      refine x_region ?_
      refine s_go (s_move) ?_
      try simp only [opv, nZ, Value.cells]
      refine s_go (s_eql) ?_
      try simp only [opv, nZ, Value.cells]
      refine x_nil ?_
      refine hK81 _ _ ?_
      refine x_cond (ht := fun hc27 => ?_) (hf := fun hc27 => ?_)
      ·
       try simp only [decide_eq_true_eq, decide_eq_false_iff_not, Bool.not_eq_true', Bool.not_eq_false', Int.not_lt, Int.not_le, ne_eq, Decidable.not_not, bne_iff_ne, beq_iff_eq, not_true_eq_false, not_false_eq_true] at hc27
       (exfalso; omega)
      ·
       try simp only [decide_eq_true_eq, decide_eq_false_iff_not, Bool.not_eq_true', Bool.not_eq_false', Int.not_lt, Int.not_le, ne_eq, Decidable.not_not, bne_iff_ne, beq_iff_eq, not_true_eq_false, not_false_eq_true] at hc27
       refine x_skip ?_
       refine hK7 _ _ ?_
       refine x_seq fun K88 hK88 => ?_
       refine x_seq fun K89 hK89 => ?_
       refine x_region ?_
       refine s_go (s_move) ?_
       try simp only [opv, nZ, Value.cells]
       refine s_go (s_neq) ?_
       try simp only [opv, nZ, Value.cells]
       refine x_nil ?_
       refine hK89 _ _ ?_
       refine x_cond (ht := fun hc29 => ?_) (hf := fun hc29 => ?_)
       ·
        try simp only [decide_eq_true_eq, decide_eq_false_iff_not, Bool.not_eq_true', Bool.not_eq_false', Int.not_lt, Int.not_le, ne_eq, Decidable.not_not, bne_iff_ne, beq_iff_eq, not_true_eq_false, not_false_eq_true] at hc29
        skip
        refine x_seq fun K90 hK90 => ?_
        refine x_region ?_
        refine s_go (s_move) ?_
        try simp only [opv, nZ, Value.cells]
        refine s_go (s_move) ?_
        try simp only [opv, nZ, Value.cells]
        refine s_go (s_move) ?_
        try simp only [opv, nZ, Value.cells]
        refine s_go (s_nilCheck) ?_
        try simp only [opv, nZ, Value.cells]
        refine s_go (m_fieldAddr Tryz.underlying44 (hi := ti33)) ?_
        try simp only [opv, nZ, Value.cells, Nat.zero_add, Nat.add_zero, List.getElem_toArray, List.getElem_cons_zero, List.getElem_cons_succ]
        refine m_store_obj ti33 (hS := hS) (h := fun w118 hS => ?_)
        try simp only [opv, nZ, Value.cells, Array.toArray_toList] at hS ⊢
        refine s_go (s_nilCheck) ?_
        try simp only [opv, nZ, Value.cells]
        refine s_go (m_fieldAddr Tryz.underlying44 (hi := ti42)) ?_
        try simp only [opv, nZ, Value.cells, Nat.zero_add, Nat.add_zero, List.getElem_toArray, List.getElem_cons_zero, List.getElem_cons_succ]
        refine m_store_obj ti42 (hS := hS) (h := fun w119 hS => ?_)
        try simp only [opv, nZ, Value.cells, Array.toArray_toList] at hS ⊢
        refine x_nil ?_
        refine hK90 _ _ ?_
        refine x_seq fun K91 hK91 => ?_
        refine x_region ?_
        refine s_go (m_fieldAddr Tryz.underlying58 (hi := ti3)) ?_
        try simp only [opv, nZ, Value.cells, Nat.zero_add, Nat.add_zero, List.getElem_toArray, List.getElem_cons_zero, List.getElem_cons_succ]
        refine s_go (m_load_obj Tryz.underlying3 (hS := hS)) ?_
        try simp only [opv, nZ, Value.cells, List.getElem_toArray, List.getElem_cons_zero, List.getElem_cons_succ]
        refine s_go (s_build_struct (cells := #[_, .int .u64 0, .int .u8 0, .int .u8 0, .int .u8 0, .int .u8 0, .int .u8 0, .int .u8 0, .int .u8 0, .int .u8 0, .int .u8 0, .slice none 0 0, .int .i64 0]) Tryz.underlying58 ti58 bp58 (hc := by simp only [List.map_toArray, List.map_cons, List.map_nil, opv, nZ, Value.cells, List.toList_toArray]; (repeat (refine fill_cons rfl rfl (Nat.le_of_ble_eq_true rfl) ?_)); rfl)) ?_
        try simp only [opv, nZ, Value.cells]
        refine m_store_obj ti58 (hS := hS) (h := fun w120 hS => ?_)
        try simp only [opv, nZ, Value.cells, Array.toArray_toList] at hS ⊢
        refine x_nil ?_
        refine hK91 _ _ ?_
        refine x_ret ?_
        refine r_cell_agg rfl Tryz.underlying58 ti58 (hS := hS) (hR := ?_)
        replace hS := (hS.rd_none none 1).rd_none none 1
        exact ⟨none, 0, by rw [hz]; rfl, by rw [hz]; exact RdIn.none _ _ _, none, 0, by rw [hz]; exact Nat.le_refl 0, by rw [hz]; exact RdIn.none _ _ _, by rw [hz]; exact hS.selA⟩
       ·
        try simp only [decide_eq_true_eq, decide_eq_false_iff_not, Bool.not_eq_true', Bool.not_eq_false', Int.not_lt, Int.not_le, ne_eq, Decidable.not_not, bne_iff_ne, beq_iff_eq, not_true_eq_false, not_false_eq_true] at hc29
        (exfalso; omega)
end Go.Proofs.YtpjpaipkkcengaaGreat
namespace Go.Proofs.YtpjpaipkkcengaaGreat
/-- what was read may be wrong -/
def askS (bad : Bool) (w : Int) (s : Int × List Int) : Int × List Int := if s.1 = 0 ∧ bad = true then (w, []) else s
theorem askS_err {b : Bool} {w : Int} {s : Int × List Int} (h : ¬ s.1 = 0) : askS b w s = s := if_neg fun h1 => h h1.1
theorem askS_bad {b : Bool} {w : Int} {s : Int × List Int} (h : s.1 = 0) (hb : b = true) : askS b w s = (w, []) := if_pos ⟨h, hb⟩
theorem askS_good {b : Bool} {w : Int} {s : Int × List Int} (hb : b = false) : askS b w s = s := if_neg fun h1 => by rw [hb] at h1; exact absurd h1.2 (by decide)
theorem askS_zero {b : Bool} {w : Int} {s : Int × List Int} (hw : ¬ w = 0) (h : (askS b w s).1 = 0) : s.1 = 0 ∧ b = false ∧ askS b w s = s := by
  unfold askS at h ⊢
  split at h
  · exact absurd h hw
  · next h1 =>
    refine ⟨h, ?_, if_neg h1⟩
    cases b
    · rfl
    · exact absurd ⟨h, rfl⟩ h1
theorem askS_byt {b : Bool} {w : Int} {s : Int × List Int} (h : Byt s.2) : Byt (askS b w s).2 := by
  unfold askS
  split
  · intro y hy; cases hy
  · exact h
theorem askS_len (b : Bool) (w : Int) (s : Int × List Int) : (askS b w s).2.length ≤ s.2.length := by
  unfold askS
  split
  · simp
  · exact Nat.le_refl _
section
variable (e : Int) (xs : List Int)
abbrev kA : Int := (oneS e xs).1
def kS1 : Int × List Int := askS (!decide (1 ≤ kA e xs ∧ kA e xs ≤ 4)) 3 (oneS e xs).2
abbrev kC : Nat := (numS 65535 (kS1 e xs).1 (kS1 e xs).2).1
def kS2 : Int × List Int := (numS 65535 (kS1 e xs).1 (kS1 e xs).2).2
abbrev kN : List Int := (namS (kS2 e xs).1 (kS2 e xs).2).1
def kS3 : Int × List Int := askS (decide (kN e xs = nm0)) 3 (namS (kS2 e xs).1 (kS2 e xs).2).2
abbrev kR : Int := (oneS (kS3 e xs).1 (kS3 e xs).2).1
def kS4 : Int × List Int := askS (!decide (kR e xs < 16)) 2 (oneS (kS3 e xs).1 (kS3 e xs).2).2
abbrev kQ : Nat := (numS 4294967295 (kS4 e xs).1 (kS4 e xs).2).1
def kS5 : Int × List Int := askS (decide (kQ e xs = 0)) 3 (numS 4294967295 (kS4 e xs).1 (kS4 e xs).2).2
end
section
variable {e : Int} {xs : List Int}
theorem kS1_zero (h : (kS1 e xs).1 = 0) : (oneS e xs).2.1 = 0 ∧ (1 ≤ kA e xs ∧ kA e xs ≤ 4) ∧ kS1 e xs = (oneS e xs).2 := by
  obtain ⟨h1, h2, h3⟩ := askS_zero (by decide) h
  exact ⟨h1, by simpa using h2, h3⟩
theorem kS3_zero (h : (kS3 e xs).1 = 0) : (namS (kS2 e xs).1 (kS2 e xs).2).2.1 = 0 ∧ ¬ kN e xs = nm0 ∧ kS3 e xs = (namS (kS2 e xs).1 (kS2 e xs).2).2 := by
  obtain ⟨h1, h2, h3⟩ := askS_zero (by decide) h
  exact ⟨h1, by simpa using h2, h3⟩
theorem kS4_zero (h : (kS4 e xs).1 = 0) : (oneS (kS3 e xs).1 (kS3 e xs).2).2.1 = 0 ∧ kR e xs < 16 ∧ kS4 e xs = (oneS (kS3 e xs).1 (kS3 e xs).2).2 := by
  obtain ⟨h1, h2, h3⟩ := askS_zero (by decide) h
  exact ⟨h1, by simpa using h2, h3⟩
theorem kS5_zero (h : (kS5 e xs).1 = 0) : (numS 4294967295 (kS4 e xs).1 (kS4 e xs).2).2.1 = 0 ∧ ¬ kQ e xs = 0 ∧ kS5 e xs = (numS 4294967295 (kS4 e xs).1 (kS4 e xs).2).2 := by
  obtain ⟨h1, h2, h3⟩ := askS_zero (by decide) h
  exact ⟨h1, by simpa using h2, h3⟩
theorem kS2_err (h : ¬ (kS1 e xs).1 = 0) : kS2 e xs = kS1 e xs := by rw [kS2, numS_err h]
theorem kS4_err (h : ¬ (kS3 e xs).1 = 0) : kS4 e xs = kS3 e xs := by rw [kS4, oneS_err h, askS_err h]
theorem kN_err (h : ¬ (kS2 e xs).1 = 0) : kS3 e xs = kS2 e xs := by rw [kS3, namS_err h, askS_err h]
theorem kS5_err (h : ¬ (kS4 e xs).1 = 0) : kS5 e xs = kS4 e xs := by rw [kS5, numS_err h, askS_err h]
theorem keyS_1 (h : ¬ (kS1 e xs).1 = 0) : keyS e xs = (key0, kS1 e xs) := by
  unfold keyS
  by_cases h1 : (oneS e xs).2.1 = 0
  · rw [if_pos h1]
    by_cases h2 : 1 ≤ (oneS e xs).1 ∧ (oneS e xs).1 ≤ 4
    · exact absurd (by rw [kS1, askS_good (by rw [decide_eq_true h2]; rfl)]; exact h1) h
    · rw [if_neg h2, kS1, askS_bad h1 (by rw [decide_eq_false h2]; rfl)]
  · rw [if_neg h1, kS1, askS_err h1]
theorem keyS_at2 (h1 : (kS1 e xs).1 = 0) : keyS e xs = (if (kS2 e xs).1 = 0 then (if kA e xs = 4 then (mkKey 4 (kC e xs) nm0 0 0, kS2 e xs) else keyS.keyT (kA e xs) (kC e xs) (kS2 e xs).1 (kS2 e xs).2) else (key0, kS2 e xs)) := by
  obtain ⟨h2, h3, h4⟩ := kS1_zero h1
  unfold keyS
  rw [if_pos h2, if_pos h3]
  rw [kS2, kC, h4]
theorem keyS_2 (h1 : (kS1 e xs).1 = 0) (h2 : ¬ (kS2 e xs).1 = 0) : keyS e xs = (key0, kS2 e xs) := by rw [keyS_at2 h1, if_neg h2]
theorem keyS_3 (h1 : (kS1 e xs).1 = 0) (h2 : (kS2 e xs).1 = 0) (h4 : kA e xs = 4) : keyS e xs = (mkKey 4 (kC e xs) nm0 0 0, kS2 e xs) := by rw [keyS_at2 h1, if_pos h2, if_pos h4]
theorem keyT_at {s : Int} {c : Nat} : keyS.keyT s c (kS2 e xs).1 (kS2 e xs).2 = (if (kS4 e xs).1 = 0 then (if s = 1 then keyS.keyQ c (kN e xs) (kR e xs) (kS4 e xs).1 (kS4 e xs).2 else (mkKey s.toNat c (kN e xs) (kR e xs).toNat 0, kS4 e xs)) else (key0, kS4 e xs)) := by
  unfold keyS.keyT
  by_cases h1 : (namS (kS2 e xs).1 (kS2 e xs).2).2.1 = 0
  · rw [if_pos h1]
    by_cases h2 : kN e xs = nm0
    · have h3 : kS3 e xs = (3, []) := by rw [kS3, askS_bad h1 (by simpa using h2)]
      have h4 : ¬ (kS3 e xs).1 = 0 := by rw [h3]; decide
      rw [if_pos h2, kS4_err h4, if_neg h4, h3]
    · have h3 : kS3 e xs = (namS (kS2 e xs).1 (kS2 e xs).2).2 := by rw [kS3, askS_good (by simpa using h2)]
      rw [if_neg h2, ← h3]
      by_cases h5 : (oneS (kS3 e xs).1 (kS3 e xs).2).2.1 = 0
      · rw [if_pos h5]
        by_cases h6 : 16 ≤ kR e xs
        · have h7 : kS4 e xs = (2, []) := by rw [kS4, askS_bad h5 (by simp; omega)]
          rw [if_pos h6, h7, if_neg (by decide)]
        · have h7 : kS4 e xs = (oneS (kS3 e xs).1 (kS3 e xs).2).2 := by rw [kS4, askS_good (by simp; omega)]
          rw [if_neg h6, h7, if_pos h5]
      · have h7 : kS4 e xs = (oneS (kS3 e xs).1 (kS3 e xs).2).2 := by rw [kS4, askS_err h5]
        rw [if_neg h5, h7, if_neg h5]
  · have h3 : kS3 e xs = (namS (kS2 e xs).1 (kS2 e xs).2).2 := by rw [kS3, askS_err h1]
    have h4 : ¬ (kS3 e xs).1 = 0 := by rw [h3]; exact h1
    rw [if_neg h1, kS4_err h4, if_neg h4, h3]
theorem keyS_4 (h1 : (kS1 e xs).1 = 0) (h2 : (kS2 e xs).1 = 0) (h4 : ¬ kA e xs = 4) (h5 : ¬ (kS4 e xs).1 = 0) : keyS e xs = (key0, kS4 e xs) := by rw [keyS_at2 h1, if_pos h2, if_neg h4, keyT_at, if_neg h5]
theorem keyS_5 (h1 : (kS1 e xs).1 = 0) (h2 : (kS2 e xs).1 = 0) (h4 : ¬ kA e xs = 4) (h5 : (kS4 e xs).1 = 0) (h6 : ¬ kA e xs = 1) : keyS e xs = (mkKey (kA e xs).toNat (kC e xs) (kN e xs) (kR e xs).toNat 0, kS4 e xs) := by rw [keyS_at2 h1, if_pos h2, if_neg h4, keyT_at, if_pos h5, if_neg h6]
theorem keyS_at6 (h1 : (kS1 e xs).1 = 0) (h2 : (kS2 e xs).1 = 0) (h5 : (kS4 e xs).1 = 0) (h6 : kA e xs = 1) : keyS e xs = (if (kS5 e xs).1 = 0 then (mkKey 1 (kC e xs) (kN e xs) (kR e xs).toNat (kQ e xs), kS5 e xs) else (key0, kS5 e xs)) := by
  rw [keyS_at2 h1, if_pos h2, if_neg (by omega), keyT_at, if_pos h5, if_pos h6]
  unfold keyS.keyQ
  by_cases h7 : (numS 4294967295 (kS4 e xs).1 (kS4 e xs).2).2.1 = 0
  · rw [if_pos h7]
    by_cases h8 : kQ e xs = 0
    · have h9 : kS5 e xs = (3, []) := by rw [kS5, askS_bad h7 (by simpa using h8)]
      rw [if_pos h8, h9, if_neg (by decide)]
    · have h9 : kS5 e xs = (numS 4294967295 (kS4 e xs).1 (kS4 e xs).2).2 := by rw [kS5, askS_good (by simpa using h8)]
      rw [if_neg h8, h9, if_pos h7]
  · have h9 : kS5 e xs = (numS 4294967295 (kS4 e xs).1 (kS4 e xs).2).2 := by rw [kS5, askS_err h7]
    rw [if_neg h7, h9, if_neg h7]
theorem keyS_6 (h1 : (kS1 e xs).1 = 0) (h2 : (kS2 e xs).1 = 0) (h5 : (kS4 e xs).1 = 0) (h6 : kA e xs = 1) (h7 : ¬ (kS5 e xs).1 = 0) : keyS e xs = (key0, kS5 e xs) := by rw [keyS_at6 h1 h2 h5 h6, if_neg h7]
theorem keyS_7 (h1 : (kS1 e xs).1 = 0) (h2 : (kS2 e xs).1 = 0) (h5 : (kS4 e xs).1 = 0) (h6 : kA e xs = 1) (h7 : (kS5 e xs).1 = 0) : keyS e xs = (mkKey 1 (kC e xs) (kN e xs) (kR e xs).toNat (kQ e xs), kS5 e xs) := by rw [keyS_at6 h1 h2 h5 h6, if_pos h7]
theorem namS_zero {e : Int} {xs : List Int} (h : (namS e xs).2.1 = 0) : e = 0 := Decidable.byContradiction fun he => by rw [namS_err he] at h; exact he h
theorem numS_zero {m : Nat} {e : Int} {xs : List Int} (h : (numS m e xs).2.1 = 0) : e = 0 := Decidable.byContradiction fun he => by rw [numS_err he] at h; exact he h
theorem oneS_zero {e : Int} {xs : List Int} (h : (oneS e xs).2.1 = 0) : e = 0 := Decidable.byContradiction fun he => by rw [oneS_err he] at h; exact he h
theorem kS2_0 (h : (kS2 e xs).1 = 0) : (kS1 e xs).1 = 0 := numS_zero h
theorem kS4_0 (h : (kS4 e xs).1 = 0) : (kS1 e xs).1 = 0 ∧ (kS2 e xs).1 = 0 ∧ (kS3 e xs).1 = 0 := by
  have h3 := oneS_zero (kS4_zero h).1
  have h2 := namS_zero (kS3_zero h3).1
  exact ⟨kS2_0 h2, h2, h3⟩
theorem keyS_e2 (h : ¬ (kS2 e xs).1 = 0) : keyS e xs = (key0, kS2 e xs) := by
  by_cases h1 : (kS1 e xs).1 = 0
  · exact keyS_2 h1 h
  · rw [kS2_err h1]; exact keyS_1 h1
theorem keyS_e4 (h4 : ¬ kA e xs = 4) (h5 : ¬ (kS4 e xs).1 = 0) : keyS e xs = (key0, kS4 e xs) := by
  by_cases h2 : (kS2 e xs).1 = 0
  · exact keyS_4 (kS2_0 h2) h2 h4 h5
  · have h3 := kN_err h2
    rw [kS4_err (by rw [h3]; exact h2), h3]; exact keyS_e2 h2
theorem keyS_e5 (h6 : kA e xs = 1) (h7 : ¬ (kS5 e xs).1 = 0) : keyS e xs = (key0, kS5 e xs) := by
  by_cases h5 : (kS4 e xs).1 = 0
  · obtain ⟨h1, h2, _⟩ := kS4_0 h5
    exact keyS_6 h1 h2 h5 h6 h7
  · rw [kS5_err h5]; exact keyS_e4 (by omega) h5
theorem kS1_byt (h : Byt xs) : Byt (kS1 e xs).2 := askS_byt (oneS_byt h)
theorem kS2_byt (h : Byt xs) : Byt (kS2 e xs).2 := numS_byt (kS1_byt h)
theorem kS3_byt (h : Byt xs) : Byt (kS3 e xs).2 := askS_byt (namS_byt' (kS2_byt h))
theorem kS4_byt (h : Byt xs) : Byt (kS4 e xs).2 := askS_byt (oneS_byt (kS3_byt h))
theorem kS5_byt (h : Byt xs) : Byt (kS5 e xs).2 := askS_byt (numS_byt (kS4_byt h))
theorem kS1_len : (kS1 e xs).2.length ≤ xs.length := Nat.le_trans (askS_len _ _ _) (oneS_len _ _)
theorem kS2_len : (kS2 e xs).2.length ≤ xs.length := Nat.le_trans (numS_len _ _ _) kS1_len
theorem kS3_len : (kS3 e xs).2.length ≤ xs.length := Nat.le_trans (askS_len _ _ _) (Nat.le_trans (namS_len' _ _) kS2_len)
theorem kS4_len : (kS4 e xs).2.length ≤ xs.length := Nat.le_trans (askS_len _ _ _) (Nat.le_trans (oneS_len _ _) kS3_len)
theorem kS5_len : (kS5 e xs).2.length ≤ xs.length := Nat.le_trans (askS_len _ _ _) (Nat.le_trans (numS_len _ _ _) kS4_len)
theorem keyS_byt (h : Byt xs) : Byt (keyS e xs).2.2 := by
  by_cases h1 : (kS1 e xs).1 = 0
  · by_cases h2 : (kS2 e xs).1 = 0
    · by_cases h4 : kA e xs = 4
      · rw [keyS_3 h1 h2 h4]; exact kS2_byt h
      · by_cases h5 : (kS4 e xs).1 = 0
        · by_cases h6 : kA e xs = 1
          · by_cases h7 : (kS5 e xs).1 = 0
            · rw [keyS_7 h1 h2 h5 h6 h7]; exact kS5_byt h
            · rw [keyS_6 h1 h2 h5 h6 h7]; exact kS5_byt h
          · rw [keyS_5 h1 h2 h4 h5 h6]; exact kS4_byt h
        · rw [keyS_4 h1 h2 h4 h5]; exact kS4_byt h
    · rw [keyS_2 h1 h2]; exact kS2_byt h
  · rw [keyS_1 h1]; exact kS1_byt h
theorem keyS_len : (keyS e xs).2.2.length ≤ xs.length := by
  by_cases h1 : (kS1 e xs).1 = 0
  · by_cases h2 : (kS2 e xs).1 = 0
    · by_cases h4 : kA e xs = 4
      · rw [keyS_3 h1 h2 h4]; exact kS2_len
      · by_cases h5 : (kS4 e xs).1 = 0
        · by_cases h6 : kA e xs = 1
          · by_cases h7 : (kS5 e xs).1 = 0
            · rw [keyS_7 h1 h2 h5 h6 h7]; exact kS5_len
            · rw [keyS_6 h1 h2 h5 h6 h7]; exact kS5_len
          · rw [keyS_5 h1 h2 h4 h5 h6]; exact kS4_len
        · rw [keyS_4 h1 h2 h4 h5]; exact kS4_len
    · rw [keyS_2 h1 h2]; exact kS2_len
  · rw [keyS_1 h1]; exact kS1_len
end
end Go.Proofs.YtpjpaipkkcengaaGreat
set_option linter.unusedSimpArgs false
set_option linter.unusedVariables false
set_option maxHeartbeats 800000
set_option maxRecDepth 100000
namespace Go.Proofs.YtpjpaipkkcengaaGreat
open Go.RowKit

theorem rgt_a {p q : Prop} [Decidable p] [Decidable q] {b : Bool} (h : ¬ p) : false = (decide p && b && decide q) := by simp [h]
theorem rgt_b {p q : Prop} [Decidable p] [Decidable q] {b : Bool} (h : b = false) : false = (decide p && b && decide q) := by simp [h]
theorem rgt_c {p q q' : Prop} [Decidable p] [Decidable q] [Decidable q'] {b : Bool} (h : p) (hb : b = true) (hq : q' ↔ q) : decide q' = (decide p && b && decide q) := by simp [h, hb, hq]
theorem rgt_d {p p' q : Prop} [Decidable p] [Decidable p'] [Decidable q] {b : Bool} (h : q) (hb : b = true) (hq : p' ↔ p) : decide p' = (decide p && b && decide q) := by simp [h, hb, hq]
theorem rgt_e {p q : Prop} [Decidable p] [Decidable q] {b : Bool} (h : ¬ q) : false = (decide p && b && decide q) := by simp [h]
theorem c_keyRight (x : List Int) (hk : KeyOk x)  (w0 : World) :
    CallR Tryz.prog 31 #[.agg (KA x)] w0 fun v w' => v = .bool (keyR x) ∧ Ext w0 w' := by
 have hS : St NoB w0 w0 [] := St.start w0
 refine c_enter (l := [.agg (KA x), undef, undef, undef, undef, undef, undef, undef, undef, undef, undef, undef, undef, undef, undef, undef, undef, undef, undef, undef, undef, undef, undef, undef, undef, undef, undef, undef, undef, undef, undef, undef, undef, undef, undef, undef, undef, undef, undef, undef, undef, undef, undef, undef, undef, undef, undef]) Tryz.func31 rfl (by simp only [Tryz.ntmps31, List.size_toArray, List.length_cons, List.length_nil, Nat.reduceAdd, Nat.reduceSub, Array.replicate_succ, Array.replicate_zero, List.push_toArray, List.append_toArray, List.nil_append, List.cons_append]) ?_
 refine x_seq fun K1 hK1 => ?_
 refine x_region ?_
 have hkl := hk.len
 have hb0 := hk.b0
 have hb1 := hk.b1
 have hb10 := hk.b10
 have hb11 := hk.b11
 have hil := kitem_len hk.len
 have hib := hk.item
 refine m_box hS (fun w1 g1 hS => ?_)
 try simp only [opv, nZ, Value.cells, Array.toArray_toList] at hS ⊢
 refine s_go (s_assign) ?_
 try simp only [opv, nZ, Value.cells]
 refine x_nil ?_
 refine hK1 _ _ ?_
 refine x_seq fun K2 hK2 => ?_
 refine x_region ?_
 refine s_go (m_fieldAddr Tryz.underlying27 (hi := ti5)) ?_
 try simp only [opv, nZ, Value.cells, Nat.zero_add, Nat.add_zero, List.getElem_toArray, List.getElem_cons_zero, List.getElem_cons_succ]
 refine s_go (m_load_obj Tryz.underlying5 (hS := hS) (hv := by exact zi_get rfl (by omega))) ?_
 try simp only [opv, nZ, Value.cells, List.getElem_toArray, List.getElem_cons_zero, List.getElem_cons_succ]
 rw [hk.e0]
 refine s_go (m_fieldAddr Tryz.underlying27 (hi := ti22)) ?_
 try simp only [opv, nZ, Value.cells, Nat.zero_add, Nat.add_zero, List.getElem_toArray, List.getElem_cons_zero, List.getElem_cons_succ]
 refine s_go (m_load_obj Tryz.underlying22 (hS := hS) (hv := by exact zi_get rfl (by omega))) ?_
 try simp only [opv, nZ, Value.cells, List.getElem_toArray, List.getElem_cons_zero, List.getElem_cons_succ]
 rw [hk.e1]
 refine s_go (s_build_struct (cells := #[_, _, .int .u8 0, .int .u8 0, .int .u8 0, .int .u8 0, .int .u8 0, .int .u8 0, .int .u8 0, .int .u8 0, .int .u8 0, .int .u32 0]) Tryz.underlying27 ti27 bp27 (hc := by simp only [List.map_toArray, List.map_cons, List.map_nil, opv, nZ, Value.cells, List.toList_toArray]; (repeat (refine fill_cons rfl rfl (Nat.le_of_ble_eq_true rfl) ?_)); rfl)) ?_
 try simp only [opv, nZ, Value.cells]
 rw [show (#[.int .u8 (kn x 0 : Int), .int .u16 (kn x 1 : Int), .int .u8 0, .int .u8 0, .int .u8 0, .int .u8 0, .int .u8 0, .int .u8 0, .int .u8 0, .int .u8 0, .int .u8 0, .int .u32 0] : Array Value) = KA (bareK x) from rfl]
 have hbl : (bareK x).length = 12 := rfl
 refine m_alloc ti27 hS (fun w2 g2 hS => ?_)
 try simp only [opv, nZ, Value.cells, Array.toArray_toList] at hS ⊢
 refine m_store_obj ti27 (hS := hS) (hc := by (exact splice_whole (by rfl))) (hv := by rfl) (hfit := by (simp only [ic_size, List.length_map, List.size_toArray]; decide)) (h1 := by exact zi_one _ _) (h := fun w3 hS => ?_)
 try simp only [opv, nZ, Value.cells, Array.toArray_toList] at hS ⊢
 have hS : St NoB w0 w3 [.obj g2 (.cells (KA (bareK x)) 27 (0, 0)), .obj g1 (.cells (KA x) 27 (0, 0))] := hS
 refine x_nil ?_
 refine hK2 _ _ ?_
 refine x_seq fun K3 hK3 => ?_
 refine x_seq fun K4 hK4 => ?_
 refine x_region ?_
 refine s_go (m_fieldAddr Tryz.underlying27 (hi := ti5)) ?_
 try simp only [opv, nZ, Value.cells, Nat.zero_add, Nat.add_zero, List.getElem_toArray, List.getElem_cons_zero, List.getElem_cons_succ]
 refine s_go (m_load_obj Tryz.underlying5 (hS := hS) (hv := by exact zi_get rfl (by omega))) ?_
 try simp only [opv, nZ, Value.cells, List.getElem_toArray, List.getElem_cons_zero, List.getElem_cons_succ]
 rw [hk.e0]
 refine x_nil ?_
 refine hK4 _ _ ?_
 refine x_block ?_
 refine x_seq fun K5 hK5 => ?_
 refine x_region ?_
 refine s_go (s_eql) ?_
 try simp only [opv, nZ, Value.cells]
 refine s_go (s_assign) ?_
 try simp only [opv, nZ, Value.cells]
 refine x_nil ?_
 refine hK5 _ _ ?_
 refine x_cond (ht := fun hc1 => ?_) (hf := fun hc1 => ?_)
 ·
  try simp only [decide_eq_true_eq, decide_eq_false_iff_not, Bool.not_eq_true', Bool.not_eq_false', Int.not_lt, Int.not_le, ne_eq, Decidable.not_not, bne_iff_ne, beq_iff_eq, not_true_eq_false, not_false_eq_true] at hc1
  have hR : keyR x = decide (x = bareK x) := by rw [keyR, if_pos (by omega)]
  refine x_seq fun K6 hK6 => ?_
  refine x_region ?_
  refine s_go (m_load_row Tryz.underlying27 (hi := ti27) (hS := hS) (hfit := by (rw [zi_size (by omega)]; rfl))) ?_
  try simp only [opv, nZ, Value.cells, List.getElem_toArray, List.getElem_cons_zero, List.getElem_cons_succ]
  refine s_go (m_load_row Tryz.underlying27 (hi := ti27) (hS := hS) (hfit := by (rw [zi_size (by omega)]; rfl))) ?_
  try simp only [opv, nZ, Value.cells, List.getElem_toArray, List.getElem_cons_zero, List.getElem_cons_succ]
  refine s_go (s_eql_agg eqv27 (hg := eg27) (hX := rfl) (hY := rfl) (h1 := by assumption) (h2 := by assumption)) ?_
  try simp only [opv, nZ, Value.cells]
  refine s_go (s_assign) ?_
  try simp only [opv, nZ, Value.cells]
  refine x_nil ?_
  refine hK6 _ _ ?_
  refine x_ret ?_
  refine r_tmp rfl ?_
  exact ⟨by rw [hR]; rfl, hS.ext_of⟩
 ·
  try simp only [decide_eq_true_eq, decide_eq_false_iff_not, Bool.not_eq_true', Bool.not_eq_false', Int.not_lt, Int.not_le, ne_eq, Decidable.not_not, bne_iff_ne, beq_iff_eq, not_true_eq_false, not_false_eq_true] at hc1
  refine x_seq fun K7 hK7 => ?_
  refine x_region ?_
  refine s_go (s_eql) ?_
  try simp only [opv, nZ, Value.cells]
  refine s_go (s_assign) ?_
  try simp only [opv, nZ, Value.cells]
  refine x_nil ?_
  refine hK7 _ _ ?_
  refine x_cond (ht := fun hc2 => ?_) (hf := fun hc2 => ?_)
  ·
   try simp only [decide_eq_true_eq, decide_eq_false_iff_not, Bool.not_eq_true', Bool.not_eq_false', Int.not_lt, Int.not_le, ne_eq, Decidable.not_not, bne_iff_ne, beq_iff_eq, not_true_eq_false, not_false_eq_true] at hc2
   have hR : keyR x = (decide (kn x 11 ≠ 0) && nright (kitem x) && decide (kn x 10 < 16)) := by rw [keyR, if_neg (by omega), if_pos (by omega)]
   refine x_seq fun K8 hK8 => ?_
   refine x_region ?_
   refine s_go (m_fieldAddr Tryz.underlying27 (hi := ti25)) ?_
   try simp only [opv, nZ, Value.cells, Nat.zero_add, Nat.add_zero, List.getElem_toArray, List.getElem_cons_zero, List.getElem_cons_succ]
   refine s_go (m_load_obj Tryz.underlying25 (hS := hS) (hv := by exact zi_get rfl (by omega))) ?_
   try simp only [opv, nZ, Value.cells, List.getElem_toArray, List.getElem_cons_zero, List.getElem_cons_succ]
   rw [hk.e11]
   refine s_go (s_neq) ?_
   try simp only [opv, nZ, Value.cells]
   refine s_go (s_move) ?_
   try simp only [opv, nZ, Value.cells]
   refine s_part 21 rfl (fun hp1 => ?_) (fun hp1 => ?_)
   ·
    try simp only [n3, n4]
    try simp only [decide_eq_true_eq, decide_eq_false_iff_not, Bool.not_eq_true', Bool.not_eq_false', Int.not_lt, Int.not_le, ne_eq, Decidable.not_not] at hp1
    refine g_on (yi (t := 21) rfl rfl) ?_
    refine s_go (m_fieldAddr Tryz.underlying27 (hi := ti24)) ?_
    try simp only [opv, nZ, Value.cells, Nat.zero_add, Nat.add_zero, List.getElem_toArray, List.getElem_cons_zero, List.getElem_cons_succ]
    refine g_on (yi (t := 21) rfl rfl) ?_
    refine s_go (m_loada_obj Tryz.underlying24 (hi := ti24) (hS := hS) (hfit := by (rw [zi_size (by omega)]; decide))) ?_
    try simp only [opv, nZ, Value.cells, List.getElem_toArray, List.getElem_cons_zero, List.getElem_cons_succ]
    rw [key_item hkl]
    refine g_on (yi (t := 21) rfl rfl) ?_
    refine s_call en64 ?_
    try simp only [opv, nZ, Value.cells, List.map_toArray, List.map_cons, List.map_nil, List.append_toArray, List.cons_append, List.nil_append, Array.append_empty]
    refine CallR.mono (c_nameRight _ hil hib _) ?_
    rintro _ w4 ⟨rfl, hE4⟩
    replace hS := hS.ext hE4
    try simp only [opv, nZ, Value.cells]
    refine s_go (s_pick_t) ?_
    try simp only [opv, nZ, Value.cells]
    refine s_go (s_move) ?_
    try simp only [opv, nZ, Value.cells]
    refine s_part 26 rfl (fun hp2 => ?_) (fun hp2 => ?_)
    ·
     try simp only [n3, n4]
     try simp only [decide_eq_true_eq, decide_eq_false_iff_not, Bool.not_eq_true', Bool.not_eq_false', Int.not_lt, Int.not_le, ne_eq, Decidable.not_not] at hp2
     refine g_on (yi (t := 26) rfl rfl) ?_
     refine s_go (m_fieldAddr Tryz.underlying27 (hi := ti5)) ?_
     try simp only [opv, nZ, Value.cells, Nat.zero_add, Nat.add_zero, List.getElem_toArray, List.getElem_cons_zero, List.getElem_cons_succ]
     refine g_on (yi (t := 26) rfl rfl) ?_
     refine s_go (m_load_obj Tryz.underlying5 (hS := hS) (hv := by exact zi_get rfl (by omega))) ?_
     try simp only [opv, nZ, Value.cells, List.getElem_toArray, List.getElem_cons_zero, List.getElem_cons_succ]
     rw [hk.e10]
     refine g_on (yi (t := 26) rfl rfl) ?_
     refine s_go (s_lss) ?_
     try simp only [opv, nZ, Value.cells]
     refine s_go (s_pick_t) ?_
     try simp only [opv, nZ, Value.cells]
     refine s_go (s_assign) ?_
     try simp only [opv, nZ, Value.cells]
     refine x_nil ?_
     refine hK8 _ _ ?_
     refine x_ret ?_
     refine r_tmp rfl ?_
     exact ⟨congrArg Value.bool (by rw [hR]; exact rgt_c (by omega) (by assumption) (by omega)), hS.ext_of⟩
    ·
     try simp only [n3, n4]
     try simp only [decide_eq_true_eq, decide_eq_false_iff_not, Bool.not_eq_true', Bool.not_eq_false', Int.not_lt, Int.not_le, ne_eq, Decidable.not_not] at hp2
     refine g_off (yi (t := 26) rfl rfl) ?_
     try simp only [opv, nZ, Value.cells]
     refine g_off (yi (t := 26) rfl rfl) ?_
     try simp only [opv, nZ, Value.cells]
     refine g_off (yi (t := 26) rfl rfl) ?_
     try simp only [opv, nZ, Value.cells]
     refine s_go (s_pick_f) ?_
     try simp only [opv, nZ, Value.cells]
     refine s_go (s_assign) ?_
     try simp only [opv, nZ, Value.cells]
     refine x_nil ?_
     refine hK8 _ _ ?_
     refine x_ret ?_
     refine r_tmp rfl ?_
     exact ⟨congrArg Value.bool (by rw [hR]; exact rgt_b (by assumption)), hS.ext_of⟩
   ·
    try simp only [n3, n4]
    try simp only [decide_eq_true_eq, decide_eq_false_iff_not, Bool.not_eq_true', Bool.not_eq_false', Int.not_lt, Int.not_le, ne_eq, Decidable.not_not] at hp1
    refine g_off (yi (t := 21) rfl rfl) ?_
    try simp only [opv, nZ, Value.cells]
    refine g_off (yi (t := 21) rfl rfl) ?_
    try simp only [opv, nZ, Value.cells]
    refine g_off (yi (t := 21) rfl rfl) ?_
    try simp only [opv, nZ, Value.cells]
    refine s_go (s_pick_f) ?_
    try simp only [opv, nZ, Value.cells]
    refine s_go (s_move) ?_
    try simp only [opv, nZ, Value.cells]
    refine g_off (yi (t := 26) rfl rfl) ?_
    try simp only [opv, nZ, Value.cells]
    refine g_off (yi (t := 26) rfl rfl) ?_
    try simp only [opv, nZ, Value.cells]
    refine g_off (yi (t := 26) rfl rfl) ?_
    try simp only [opv, nZ, Value.cells]
    refine s_go (s_pick_f) ?_
    try simp only [opv, nZ, Value.cells]
    refine s_go (s_assign) ?_
    try simp only [opv, nZ, Value.cells]
    refine x_nil ?_
    refine hK8 _ _ ?_
    refine x_ret ?_
    refine r_tmp rfl ?_
    exact ⟨congrArg Value.bool (by rw [hR]; exact rgt_a (by omega)), hS.ext_of⟩
  ·
   try simp only [decide_eq_true_eq, decide_eq_false_iff_not, Bool.not_eq_true', Bool.not_eq_false', Int.not_lt, Int.not_le, ne_eq, Decidable.not_not, bne_iff_ne, beq_iff_eq, not_true_eq_false, not_false_eq_true] at hc2
   refine x_seq fun K9 hK9 => ?_
   refine x_seq fun K10 hK10 => ?_
   refine x_region ?_
   refine s_go (s_eql) ?_
   try simp only [opv, nZ, Value.cells]
   refine s_go (s_assign) ?_
   try simp only [opv, nZ, Value.cells]
   refine x_nil ?_
   refine hK10 _ _ ?_
   refine x_cond (ht := fun hc3 => ?_) (hf := fun hc3 => ?_)
   ·
    try simp only [decide_eq_true_eq, decide_eq_false_iff_not, Bool.not_eq_true', Bool.not_eq_false', Int.not_lt, Int.not_le, ne_eq, Decidable.not_not, bne_iff_ne, beq_iff_eq, not_true_eq_false, not_false_eq_true] at hc3
    try have hR : keyR x = (decide (kn x 11 = 0) && nright (kitem x) && decide (kn x 10 < 16)) := by rw [keyR, if_neg (by omega), if_neg (by omega), if_pos (by omega)]
    refine x_skip ?_
    refine hK9 _ _ ?_
    refine x_cond (ht := fun hc4 => ?_) (hf := fun hc4 => ?_)
    ·
     try simp only [decide_eq_true_eq, decide_eq_false_iff_not, Bool.not_eq_true', Bool.not_eq_false', Int.not_lt, Int.not_le, ne_eq, Decidable.not_not, bne_iff_ne, beq_iff_eq, not_true_eq_false, not_false_eq_true] at hc4
     try have hR : keyR x = (decide (kn x 11 = 0) && nright (kitem x) && decide (kn x 10 < 16)) := by rw [keyR, if_neg (by omega), if_neg (by omega), if_pos (by omega)]
     refine x_seq fun K11 hK11 => ?_
     refine x_region ?_
     refine s_go (m_fieldAddr Tryz.underlying27 (hi := ti25)) ?_
     try simp only [opv, nZ, Value.cells, Nat.zero_add, Nat.add_zero, List.getElem_toArray, List.getElem_cons_zero, List.getElem_cons_succ]
     refine s_go (m_load_obj Tryz.underlying25 (hS := hS) (hv := by exact zi_get rfl (by omega))) ?_
     try simp only [opv, nZ, Value.cells, List.getElem_toArray, List.getElem_cons_zero, List.getElem_cons_succ]
     rw [hk.e11]
     refine s_go (s_eql) ?_
     try simp only [opv, nZ, Value.cells]
     refine s_go (s_move) ?_
     try simp only [opv, nZ, Value.cells]
     refine s_part 37 rfl (fun hp3 => ?_) (fun hp3 => ?_)
     ·
      try simp only [n3, n4]
      try simp only [decide_eq_true_eq, decide_eq_false_iff_not, Bool.not_eq_true', Bool.not_eq_false', Int.not_lt, Int.not_le, ne_eq, Decidable.not_not] at hp3
      refine g_on (yi (t := 37) rfl rfl) ?_
      refine s_go (m_fieldAddr Tryz.underlying27 (hi := ti24)) ?_
      try simp only [opv, nZ, Value.cells, Nat.zero_add, Nat.add_zero, List.getElem_toArray, List.getElem_cons_zero, List.getElem_cons_succ]
      refine g_on (yi (t := 37) rfl rfl) ?_
      refine s_go (m_loada_obj Tryz.underlying24 (hi := ti24) (hS := hS) (hfit := by (rw [zi_size (by omega)]; decide))) ?_
      try simp only [opv, nZ, Value.cells, List.getElem_toArray, List.getElem_cons_zero, List.getElem_cons_succ]
      rw [key_item hkl]
      refine g_on (yi (t := 37) rfl rfl) ?_
      refine s_call en64 ?_
      try simp only [opv, nZ, Value.cells, List.map_toArray, List.map_cons, List.map_nil, List.append_toArray, List.cons_append, List.nil_append, Array.append_empty]
      refine CallR.mono (c_nameRight _ hil hib _) ?_
      rintro _ w5 ⟨rfl, hE5⟩
      replace hS := hS.ext hE5
      try simp only [opv, nZ, Value.cells]
      refine s_go (s_pick_t) ?_
      try simp only [opv, nZ, Value.cells]
      refine s_go (s_move) ?_
      try simp only [opv, nZ, Value.cells]
      refine s_part 42 rfl (fun hp4 => ?_) (fun hp4 => ?_)
      ·
       try simp only [n3, n4]
       try simp only [decide_eq_true_eq, decide_eq_false_iff_not, Bool.not_eq_true', Bool.not_eq_false', Int.not_lt, Int.not_le, ne_eq, Decidable.not_not] at hp4
       refine g_on (yi (t := 42) rfl rfl) ?_
       refine s_go (m_fieldAddr Tryz.underlying27 (hi := ti5)) ?_
       try simp only [opv, nZ, Value.cells, Nat.zero_add, Nat.add_zero, List.getElem_toArray, List.getElem_cons_zero, List.getElem_cons_succ]
       refine g_on (yi (t := 42) rfl rfl) ?_
       refine s_go (m_load_obj Tryz.underlying5 (hS := hS) (hv := by exact zi_get rfl (by omega))) ?_
       try simp only [opv, nZ, Value.cells, List.getElem_toArray, List.getElem_cons_zero, List.getElem_cons_succ]
       rw [hk.e10]
       refine g_on (yi (t := 42) rfl rfl) ?_
       refine s_go (s_lss) ?_
       try simp only [opv, nZ, Value.cells]
       refine s_go (s_pick_t) ?_
       try simp only [opv, nZ, Value.cells]
       refine s_go (s_assign) ?_
       try simp only [opv, nZ, Value.cells]
       refine x_nil ?_
       refine hK11 _ _ ?_
       refine x_ret ?_
       refine r_tmp rfl ?_
       exact ⟨congrArg Value.bool (by rw [hR]; exact rgt_c (by omega) (by assumption) (by omega)), hS.ext_of⟩
      ·
       try simp only [n3, n4]
       try simp only [decide_eq_true_eq, decide_eq_false_iff_not, Bool.not_eq_true', Bool.not_eq_false', Int.not_lt, Int.not_le, ne_eq, Decidable.not_not] at hp4
       refine g_off (yi (t := 42) rfl rfl) ?_
       try simp only [opv, nZ, Value.cells]
       refine g_off (yi (t := 42) rfl rfl) ?_
       try simp only [opv, nZ, Value.cells]
       refine g_off (yi (t := 42) rfl rfl) ?_
       try simp only [opv, nZ, Value.cells]
       refine s_go (s_pick_f) ?_
       try simp only [opv, nZ, Value.cells]
       refine s_go (s_assign) ?_
       try simp only [opv, nZ, Value.cells]
       refine x_nil ?_
       refine hK11 _ _ ?_
       refine x_ret ?_
       refine r_tmp rfl ?_
       exact ⟨congrArg Value.bool (by rw [hR]; exact rgt_b (by assumption)), hS.ext_of⟩
     ·
      try simp only [n3, n4]
      try simp only [decide_eq_true_eq, decide_eq_false_iff_not, Bool.not_eq_true', Bool.not_eq_false', Int.not_lt, Int.not_le, ne_eq, Decidable.not_not] at hp3
      refine g_off (yi (t := 37) rfl rfl) ?_
      try simp only [opv, nZ, Value.cells]
      refine g_off (yi (t := 37) rfl rfl) ?_
      try simp only [opv, nZ, Value.cells]
      refine g_off (yi (t := 37) rfl rfl) ?_
      try simp only [opv, nZ, Value.cells]
      refine s_go (s_pick_f) ?_
      try simp only [opv, nZ, Value.cells]
      refine s_go (s_move) ?_
      try simp only [opv, nZ, Value.cells]
      refine g_off (yi (t := 42) rfl rfl) ?_
      try simp only [opv, nZ, Value.cells]
      refine g_off (yi (t := 42) rfl rfl) ?_
      try simp only [opv, nZ, Value.cells]
      refine g_off (yi (t := 42) rfl rfl) ?_
      try simp only [opv, nZ, Value.cells]
      refine s_go (s_pick_f) ?_
      try simp only [opv, nZ, Value.cells]
      refine s_go (s_assign) ?_
      try simp only [opv, nZ, Value.cells]
      refine x_nil ?_
      refine hK11 _ _ ?_
      refine x_ret ?_
      refine r_tmp rfl ?_
      exact ⟨congrArg Value.bool (by rw [hR]; exact rgt_a (by omega)), hS.ext_of⟩
    ·
     try simp only [decide_eq_true_eq, decide_eq_false_iff_not, Bool.not_eq_true', Bool.not_eq_false', Int.not_lt, Int.not_le, ne_eq, Decidable.not_not, bne_iff_ne, beq_iff_eq, not_true_eq_false, not_false_eq_true] at hc4
     (exfalso; omega)
   ·
    try simp only [decide_eq_true_eq, decide_eq_false_iff_not, Bool.not_eq_true', Bool.not_eq_false', Int.not_lt, Int.not_le, ne_eq, Decidable.not_not, bne_iff_ne, beq_iff_eq, not_true_eq_false, not_false_eq_true] at hc3
    try have hR : keyR x = false := by rw [keyR, if_neg (by omega), if_neg (by omega), if_neg (by omega)]
    refine x_region ?_
    refine s_go (s_eql) ?_
    try simp only [opv, nZ, Value.cells]
    refine s_go (s_assign) ?_
    try simp only [opv, nZ, Value.cells]
    refine x_nil ?_
    refine hK9 _ _ ?_
    refine x_cond (ht := fun hc5 => ?_) (hf := fun hc5 => ?_)
    ·
     try simp only [decide_eq_true_eq, decide_eq_false_iff_not, Bool.not_eq_true', Bool.not_eq_false', Int.not_lt, Int.not_le, ne_eq, Decidable.not_not, bne_iff_ne, beq_iff_eq, not_true_eq_false, not_false_eq_true] at hc5
     try have hR : keyR x = (decide (kn x 11 = 0) && nright (kitem x) && decide (kn x 10 < 16)) := by rw [keyR, if_neg (by omega), if_neg (by omega), if_pos (by omega)]
     refine x_seq fun K13 hK13 => ?_
     refine x_region ?_
     refine s_go (m_fieldAddr Tryz.underlying27 (hi := ti25)) ?_
     try simp only [opv, nZ, Value.cells, Nat.zero_add, Nat.add_zero, List.getElem_toArray, List.getElem_cons_zero, List.getElem_cons_succ]
     refine s_go (m_load_obj Tryz.underlying25 (hS := hS) (hv := by exact zi_get rfl (by omega))) ?_
     try simp only [opv, nZ, Value.cells, List.getElem_toArray, List.getElem_cons_zero, List.getElem_cons_succ]
     rw [hk.e11]
     refine s_go (s_eql) ?_
     try simp only [opv, nZ, Value.cells]
     refine s_go (s_move) ?_
     try simp only [opv, nZ, Value.cells]
     refine s_part 37 rfl (fun hp5 => ?_) (fun hp5 => ?_)
     ·
      try simp only [n3, n4]
      try simp only [decide_eq_true_eq, decide_eq_false_iff_not, Bool.not_eq_true', Bool.not_eq_false', Int.not_lt, Int.not_le, ne_eq, Decidable.not_not] at hp5
      refine g_on (yi (t := 37) rfl rfl) ?_
      refine s_go (m_fieldAddr Tryz.underlying27 (hi := ti24)) ?_
      try simp only [opv, nZ, Value.cells, Nat.zero_add, Nat.add_zero, List.getElem_toArray, List.getElem_cons_zero, List.getElem_cons_succ]
      refine g_on (yi (t := 37) rfl rfl) ?_
      refine s_go (m_loada_obj Tryz.underlying24 (hi := ti24) (hS := hS) (hfit := by (rw [zi_size (by omega)]; decide))) ?_
      try simp only [opv, nZ, Value.cells, List.getElem_toArray, List.getElem_cons_zero, List.getElem_cons_succ]
      rw [key_item hkl]
      refine g_on (yi (t := 37) rfl rfl) ?_
      refine s_call en64 ?_
      try simp only [opv, nZ, Value.cells, List.map_toArray, List.map_cons, List.map_nil, List.append_toArray, List.cons_append, List.nil_append, Array.append_empty]
      refine CallR.mono (c_nameRight _ hil hib _) ?_
      rintro _ w6 ⟨rfl, hE6⟩
      replace hS := hS.ext hE6
      try simp only [opv, nZ, Value.cells]
      refine s_go (s_pick_t) ?_
      try simp only [opv, nZ, Value.cells]
      refine s_go (s_move) ?_
      try simp only [opv, nZ, Value.cells]
      refine s_part 42 rfl (fun hp6 => ?_) (fun hp6 => ?_)
      ·
       try simp only [n3, n4]
       try simp only [decide_eq_true_eq, decide_eq_false_iff_not, Bool.not_eq_true', Bool.not_eq_false', Int.not_lt, Int.not_le, ne_eq, Decidable.not_not] at hp6
       refine g_on (yi (t := 42) rfl rfl) ?_
       refine s_go (m_fieldAddr Tryz.underlying27 (hi := ti5)) ?_
       try simp only [opv, nZ, Value.cells, Nat.zero_add, Nat.add_zero, List.getElem_toArray, List.getElem_cons_zero, List.getElem_cons_succ]
       refine g_on (yi (t := 42) rfl rfl) ?_
       refine s_go (m_load_obj Tryz.underlying5 (hS := hS) (hv := by exact zi_get rfl (by omega))) ?_
       try simp only [opv, nZ, Value.cells, List.getElem_toArray, List.getElem_cons_zero, List.getElem_cons_succ]
       rw [hk.e10]
       refine g_on (yi (t := 42) rfl rfl) ?_
       refine s_go (s_lss) ?_
       try simp only [opv, nZ, Value.cells]
       refine s_go (s_pick_t) ?_
       try simp only [opv, nZ, Value.cells]
       refine s_go (s_assign) ?_
       try simp only [opv, nZ, Value.cells]
       refine x_nil ?_
       refine hK13 _ _ ?_
       refine x_ret ?_
       refine r_tmp rfl ?_
       exact ⟨congrArg Value.bool (by rw [hR]; exact rgt_c (by omega) (by assumption) (by omega)), hS.ext_of⟩
      ·
       try simp only [n3, n4]
       try simp only [decide_eq_true_eq, decide_eq_false_iff_not, Bool.not_eq_true', Bool.not_eq_false', Int.not_lt, Int.not_le, ne_eq, Decidable.not_not] at hp6
       refine g_off (yi (t := 42) rfl rfl) ?_
       try simp only [opv, nZ, Value.cells]
       refine g_off (yi (t := 42) rfl rfl) ?_
       try simp only [opv, nZ, Value.cells]
       refine g_off (yi (t := 42) rfl rfl) ?_
       try simp only [opv, nZ, Value.cells]
       refine s_go (s_pick_f) ?_
       try simp only [opv, nZ, Value.cells]
       refine s_go (s_assign) ?_
       try simp only [opv, nZ, Value.cells]
       refine x_nil ?_
       refine hK13 _ _ ?_
       refine x_ret ?_
       refine r_tmp rfl ?_
       exact ⟨congrArg Value.bool (by rw [hR]; exact rgt_b (by assumption)), hS.ext_of⟩
     ·
      try simp only [n3, n4]
      try simp only [decide_eq_true_eq, decide_eq_false_iff_not, Bool.not_eq_true', Bool.not_eq_false', Int.not_lt, Int.not_le, ne_eq, Decidable.not_not] at hp5
      refine g_off (yi (t := 37) rfl rfl) ?_
      try simp only [opv, nZ, Value.cells]
      refine g_off (yi (t := 37) rfl rfl) ?_
      try simp only [opv, nZ, Value.cells]
      refine g_off (yi (t := 37) rfl rfl) ?_
      try simp only [opv, nZ, Value.cells]
      refine s_go (s_pick_f) ?_
      try simp only [opv, nZ, Value.cells]
      refine s_go (s_move) ?_
      try simp only [opv, nZ, Value.cells]
      refine g_off (yi (t := 42) rfl rfl) ?_
      try simp only [opv, nZ, Value.cells]
      refine g_off (yi (t := 42) rfl rfl) ?_
      try simp only [opv, nZ, Value.cells]
      refine g_off (yi (t := 42) rfl rfl) ?_
      try simp only [opv, nZ, Value.cells]
      refine s_go (s_pick_f) ?_
      try simp only [opv, nZ, Value.cells]
      refine s_go (s_assign) ?_
      try simp only [opv, nZ, Value.cells]
      refine x_nil ?_
      refine hK13 _ _ ?_
      refine x_ret ?_
      refine r_tmp rfl ?_
      exact ⟨congrArg Value.bool (by rw [hR]; exact rgt_a (by omega)), hS.ext_of⟩
    ·
     try simp only [decide_eq_true_eq, decide_eq_false_iff_not, Bool.not_eq_true', Bool.not_eq_false', Int.not_lt, Int.not_le, ne_eq, Decidable.not_not, bne_iff_ne, beq_iff_eq, not_true_eq_false, not_false_eq_true] at hc5
     try have hR : keyR x = false := by rw [keyR, if_neg (by omega), if_neg (by omega), if_neg (by omega)]
     refine x_skip ?_
     refine hK3 _ _ ?_
     refine x_seq fun K14 hK14 => ?_
     refine x_region ?_
     refine s_go (s_assign) ?_
     try simp only [opv, nZ, Value.cells]
     refine x_nil ?_
     refine hK14 _ _ ?_
     refine x_ret ?_
     refine r_tmp rfl ?_
     exact ⟨by rw [hR]; rfl, hS.ext_of⟩
theorem c_ref08Right (x : List Int) (hk : KeyOk x)  (w0 : World) :
    CallR Tryz.prog 37 #[.agg (KA x)] w0 fun v w' => v = .bool (keyR x) ∧ Ext w0 w' := by
 have hS : St NoB w0 w0 [] := St.start w0
 refine c_enter (l := [.agg (KA x), undef, undef, undef, undef, undef, undef, undef, undef, undef, undef, undef, undef, undef, undef, undef, undef, undef, undef, undef, undef, undef, undef, undef, undef, undef, undef, undef, undef, undef, undef, undef, undef, undef, undef, undef, undef, undef, undef, undef, undef, undef, undef]) Tryz.func37 rfl (by simp only [Tryz.ntmps37, List.size_toArray, List.length_cons, List.length_nil, Nat.reduceAdd, Nat.reduceSub, Array.replicate_succ, Array.replicate_zero, List.push_toArray, List.append_toArray, List.nil_append, List.cons_append]) ?_
 refine x_seq fun K1 hK1 => ?_
 refine x_region ?_
 have hkl := hk.len
 have hb0 := hk.b0
 have hb1 := hk.b1
 have hb10 := hk.b10
 have hb11 := hk.b11
 have hil := kitem_len hk.len
 have hib := hk.item
 refine m_box hS (fun w1 g1 hS => ?_)
 try simp only [opv, nZ, Value.cells, Array.toArray_toList] at hS ⊢
 refine s_go (s_assign) ?_
 try simp only [opv, nZ, Value.cells]
 refine x_nil ?_
 refine hK1 _ _ ?_
 refine x_seq fun K2 hK2 => ?_
 refine x_seq fun K3 hK3 => ?_
 refine x_region ?_
 refine s_go (m_fieldAddr Tryz.underlying27 (hi := ti5)) ?_
 try simp only [opv, nZ, Value.cells, Nat.zero_add, Nat.add_zero, List.getElem_toArray, List.getElem_cons_zero, List.getElem_cons_succ]
 refine s_go (m_load_obj Tryz.underlying5 (hS := hS) (hv := by exact zi_get rfl (by omega))) ?_
 try simp only [opv, nZ, Value.cells, List.getElem_toArray, List.getElem_cons_zero, List.getElem_cons_succ]
 rw [hk.e0]
 refine x_nil ?_
 refine hK3 _ _ ?_
 refine x_block ?_
 refine x_seq fun K4 hK4 => ?_
 refine x_region ?_
 refine s_go (s_eql) ?_
 try simp only [opv, nZ, Value.cells]
 refine s_go (s_assign) ?_
 try simp only [opv, nZ, Value.cells]
 refine x_nil ?_
 refine hK4 _ _ ?_
 refine x_cond (ht := fun hc1 => ?_) (hf := fun hc1 => ?_)
 ·
  try simp only [decide_eq_true_eq, decide_eq_false_iff_not, Bool.not_eq_true', Bool.not_eq_false', Int.not_lt, Int.not_le, ne_eq, Decidable.not_not, bne_iff_ne, beq_iff_eq, not_true_eq_false, not_false_eq_true] at hc1
  have hR : keyR x = (decide (kn x 11 ≠ 0) && nright (kitem x) && decide (kn x 10 < 16)) := by rw [keyR, if_neg (by omega), if_pos (by omega)]
  refine x_seq fun K5 hK5 => ?_
  refine x_region ?_
  refine s_go (m_fieldAddr Tryz.underlying27 (hi := ti24)) ?_
  try simp only [opv, nZ, Value.cells, Nat.zero_add, Nat.add_zero, List.getElem_toArray, List.getElem_cons_zero, List.getElem_cons_succ]
  refine s_go (m_loada_obj Tryz.underlying24 (hi := ti24) (hS := hS) (hfit := by (rw [zi_size (by omega)]; decide))) ?_
  try simp only [opv, nZ, Value.cells, List.getElem_toArray, List.getElem_cons_zero, List.getElem_cons_succ]
  rw [key_item hkl]
  refine s_call en38 ?_
  try simp only [opv, nZ, Value.cells, List.map_toArray, List.map_cons, List.map_nil, List.append_toArray, List.cons_append, List.nil_append, Array.append_empty]
  refine CallR.mono (c_ref06Right _ hil hib _) ?_
  rintro _ w2 ⟨rfl, hE2⟩
  replace hS := hS.ext hE2
  try simp only [opv, nZ, Value.cells]
  refine s_go (s_move) ?_
  try simp only [opv, nZ, Value.cells]
  refine s_part 10 rfl (fun hp1 => ?_) (fun hp1 => ?_)
  ·
   try simp only [n3, n4]
   try simp only [decide_eq_true_eq, decide_eq_false_iff_not, Bool.not_eq_true', Bool.not_eq_false', Int.not_lt, Int.not_le, ne_eq, Decidable.not_not] at hp1
   refine g_on (yi (t := 10) rfl rfl) ?_
   refine s_go (m_fieldAddr Tryz.underlying27 (hi := ti5)) ?_
   try simp only [opv, nZ, Value.cells, Nat.zero_add, Nat.add_zero, List.getElem_toArray, List.getElem_cons_zero, List.getElem_cons_succ]
   refine g_on (yi (t := 10) rfl rfl) ?_
   refine s_go (m_load_obj Tryz.underlying5 (hS := hS) (hv := by exact zi_get rfl (by omega))) ?_
   try simp only [opv, nZ, Value.cells, List.getElem_toArray, List.getElem_cons_zero, List.getElem_cons_succ]
   rw [hk.e10]
   refine g_on (yi (t := 10) rfl rfl) ?_
   refine s_go (s_lss) ?_
   try simp only [opv, nZ, Value.cells]
   refine s_go (s_pick_t) ?_
   try simp only [opv, nZ, Value.cells]
   refine s_go (s_move) ?_
   try simp only [opv, nZ, Value.cells]
   refine s_part 15 rfl (fun hp2 => ?_) (fun hp2 => ?_)
   ·
    try simp only [n3, n4]
    try simp only [decide_eq_true_eq, decide_eq_false_iff_not, Bool.not_eq_true', Bool.not_eq_false', Int.not_lt, Int.not_le, ne_eq, Decidable.not_not] at hp2
    refine g_on (yi (t := 15) rfl rfl) ?_
    refine s_go (m_fieldAddr Tryz.underlying27 (hi := ti25)) ?_
    try simp only [opv, nZ, Value.cells, Nat.zero_add, Nat.add_zero, List.getElem_toArray, List.getElem_cons_zero, List.getElem_cons_succ]
    refine g_on (yi (t := 15) rfl rfl) ?_
    refine s_go (m_load_obj Tryz.underlying25 (hS := hS) (hv := by exact zi_get rfl (by omega))) ?_
    try simp only [opv, nZ, Value.cells, List.getElem_toArray, List.getElem_cons_zero, List.getElem_cons_succ]
    rw [hk.e11]
    refine g_on (yi (t := 15) rfl rfl) ?_
    refine s_go (s_gtr) ?_
    try simp only [opv, nZ, Value.cells]
    refine s_go (s_pick_t) ?_
    try simp only [opv, nZ, Value.cells]
    refine s_go (s_assign) ?_
    try simp only [opv, nZ, Value.cells]
    refine x_nil ?_
    refine hK5 _ _ ?_
    refine x_ret ?_
    refine r_tmp rfl ?_
    exact ⟨congrArg Value.bool (by rw [hR]; exact rgt_d (by omega) (by assumption) (by omega)), hS.ext_of⟩
   ·
    try simp only [n3, n4]
    try simp only [decide_eq_true_eq, decide_eq_false_iff_not, Bool.not_eq_true', Bool.not_eq_false', Int.not_lt, Int.not_le, ne_eq, Decidable.not_not] at hp2
    refine g_off (yi (t := 15) rfl rfl) ?_
    try simp only [opv, nZ, Value.cells]
    refine g_off (yi (t := 15) rfl rfl) ?_
    try simp only [opv, nZ, Value.cells]
    refine g_off (yi (t := 15) rfl rfl) ?_
    try simp only [opv, nZ, Value.cells]
    refine s_go (s_pick_f) ?_
    try simp only [opv, nZ, Value.cells]
    refine s_go (s_assign) ?_
    try simp only [opv, nZ, Value.cells]
    refine x_nil ?_
    refine hK5 _ _ ?_
    refine x_ret ?_
    refine r_tmp rfl ?_
    exact ⟨congrArg Value.bool (by rw [hR]; exact rgt_e (by omega)), hS.ext_of⟩
  ·
   try simp only [n3, n4]
   try simp only [decide_eq_true_eq, decide_eq_false_iff_not, Bool.not_eq_true', Bool.not_eq_false', Int.not_lt, Int.not_le, ne_eq, Decidable.not_not] at hp1
   refine g_off (yi (t := 10) rfl rfl) ?_
   try simp only [opv, nZ, Value.cells]
   refine g_off (yi (t := 10) rfl rfl) ?_
   try simp only [opv, nZ, Value.cells]
   refine g_off (yi (t := 10) rfl rfl) ?_
   try simp only [opv, nZ, Value.cells]
   refine s_go (s_pick_f) ?_
   try simp only [opv, nZ, Value.cells]
   refine s_go (s_move) ?_
   try simp only [opv, nZ, Value.cells]
   refine g_off (yi (t := 15) rfl rfl) ?_
   try simp only [opv, nZ, Value.cells]
   refine g_off (yi (t := 15) rfl rfl) ?_
   try simp only [opv, nZ, Value.cells]
   refine g_off (yi (t := 15) rfl rfl) ?_
   try simp only [opv, nZ, Value.cells]
   refine s_go (s_pick_f) ?_
   try simp only [opv, nZ, Value.cells]
   refine s_go (s_assign) ?_
   try simp only [opv, nZ, Value.cells]
   refine x_nil ?_
   refine hK5 _ _ ?_
   refine x_ret ?_
   refine r_tmp rfl ?_
   exact ⟨congrArg Value.bool (by rw [hR]; exact rgt_b (by assumption)), hS.ext_of⟩
 ·
  try simp only [decide_eq_true_eq, decide_eq_false_iff_not, Bool.not_eq_true', Bool.not_eq_false', Int.not_lt, Int.not_le, ne_eq, Decidable.not_not, bne_iff_ne, beq_iff_eq, not_true_eq_false, not_false_eq_true] at hc1
  refine x_seq fun K6 hK6 => ?_
  refine x_seq fun K7 hK7 => ?_
  refine x_region ?_
  refine s_go (s_eql) ?_
  try simp only [opv, nZ, Value.cells]
  refine s_go (s_assign) ?_
  try simp only [opv, nZ, Value.cells]
  refine x_nil ?_
  refine hK7 _ _ ?_
  refine x_cond (ht := fun hc2 => ?_) (hf := fun hc2 => ?_)
  ·
   try simp only [decide_eq_true_eq, decide_eq_false_iff_not, Bool.not_eq_true', Bool.not_eq_false', Int.not_lt, Int.not_le, ne_eq, Decidable.not_not, bne_iff_ne, beq_iff_eq, not_true_eq_false, not_false_eq_true] at hc2
   try have hR : keyR x = (decide (kn x 11 = 0) && nright (kitem x) && decide (kn x 10 < 16)) := by rw [keyR, if_neg (by omega), if_neg (by omega), if_pos (by omega)]
   refine x_skip ?_
   refine hK6 _ _ ?_
   refine x_cond (ht := fun hc3 => ?_) (hf := fun hc3 => ?_)
   ·
    try simp only [decide_eq_true_eq, decide_eq_false_iff_not, Bool.not_eq_true', Bool.not_eq_false', Int.not_lt, Int.not_le, ne_eq, Decidable.not_not, bne_iff_ne, beq_iff_eq, not_true_eq_false, not_false_eq_true] at hc3
    try have hR : keyR x = (decide (kn x 11 = 0) && nright (kitem x) && decide (kn x 10 < 16)) := by rw [keyR, if_neg (by omega), if_neg (by omega), if_pos (by omega)]
    refine x_seq fun K8 hK8 => ?_
    refine x_region ?_
    refine s_go (m_fieldAddr Tryz.underlying27 (hi := ti24)) ?_
    try simp only [opv, nZ, Value.cells, Nat.zero_add, Nat.add_zero, List.getElem_toArray, List.getElem_cons_zero, List.getElem_cons_succ]
    refine s_go (m_loada_obj Tryz.underlying24 (hi := ti24) (hS := hS) (hfit := by (rw [zi_size (by omega)]; decide))) ?_
    try simp only [opv, nZ, Value.cells, List.getElem_toArray, List.getElem_cons_zero, List.getElem_cons_succ]
    rw [key_item hkl]
    refine s_call en38 ?_
    try simp only [opv, nZ, Value.cells, List.map_toArray, List.map_cons, List.map_nil, List.append_toArray, List.cons_append, List.nil_append, Array.append_empty]
    refine CallR.mono (c_ref06Right _ hil hib _) ?_
    rintro _ w3 ⟨rfl, hE3⟩
    replace hS := hS.ext hE3
    try simp only [opv, nZ, Value.cells]
    refine s_go (s_move) ?_
    try simp only [opv, nZ, Value.cells]
    refine s_part 26 rfl (fun hp3 => ?_) (fun hp3 => ?_)
    ·
     try simp only [n3, n4]
     try simp only [decide_eq_true_eq, decide_eq_false_iff_not, Bool.not_eq_true', Bool.not_eq_false', Int.not_lt, Int.not_le, ne_eq, Decidable.not_not] at hp3
     refine g_on (yi (t := 26) rfl rfl) ?_
     refine s_go (m_fieldAddr Tryz.underlying27 (hi := ti5)) ?_
     try simp only [opv, nZ, Value.cells, Nat.zero_add, Nat.add_zero, List.getElem_toArray, List.getElem_cons_zero, List.getElem_cons_succ]
     refine g_on (yi (t := 26) rfl rfl) ?_
     refine s_go (m_load_obj Tryz.underlying5 (hS := hS) (hv := by exact zi_get rfl (by omega))) ?_
     try simp only [opv, nZ, Value.cells, List.getElem_toArray, List.getElem_cons_zero, List.getElem_cons_succ]
     rw [hk.e10]
     refine g_on (yi (t := 26) rfl rfl) ?_
     refine s_go (s_lss) ?_
     try simp only [opv, nZ, Value.cells]
     refine s_go (s_pick_t) ?_
     try simp only [opv, nZ, Value.cells]
     refine s_go (s_move) ?_
     try simp only [opv, nZ, Value.cells]
     refine s_part 31 rfl (fun hp4 => ?_) (fun hp4 => ?_)
     ·
      try simp only [n3, n4]
      try simp only [decide_eq_true_eq, decide_eq_false_iff_not, Bool.not_eq_true', Bool.not_eq_false', Int.not_lt, Int.not_le, ne_eq, Decidable.not_not] at hp4
      refine g_on (yi (t := 31) rfl rfl) ?_
      refine s_go (m_fieldAddr Tryz.underlying27 (hi := ti25)) ?_
      try simp only [opv, nZ, Value.cells, Nat.zero_add, Nat.add_zero, List.getElem_toArray, List.getElem_cons_zero, List.getElem_cons_succ]
      refine g_on (yi (t := 31) rfl rfl) ?_
      refine s_go (m_load_obj Tryz.underlying25 (hS := hS) (hv := by exact zi_get rfl (by omega))) ?_
      try simp only [opv, nZ, Value.cells, List.getElem_toArray, List.getElem_cons_zero, List.getElem_cons_succ]
      rw [hk.e11]
      refine g_on (yi (t := 31) rfl rfl) ?_
      refine s_go (s_eql) ?_
      try simp only [opv, nZ, Value.cells]
      refine s_go (s_pick_t) ?_
      try simp only [opv, nZ, Value.cells]
      refine s_go (s_assign) ?_
      try simp only [opv, nZ, Value.cells]
      refine x_nil ?_
      refine hK8 _ _ ?_
      refine x_ret ?_
      refine r_tmp rfl ?_
      exact ⟨congrArg Value.bool (by rw [hR]; exact rgt_d (by omega) (by assumption) (by omega)), hS.ext_of⟩
     ·
      try simp only [n3, n4]
      try simp only [decide_eq_true_eq, decide_eq_false_iff_not, Bool.not_eq_true', Bool.not_eq_false', Int.not_lt, Int.not_le, ne_eq, Decidable.not_not] at hp4
      refine g_off (yi (t := 31) rfl rfl) ?_
      try simp only [opv, nZ, Value.cells]
      refine g_off (yi (t := 31) rfl rfl) ?_
      try simp only [opv, nZ, Value.cells]
      refine g_off (yi (t := 31) rfl rfl) ?_
      try simp only [opv, nZ, Value.cells]
      refine s_go (s_pick_f) ?_
      try simp only [opv, nZ, Value.cells]
      refine s_go (s_assign) ?_
      try simp only [opv, nZ, Value.cells]
      refine x_nil ?_
      refine hK8 _ _ ?_
      refine x_ret ?_
      refine r_tmp rfl ?_
      exact ⟨congrArg Value.bool (by rw [hR]; exact rgt_e (by omega)), hS.ext_of⟩
    ·
     try simp only [n3, n4]
     try simp only [decide_eq_true_eq, decide_eq_false_iff_not, Bool.not_eq_true', Bool.not_eq_false', Int.not_lt, Int.not_le, ne_eq, Decidable.not_not] at hp3
     refine g_off (yi (t := 26) rfl rfl) ?_
     try simp only [opv, nZ, Value.cells]
     refine g_off (yi (t := 26) rfl rfl) ?_
     try simp only [opv, nZ, Value.cells]
     refine g_off (yi (t := 26) rfl rfl) ?_
     try simp only [opv, nZ, Value.cells]
     refine s_go (s_pick_f) ?_
     try simp only [opv, nZ, Value.cells]
     refine s_go (s_move) ?_
     try simp only [opv, nZ, Value.cells]
     refine g_off (yi (t := 31) rfl rfl) ?_
     try simp only [opv, nZ, Value.cells]
     refine g_off (yi (t := 31) rfl rfl) ?_
     try simp only [opv, nZ, Value.cells]
     refine g_off (yi (t := 31) rfl rfl) ?_
     try simp only [opv, nZ, Value.cells]
     refine s_go (s_pick_f) ?_
     try simp only [opv, nZ, Value.cells]
     refine s_go (s_assign) ?_
     try simp only [opv, nZ, Value.cells]
     refine x_nil ?_
     refine hK8 _ _ ?_
     refine x_ret ?_
     refine r_tmp rfl ?_
     exact ⟨congrArg Value.bool (by rw [hR]; exact rgt_b (by assumption)), hS.ext_of⟩
   ·
    try simp only [decide_eq_true_eq, decide_eq_false_iff_not, Bool.not_eq_true', Bool.not_eq_false', Int.not_lt, Int.not_le, ne_eq, Decidable.not_not, bne_iff_ne, beq_iff_eq, not_true_eq_false, not_false_eq_true] at hc3
    (exfalso; omega)
  ·
   try simp only [decide_eq_true_eq, decide_eq_false_iff_not, Bool.not_eq_true', Bool.not_eq_false', Int.not_lt, Int.not_le, ne_eq, Decidable.not_not, bne_iff_ne, beq_iff_eq, not_true_eq_false, not_false_eq_true] at hc2
   refine x_region ?_
   refine s_go (s_eql) ?_
   try simp only [opv, nZ, Value.cells]
   refine s_go (s_assign) ?_
   try simp only [opv, nZ, Value.cells]
   refine x_nil ?_
   refine hK6 _ _ ?_
   refine x_cond (ht := fun hc5 => ?_) (hf := fun hc5 => ?_)
   ·
    try simp only [decide_eq_true_eq, decide_eq_false_iff_not, Bool.not_eq_true', Bool.not_eq_false', Int.not_lt, Int.not_le, ne_eq, Decidable.not_not, bne_iff_ne, beq_iff_eq, not_true_eq_false, not_false_eq_true] at hc5
    try have hR : keyR x = (decide (kn x 11 = 0) && nright (kitem x) && decide (kn x 10 < 16)) := by rw [keyR, if_neg (by omega), if_neg (by omega), if_pos (by omega)]
    refine x_seq fun K12 hK12 => ?_
    refine x_region ?_
    refine s_go (m_fieldAddr Tryz.underlying27 (hi := ti24)) ?_
    try simp only [opv, nZ, Value.cells, Nat.zero_add, Nat.add_zero, List.getElem_toArray, List.getElem_cons_zero, List.getElem_cons_succ]
    refine s_go (m_loada_obj Tryz.underlying24 (hi := ti24) (hS := hS) (hfit := by (rw [zi_size (by omega)]; decide))) ?_
    try simp only [opv, nZ, Value.cells, List.getElem_toArray, List.getElem_cons_zero, List.getElem_cons_succ]
    rw [key_item hkl]
    refine s_call en38 ?_
    try simp only [opv, nZ, Value.cells, List.map_toArray, List.map_cons, List.map_nil, List.append_toArray, List.cons_append, List.nil_append, Array.append_empty]
    refine CallR.mono (c_ref06Right _ hil hib _) ?_
    rintro _ w4 ⟨rfl, hE4⟩
    replace hS := hS.ext hE4
    try simp only [opv, nZ, Value.cells]
    refine s_go (s_move) ?_
    try simp only [opv, nZ, Value.cells]
    refine s_part 26 rfl (fun hp5 => ?_) (fun hp5 => ?_)
    ·
     try simp only [n3, n4]
     try simp only [decide_eq_true_eq, decide_eq_false_iff_not, Bool.not_eq_true', Bool.not_eq_false', Int.not_lt, Int.not_le, ne_eq, Decidable.not_not] at hp5
     refine g_on (yi (t := 26) rfl rfl) ?_
     refine s_go (m_fieldAddr Tryz.underlying27 (hi := ti5)) ?_
     try simp only [opv, nZ, Value.cells, Nat.zero_add, Nat.add_zero, List.getElem_toArray, List.getElem_cons_zero, List.getElem_cons_succ]
     refine g_on (yi (t := 26) rfl rfl) ?_
     refine s_go (m_load_obj Tryz.underlying5 (hS := hS) (hv := by exact zi_get rfl (by omega))) ?_
     try simp only [opv, nZ, Value.cells, List.getElem_toArray, List.getElem_cons_zero, List.getElem_cons_succ]
     rw [hk.e10]
     refine g_on (yi (t := 26) rfl rfl) ?_
     refine s_go (s_lss) ?_
     try simp only [opv, nZ, Value.cells]
     refine s_go (s_pick_t) ?_
     try simp only [opv, nZ, Value.cells]
     refine s_go (s_move) ?_
     try simp only [opv, nZ, Value.cells]
     refine s_part 31 rfl (fun hp6 => ?_) (fun hp6 => ?_)
     ·
      try simp only [n3, n4]
      try simp only [decide_eq_true_eq, decide_eq_false_iff_not, Bool.not_eq_true', Bool.not_eq_false', Int.not_lt, Int.not_le, ne_eq, Decidable.not_not] at hp6
      refine g_on (yi (t := 31) rfl rfl) ?_
      refine s_go (m_fieldAddr Tryz.underlying27 (hi := ti25)) ?_
      try simp only [opv, nZ, Value.cells, Nat.zero_add, Nat.add_zero, List.getElem_toArray, List.getElem_cons_zero, List.getElem_cons_succ]
      refine g_on (yi (t := 31) rfl rfl) ?_
      refine s_go (m_load_obj Tryz.underlying25 (hS := hS) (hv := by exact zi_get rfl (by omega))) ?_
      try simp only [opv, nZ, Value.cells, List.getElem_toArray, List.getElem_cons_zero, List.getElem_cons_succ]
      rw [hk.e11]
      refine g_on (yi (t := 31) rfl rfl) ?_
      refine s_go (s_eql) ?_
      try simp only [opv, nZ, Value.cells]
      refine s_go (s_pick_t) ?_
      try simp only [opv, nZ, Value.cells]
      refine s_go (s_assign) ?_
      try simp only [opv, nZ, Value.cells]
      refine x_nil ?_
      refine hK12 _ _ ?_
      refine x_ret ?_
      refine r_tmp rfl ?_
      exact ⟨congrArg Value.bool (by rw [hR]; exact rgt_d (by omega) (by assumption) (by omega)), hS.ext_of⟩
     ·
      try simp only [n3, n4]
      try simp only [decide_eq_true_eq, decide_eq_false_iff_not, Bool.not_eq_true', Bool.not_eq_false', Int.not_lt, Int.not_le, ne_eq, Decidable.not_not] at hp6
      refine g_off (yi (t := 31) rfl rfl) ?_
      try simp only [opv, nZ, Value.cells]
      refine g_off (yi (t := 31) rfl rfl) ?_
      try simp only [opv, nZ, Value.cells]
      refine g_off (yi (t := 31) rfl rfl) ?_
      try simp only [opv, nZ, Value.cells]
      refine s_go (s_pick_f) ?_
      try simp only [opv, nZ, Value.cells]
      refine s_go (s_assign) ?_
      try simp only [opv, nZ, Value.cells]
      refine x_nil ?_
      refine hK12 _ _ ?_
      refine x_ret ?_
      refine r_tmp rfl ?_
      exact ⟨congrArg Value.bool (by rw [hR]; exact rgt_e (by omega)), hS.ext_of⟩
    ·
     try simp only [n3, n4]
     try simp only [decide_eq_true_eq, decide_eq_false_iff_not, Bool.not_eq_true', Bool.not_eq_false', Int.not_lt, Int.not_le, ne_eq, Decidable.not_not] at hp5
     refine g_off (yi (t := 26) rfl rfl) ?_
     try simp only [opv, nZ, Value.cells]
     refine g_off (yi (t := 26) rfl rfl) ?_
     try simp only [opv, nZ, Value.cells]
     refine g_off (yi (t := 26) rfl rfl) ?_
     try simp only [opv, nZ, Value.cells]
     refine s_go (s_pick_f) ?_
     try simp only [opv, nZ, Value.cells]
     refine s_go (s_move) ?_
     try simp only [opv, nZ, Value.cells]
     refine g_off (yi (t := 31) rfl rfl) ?_
     try simp only [opv, nZ, Value.cells]
     refine g_off (yi (t := 31) rfl rfl) ?_
     try simp only [opv, nZ, Value.cells]
     refine g_off (yi (t := 31) rfl rfl) ?_
     try simp only [opv, nZ, Value.cells]
     refine s_go (s_pick_f) ?_
     try simp only [opv, nZ, Value.cells]
     refine s_go (s_assign) ?_
     try simp only [opv, nZ, Value.cells]
     refine x_nil ?_
     refine hK12 _ _ ?_
     refine x_ret ?_
     refine r_tmp rfl ?_
     exact ⟨congrArg Value.bool (by rw [hR]; exact rgt_b (by assumption)), hS.ext_of⟩
   ·
    try simp only [decide_eq_true_eq, decide_eq_false_iff_not, Bool.not_eq_true', Bool.not_eq_false', Int.not_lt, Int.not_le, ne_eq, Decidable.not_not, bne_iff_ne, beq_iff_eq, not_true_eq_false, not_false_eq_true] at hc5
    refine x_seq fun K13 hK13 => ?_
    refine x_region ?_
    refine s_go (s_eql) ?_
    try simp only [opv, nZ, Value.cells]
    refine s_go (s_assign) ?_
    try simp only [opv, nZ, Value.cells]
    refine x_nil ?_
    refine hK13 _ _ ?_
    refine x_cond (ht := fun hc6 => ?_) (hf := fun hc6 => ?_)
    ·
     try simp only [decide_eq_true_eq, decide_eq_false_iff_not, Bool.not_eq_true', Bool.not_eq_false', Int.not_lt, Int.not_le, ne_eq, Decidable.not_not, bne_iff_ne, beq_iff_eq, not_true_eq_false, not_false_eq_true] at hc6
     have hR : keyR x = decide (x = bareK x) := by rw [keyR, if_pos (by omega)]
     refine x_seq fun K14 hK14 => ?_
     refine x_region ?_
     refine s_go (m_load_row Tryz.underlying27 (hi := ti27) (hS := hS) (hfit := by (rw [zi_size (by omega)]; rfl))) ?_
     try simp only [opv, nZ, Value.cells, List.getElem_toArray, List.getElem_cons_zero, List.getElem_cons_succ]
     refine s_go (m_fieldAddr Tryz.underlying27 (hi := ti22)) ?_
     try simp only [opv, nZ, Value.cells, Nat.zero_add, Nat.add_zero, List.getElem_toArray, List.getElem_cons_zero, List.getElem_cons_succ]
     refine s_go (m_load_obj Tryz.underlying22 (hS := hS) (hv := by exact zi_get rfl (by omega))) ?_
     try simp only [opv, nZ, Value.cells, List.getElem_toArray, List.getElem_cons_zero, List.getElem_cons_succ]
     rw [hk.e1]
     have hbl : (bareK x).length = 12 := rfl
     refine s_go (s_build_struct (cells := #[_, _, .int .u8 0, .int .u8 0, .int .u8 0, .int .u8 0, .int .u8 0, .int .u8 0, .int .u8 0, .int .u8 0, .int .u8 0, .int .u32 0]) Tryz.underlying27 ti27 bp27 (hc := by simp only [List.map_toArray, List.map_cons, List.map_nil, opv, nZ, Value.cells, List.toList_toArray]; (repeat (refine fill_cons rfl rfl (Nat.le_of_ble_eq_true rfl) ?_)); rfl)) ?_
     try simp only [opv, nZ, Value.cells]
     rw [show (#[.int .u8 4, .int .u16 (kn x 1 : Int), .int .u8 0, .int .u8 0, .int .u8 0, .int .u8 0, .int .u8 0, .int .u8 0, .int .u8 0, .int .u8 0, .int .u8 0, .int .u32 0] : Array Value) = KA (bareK x) by rw [bareK, show kn x 0 = 4 by omega]; rfl]
     refine s_go (s_eql_agg eqv27 (hg := eg27) (hX := rfl) (hY := rfl) (h1 := by assumption) (h2 := by assumption)) ?_
     try simp only [opv, nZ, Value.cells]
     refine s_go (s_assign) ?_
     try simp only [opv, nZ, Value.cells]
     refine x_nil ?_
     refine hK14 _ _ ?_
     refine x_ret ?_
     refine r_tmp rfl ?_
     exact ⟨by rw [hR]; rfl, hS.ext_of⟩
    ·
     try simp only [decide_eq_true_eq, decide_eq_false_iff_not, Bool.not_eq_true', Bool.not_eq_false', Int.not_lt, Int.not_le, ne_eq, Decidable.not_not, bne_iff_ne, beq_iff_eq, not_true_eq_false, not_false_eq_true] at hc6
     have hR : keyR x = false := by rw [keyR, if_neg (by omega), if_neg (by omega), if_neg (by omega)]
     refine x_skip ?_
     refine hK2 _ _ ?_
     refine x_seq fun K15 hK15 => ?_
     refine x_region ?_
     refine s_go (s_assign) ?_
     try simp only [opv, nZ, Value.cells]
     refine x_nil ?_
     refine hK15 _ _ ?_
     refine x_ret ?_
     refine r_tmp rfl ?_
     exact ⟨by rw [hR]; rfl, hS.ext_of⟩
end Go.Proofs.YtpjpaipkkcengaaGreat
set_option linter.unusedSimpArgs false
set_option linter.unusedVariables false
set_option maxHeartbeats 800000
set_option maxRecDepth 100000
namespace Go.Proofs.YtpjpaipkkcengaaGreat
open Go.RowKit
theorem c_keyWrite (w0 : World) (g : Nat) (A : Option Addr) (c : Nat) (xs : List Int) (hx : xs.length ≤ 10000000) (y : List Int) (hy : KeyOk y) (hM : St (OwnB [.obj g (.cells #[.slice A xs.length c] 74 (0, 0)), .vec A c 5 1 xs.length (xs.map (Value.int .u8))]) w0 w0 [.obj g (.cells #[.slice A xs.length c] 74 (0, 0)), .vec A c 5 1 xs.length (xs.map (Value.int .u8))]) :
    CallR Tryz.prog 33 #[.pointer (some ⟨g, 0, none⟩), .agg (KA y)] w0 fun v w' => v = .tuple #[] ∧ WrSt w0 w' [.obj g (.cells #[.slice A xs.length c] 74 (0, 0)), .vec A c 5 1 xs.length (xs.map (Value.int .u8))] g (xs ++ keyOut y) [] := by
 have hS := hM
 refine c_enter (l := [.pointer (some ⟨g, 0, none⟩), .agg (KA y), undef, undef, undef, undef, undef, undef, undef, undef, undef, undef, undef, undef, undef, undef, undef, undef, undef, undef, undef, undef, undef, undef, undef, undef, undef, undef, undef, undef, undef, undef]) Tryz.func33 rfl (by simp only [Tryz.ntmps33, List.size_toArray, List.length_cons, List.length_nil, Nat.reduceAdd, Nat.reduceSub, Array.replicate_succ, Array.replicate_zero, List.push_toArray, List.append_toArray, List.nil_append, List.cons_append]) ?_
 refine x_seq fun K1 hK1 => ?_
 refine x_region ?_
 have hyl := hy.len
 have hb0 := hy.b0
 have hb1 := hy.b1
 have hb10 := hy.b10
 have hb11 := hy.b11
 have hil := kitem_len hy.len
 have hib := hy.item
 have hv1 := vari_len10 (x := kn y 1) (by omega)
 have hno := nmOut_len (kitem y)
 have hns := nsz_le (kitem y)
 refine m_box hS (fun w1 g1 hS => ?_)
 try simp only [opv, nZ, Value.cells, Array.toArray_toList] at hS ⊢
 refine x_nil ?_
 refine hK1 _ _ ?_
 refine x_seq fun K2 hK2 => ?_
 refine x_region ?_
 refine s_go (s_move) ?_
 try simp only [opv, nZ, Value.cells]
 refine s_go (m_fieldAddr Tryz.underlying27 (hi := ti5)) ?_
 try simp only [opv, nZ, Value.cells, Nat.zero_add, Nat.add_zero, List.getElem_toArray, List.getElem_cons_zero, List.getElem_cons_succ]
 refine s_go (m_load_obj Tryz.underlying5 (hS := hS) (hv := by exact zi_get rfl (by omega))) ?_
 try simp only [opv, nZ, Value.cells, List.getElem_toArray, List.getElem_cons_zero, List.getElem_cons_succ]
 rw [hy.e0]
 refine s_call en35 ?_
 try simp only [opv, nZ, Value.cells, List.map_toArray, List.map_cons, List.map_nil, List.append_toArray, List.cons_append, List.nil_append, Array.append_empty]
 refine CallR.mono (c_wbyte _ g A c xs (by omega) _ (hS.owns (by repeat (first | exact Spl.nil | (apply Spl.cons (by repeat (first | exact Del.head | apply Del.tail))))))) ?_
 rintro _ w2 ⟨rfl, A2, c2, hC2⟩
 replace hS := hS.frame (by repeat (first | exact Spl.nil | (apply Spl.cons (by repeat (first | exact Del.head | apply Del.tail))))) hC2 (by intro r hr g hg; simp only [List.mem_cons, List.not_mem_nil, or_false] at hr; rcases hr with rfl | rfl | rfl <;> (simp [Res.reads] at hg; done))
 simp only [List.cons_append, List.nil_append] at hS
 try simp only [opv, nZ, Value.cells]
 refine x_nil ?_
 refine hK2 _ _ ?_
 refine x_seq fun K3 hK3 => ?_
 refine x_region ?_
 refine s_go (s_move) ?_
 try simp only [opv, nZ, Value.cells]
 refine s_go (m_fieldAddr Tryz.underlying27 (hi := ti22)) ?_
 try simp only [opv, nZ, Value.cells, Nat.zero_add, Nat.add_zero, List.getElem_toArray, List.getElem_cons_zero, List.getElem_cons_succ]
 refine s_go (m_load_obj Tryz.underlying22 (hS := hS) (hv := by exact zi_get rfl (by omega))) ?_
 try simp only [opv, nZ, Value.cells, List.getElem_toArray, List.getElem_cons_zero, List.getElem_cons_succ]
 rw [hy.e1]
 refine s_go (s_conv Tryz.underlying22 Tryz.underlying28 (hc := by exact wr_u64 (by omega) (by omega))) ?_
 try simp only [opv, nZ, Value.cells]
 refine s_call en34 ?_
 try simp only [opv, nZ, Value.cells, List.map_toArray, List.map_cons, List.map_nil, List.append_toArray, List.cons_append, List.nil_append, Array.append_empty]
 refine CallR.mono (c_wnum _ g _ _ (xs ++ [(kn y 0 : Int)]) (by simp only [List.length_append, List.length_cons, List.length_nil]; omega) (kn y 1) (by omega) (hS.owns (by repeat (first | exact Spl.nil | (apply Spl.cons (by repeat (exact Del.head))))))) ?_
 rintro _ w3 ⟨rfl, A3, c3, hC3⟩
 replace hS := hS.frame (by repeat (first | exact Spl.nil | (apply Spl.cons (by repeat (exact Del.head))))) hC3 (by intro r hr g hg; simp only [List.mem_cons, List.not_mem_nil, or_false] at hr; rcases hr with rfl | rfl | rfl <;> (simp [Res.reads] at hg; done))
 simp only [List.cons_append, List.nil_append] at hS
 try simp only [opv, nZ, Value.cells]
 refine x_nil ?_
 refine hK3 _ _ ?_
 refine x_seq fun K4 hK4 => ?_
 refine x_seq fun K5 hK5 => ?_
 refine x_region ?_
 refine s_go (m_fieldAddr Tryz.underlying27 (hi := ti5)) ?_
 try simp only [opv, nZ, Value.cells, Nat.zero_add, Nat.add_zero, List.getElem_toArray, List.getElem_cons_zero, List.getElem_cons_succ]
 refine s_go (m_load_obj Tryz.underlying5 (hS := hS) (hv := by exact zi_get rfl (by omega))) ?_
 try simp only [opv, nZ, Value.cells, List.getElem_toArray, List.getElem_cons_zero, List.getElem_cons_succ]
 rw [hy.e0]
 refine s_go (s_eql) ?_
 try simp only [opv, nZ, Value.cells]
 refine x_nil ?_
 refine hK5 _ _ ?_
 refine x_cond (ht := fun hc1 => ?_) (hf := fun hc1 => ?_)
 ·
  try simp only [decide_eq_true_eq, decide_eq_false_iff_not, Bool.not_eq_true', Bool.not_eq_false', Int.not_lt, Int.not_le, ne_eq, Decidable.not_not, bne_iff_ne, beq_iff_eq, not_true_eq_false, not_false_eq_true] at hc1
  have hO : xs ++ keyOut y = xs ++ [(kn y 0 : Int)] ++ vari (kn y 1) := by simp [keyOut, show kn y 0 = 4 by omega]
  refine x_ret ?_
  refine r_none rfl ?_
  rw [← hO] at hS
  exact ⟨rfl, _, _, hS.sel (by repeat (first | exact Sel.nil | (refine Sel.cons (by repeat (exact Del.head)) ?_)))⟩
 ·
  try simp only [decide_eq_true_eq, decide_eq_false_iff_not, Bool.not_eq_true', Bool.not_eq_false', Int.not_lt, Int.not_le, ne_eq, Decidable.not_not, bne_iff_ne, beq_iff_eq, not_true_eq_false, not_false_eq_true] at hc1
  refine x_skip ?_
  refine hK4 _ _ ?_
  refine x_seq fun K6 hK6 => ?_
  refine x_region ?_
  refine s_go (s_move) ?_
  try simp only [opv, nZ, Value.cells]
  refine s_go (m_fieldAddr Tryz.underlying27 (hi := ti24)) ?_
  try simp only [opv, nZ, Value.cells, Nat.zero_add, Nat.add_zero, List.getElem_toArray, List.getElem_cons_zero, List.getElem_cons_succ]
  refine s_go (m_loada_obj Tryz.underlying24 (hi := ti24) (hS := hS) (hfit := by (rw [zi_size (by omega)]; decide))) ?_
  try simp only [opv, nZ, Value.cells, List.getElem_toArray, List.getElem_cons_zero, List.getElem_cons_succ]
  rw [key_item hyl]
  refine s_call en36 ?_
  try simp only [opv, nZ, Value.cells, List.map_toArray, List.map_cons, List.map_nil, List.append_toArray, List.cons_append, List.nil_append, Array.append_empty]
  refine CallR.mono (c_wname _ g _ _ (xs ++ [(kn y 0 : Int)] ++ vari (kn y 1)) (by simp only [List.length_append, List.length_cons, List.length_nil]; omega) (kitem y) hil hib (hS.owns (by repeat (first | exact Spl.nil | (apply Spl.cons (by repeat (exact Del.head))))))) ?_
  rintro _ w4 ⟨rfl, A4, c4, hC4⟩
  replace hS := hS.frame (by repeat (first | exact Spl.nil | (apply Spl.cons (by repeat (exact Del.head))))) hC4 (by intro r hr g hg; simp only [List.mem_cons, List.not_mem_nil, or_false] at hr; rcases hr with rfl | rfl | rfl <;> (simp [Res.reads] at hg; done))
  simp only [List.cons_append, List.nil_append] at hS
  try simp only [opv, nZ, Value.cells]
  refine x_nil ?_
  refine hK6 _ _ ?_
  refine x_seq fun K7 hK7 => ?_
  refine x_region ?_
  refine s_go (s_move) ?_
  try simp only [opv, nZ, Value.cells]
  refine s_go (m_fieldAddr Tryz.underlying27 (hi := ti5)) ?_
  try simp only [opv, nZ, Value.cells, Nat.zero_add, Nat.add_zero, List.getElem_toArray, List.getElem_cons_zero, List.getElem_cons_succ]
  refine s_go (m_load_obj Tryz.underlying5 (hS := hS) (hv := by exact zi_get rfl (by omega))) ?_
  try simp only [opv, nZ, Value.cells, List.getElem_toArray, List.getElem_cons_zero, List.getElem_cons_succ]
  rw [hy.e10]
  refine s_call en35 ?_
  try simp only [opv, nZ, Value.cells, List.map_toArray, List.map_cons, List.map_nil, List.append_toArray, List.cons_append, List.nil_append, Array.append_empty]
  refine CallR.mono (c_wbyte _ g _ _ (xs ++ [(kn y 0 : Int)] ++ vari (kn y 1) ++ nmOut (kitem y)) (by simp only [List.length_append, List.length_cons, List.length_nil]; omega) _ (hS.owns (by repeat (first | exact Spl.nil | (apply Spl.cons (by repeat (exact Del.head))))))) ?_
  rintro _ w5 ⟨rfl, A5, c5, hC5⟩
  replace hS := hS.frame (by repeat (first | exact Spl.nil | (apply Spl.cons (by repeat (exact Del.head))))) hC5 (by intro r hr g hg; simp only [List.mem_cons, List.not_mem_nil, or_false] at hr; rcases hr with rfl | rfl | rfl <;> (simp [Res.reads] at hg; done))
  simp only [List.cons_append, List.nil_append] at hS
  try simp only [opv, nZ, Value.cells]
  refine x_nil ?_
  refine hK7 _ _ ?_
  refine x_seq fun K8 hK8 => ?_
  refine x_region ?_
  refine s_go (m_fieldAddr Tryz.underlying27 (hi := ti5)) ?_
  try simp only [opv, nZ, Value.cells, Nat.zero_add, Nat.add_zero, List.getElem_toArray, List.getElem_cons_zero, List.getElem_cons_succ]
  refine s_go (m_load_obj Tryz.underlying5 (hS := hS) (hv := by exact zi_get rfl (by omega))) ?_
  try simp only [opv, nZ, Value.cells, List.getElem_toArray, List.getElem_cons_zero, List.getElem_cons_succ]
  rw [hy.e0]
  refine s_go (s_eql) ?_
  try simp only [opv, nZ, Value.cells]
  refine x_nil ?_
  refine hK8 _ _ ?_
  refine x_cond (ht := fun hc2 => ?_) (hf := fun hc2 => ?_)
  ·
   try simp only [decide_eq_true_eq, decide_eq_false_iff_not, Bool.not_eq_true', Bool.not_eq_false', Int.not_lt, Int.not_le, ne_eq, Decidable.not_not, bne_iff_ne, beq_iff_eq, not_true_eq_false, not_false_eq_true] at hc2
   have hO : xs ++ keyOut y = xs ++ [(kn y 0 : Int)] ++ vari (kn y 1) ++ nmOut (kitem y) ++ [(kn y 10 : Int)] ++ vari (kn y 11) := by simp [keyOut, show kn y 0 = 1 by omega]
   refine x_region ?_
   refine s_go (s_move) ?_
   try simp only [opv, nZ, Value.cells]
   refine s_go (m_fieldAddr Tryz.underlying27 (hi := ti25)) ?_
   try simp only [opv, nZ, Value.cells, Nat.zero_add, Nat.add_zero, List.getElem_toArray, List.getElem_cons_zero, List.getElem_cons_succ]
   refine s_go (m_load_obj Tryz.underlying25 (hS := hS) (hv := by exact zi_get rfl (by omega))) ?_
   try simp only [opv, nZ, Value.cells, List.getElem_toArray, List.getElem_cons_zero, List.getElem_cons_succ]
   rw [hy.e11]
   refine s_go (s_conv Tryz.underlying25 Tryz.underlying28 (hc := by exact wr_u64 (by omega) (by omega))) ?_
   try simp only [opv, nZ, Value.cells]
   refine s_call en34 ?_
   try simp only [opv, nZ, Value.cells, List.map_toArray, List.map_cons, List.map_nil, List.append_toArray, List.cons_append, List.nil_append, Array.append_empty]
   refine CallR.mono (c_wnum _ g _ _ (xs ++ [(kn y 0 : Int)] ++ vari (kn y 1) ++ nmOut (kitem y) ++ [(kn y 10 : Int)]) (by simp only [List.length_append, List.length_cons, List.length_nil]; omega) (kn y 11) (by omega) (hS.owns (by repeat (first | exact Spl.nil | (apply Spl.cons (by repeat (exact Del.head))))))) ?_
   rintro _ w6 ⟨rfl, A6, c6, hC6⟩
   replace hS := hS.frame (by repeat (first | exact Spl.nil | (apply Spl.cons (by repeat (exact Del.head))))) hC6 (by intro r hr g hg; simp only [List.mem_cons, List.not_mem_nil, or_false] at hr; rcases hr with rfl | rfl | rfl <;> (simp [Res.reads] at hg; done))
   simp only [List.cons_append, List.nil_append] at hS
   try simp only [opv, nZ, Value.cells]
   refine x_nil ?_
   refine r_none rfl ?_
   rw [← hO] at hS
   exact ⟨rfl, _, _, hS.sel (by repeat (first | exact Sel.nil | (refine Sel.cons (by repeat (exact Del.head)) ?_)))⟩
  ·
   try simp only [decide_eq_true_eq, decide_eq_false_iff_not, Bool.not_eq_true', Bool.not_eq_false', Int.not_lt, Int.not_le, ne_eq, Decidable.not_not, bne_iff_ne, beq_iff_eq, not_true_eq_false, not_false_eq_true] at hc2
   have hO : xs ++ keyOut y = xs ++ [(kn y 0 : Int)] ++ vari (kn y 1) ++ nmOut (kitem y) ++ [(kn y 10 : Int)] := by simp [keyOut, show ¬ kn y 0 = 4 by omega, show ¬ kn y 0 = 1 by omega]
   refine x_skip ?_
   refine r_none rfl ?_
   rw [← hO] at hS
   exact ⟨rfl, _, _, hS.sel (by repeat (first | exact Sel.nil | (refine Sel.cons (by repeat (exact Del.head)) ?_)))⟩
end Go.Proofs.YtpjpaipkkcengaaGreat
