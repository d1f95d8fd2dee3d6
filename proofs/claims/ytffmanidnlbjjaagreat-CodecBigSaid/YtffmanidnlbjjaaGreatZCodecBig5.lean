/- Rules, plain words and walks that the claim leans on: Uc, Ud, Uf, Ug, Uh, Tb, Vj, Tc. -/
import Derived.Test.YtffmanidnlbjjaaGreatZCodecBig4
set_option linter.unusedSimpArgs false
set_option linter.unusedVariables false
set_option linter.unusedSimpArgs false
set_option linter.unusedVariables false
set_option maxHeartbeats 2000000
set_option maxRecDepth 100000
namespace Go.Proofs.YtffmanidnlbjjaaGreat
open Go.RowKit

theorem mkV_ok {n : Nat} {t : List Int} (hn : n < 18446744073709551616) (ht : t.length = 8) (hb : Byt t) : ValOk (mkV n t) := ⟨mkV_len ht, rfl, hn, hb⟩
theorem failS_ok {b : Bool} {e2 : Int} {s : Int × List Int} (h : ErrOk s.1 s.2) : ErrOk (failS b e2 s).1 (failS b e2 s).2 := by
  unfold failS
  split
  · intro h2; dsimp only at h2 ⊢; rw [if_neg h2]
  · exact h
section
variable {s : Nat} {e : Int} {xs : List Int}
theorem valP_val (hb : Byt xs) : ValOk (valP s e xs).1 := by
  have hv := oneS_val (e := e) hb
  have h2 := numS_le 4294967295 e xs
  have h4 := numS_le 1099511627775 e xs
  unfold valP
  split
  · exact mkV_ok (by omega) rfl nm0_byt
  · split
    · exact mkV_ok (by omega) rfl nm0_byt
    · split
      · exact mkV_ok (by omega) (namS_len _ _) (namS_byt (failS_byt (numS_byt hb)))
      · exact mkV_ok (by decide) rfl nm0_byt
theorem valP_byt (hb : Byt xs) : Byt (valP s e xs).2.2 := by
  unfold valP
  split
  · exact failS_byt (oneS_byt hb)
  · split
    · exact failS_byt (numS_byt hb)
    · split
      · exact namS_byt' (failS_byt (numS_byt hb))
      · exact hb
theorem valP_len2 : (valP s e xs).2.2.length ≤ xs.length := by
  unfold valP
  split
  · exact Nat.le_trans failS_len (oneS_len _ _)
  · split
    · exact Nat.le_trans failS_len (numS_len _ _ _)
    · split
      · exact Nat.le_trans (namS_len' _ _) (Nat.le_trans failS_len (numS_len _ _ _))
      · exact Nat.le_refl _
theorem valP_ok3 (h : ErrOk e xs) : ErrOk (valP s e xs).2.1 (valP s e xs).2.2 := by
  unfold valP
  split
  · exact failS_ok (oneS_ok h)
  · split
    · exact failS_ok (numS_ok h)
    · split
      · exact namS_ok (failS_ok (numS_ok h))
      · exact h
theorem atmS_st : (atmS e xs).2 = (valP (kn (keyS e xs).1 0) (keyS e xs).2.1 (keyS e xs).2.2).2 ∨ (atmS e xs).2 = (keyS e xs).2 := by
  by_cases h : (keyS e xs).2.1 = 0
  · by_cases h2 : (valP (kn (keyS e xs).1 0) (keyS e xs).2.1 (keyS e xs).2.2).2.1 = 0
    · rw [atmS_yes h h2]; exact .inl rfl
    · rw [atmS_no h h2]; exact .inl rfl
  · rw [atmS_key h]; exact .inr rfl
theorem atmS_byt (hb : Byt xs) : Byt (atmS e xs).2.2 := by
  rcases atmS_st (e := e) (xs := xs) with h | h <;> rw [h]
  · exact valP_byt (keyS_byt hb)
  · exact keyS_byt hb
theorem atmS_len2 : (atmS e xs).2.2.length ≤ xs.length := by
  rcases atmS_st (e := e) (xs := xs) with h | h <;> rw [h]
  · exact Nat.le_trans valP_len2 keyS_len
  · exact keyS_len
theorem atmS_ok3 (hb : ErrOk e xs) : ErrOk (atmS e xs).2.1 (atmS e xs).2.2 := by
  rcases atmS_st (e := e) (xs := xs) with h | h <;> rw [h]
  · exact valP_ok3 (keyS_ok hb)
  · exact keyS_ok hb
theorem atmS_atom (hb : Byt xs) (h0 : (atmS e xs).2.1 = 0) : AtomOk (atmS e xs).1 := by
  by_cases h : (keyS e xs).2.1 = 0
  · by_cases h2 : (valP (kn (keyS e xs).1 0) (keyS e xs).2.1 (keyS e xs).2.2).2.1 = 0
    · rw [atmS_yes h h2]; exact kv_ok (keyS_key hb) (valP_val (keyS_byt hb))
    · rw [atmS_no h h2] at h0; exact absurd h0 h2
  · rw [atmS_key h] at h0; exact absurd h0 h
end
theorem atmS_l21 (e : Int) {xs : List Int} (hw : Byt xs) : (atmS e xs).1.length = 21 := by
  have hk := keyS_l12 e hw
  by_cases h : (keyS e xs).2.1 = 0
  · by_cases h2 : (valP (kn (keyS e xs).1 0) (keyS e xs).2.1 (keyS e xs).2.2).2.1 = 0
    · rw [atmS_yes h h2]
      show ((keyS e xs).1 ++ (valP _ _ _).1).length = 21
      rw [List.length_append, hk, valP_len]
    · rw [atmS_no h h2]; rfl
  · rw [atmS_key h]; rfl
/-- up to n atoms that come, and where reading stands behind them -/
def rdA : Nat → Int → List Int → List (List Int) × Int × List Int
  | 0, e, xs => ([], e, xs)
  | n + 1, e, xs => if (atmS e xs).2.1 = 0 then ((atmS e xs).1 :: (rdA n (atmS e xs).2.1 (atmS e xs).2.2).1, (rdA n (atmS e xs).2.1 (atmS e xs).2.2).2) else ([], (atmS e xs).2)
section
variable {e : Int} {xs : List Int} {n : Nat}
theorem rdA_ok (h : (atmS e xs).2.1 = 0) : rdA (n + 1) e xs = ((atmS e xs).1 :: (rdA n (atmS e xs).2.1 (atmS e xs).2.2).1, (rdA n (atmS e xs).2.1 (atmS e xs).2.2).2) := by rw [rdA, if_pos h]
theorem rdA_no (h : ¬ (atmS e xs).2.1 = 0) : rdA (n + 1) e xs = ([], (atmS e xs).2) := by rw [rdA, if_neg h]
end
theorem rdA_len : ∀ {n : Nat} {e : Int} {xs : List Int}, (rdA n e xs).1.length ≤ n
  | 0, _, _ => Nat.le_refl _
  | n + 1, e, xs => by
    by_cases h : (atmS e xs).2.1 = 0
    · rw [rdA_ok h]; exact Nat.succ_le_succ rdA_len
    · rw [rdA_no h]; exact Nat.zero_le _
theorem rdA_aok : ∀ {n : Nat} {e : Int} {xs : List Int}, Byt xs → AOks (rdA n e xs).1
  | 0, _, _, _ => AOks.nil
  | n + 1, e, xs, hb => by
    by_cases h : (atmS e xs).2.1 = 0
    · rw [rdA_ok h]
      intro a ha
      rcases List.mem_cons.1 ha with rfl | ha
      · exact atmS_atom hb h
      · exact rdA_aok (atmS_byt hb) a ha
    · rw [rdA_no h]; exact AOks.nil
/-- k of n atoms have come -/
structure RdsI (n : Nat) (e0 : Int) (xs0 : List Int) (k : Nat) (pre : List (List Int)) (e : Int) (xs : List Int) : Prop where
  a : rdA n e0 xs0 = (pre ++ (rdA (n - k) e xs).1, (rdA (n - k) e xs).2)
  l : pre.length = k
  byt : Byt xs
  le : xs.length ≤ xs0.length
  eo : ErrOk e xs
section
variable {n k : Nat} {e0 e : Int} {xs0 xs : List Int} {pre : List (List Int)}
theorem RdsI.start (hb : Byt xs0) (h : ErrOk e0 xs0) : RdsI n e0 xs0 0 [] e0 xs0 := ⟨rfl, rfl, hb, Nat.le_refl _, h⟩
theorem RdsI.next (h : RdsI n e0 xs0 k pre e xs) (hk : k < n) (h0 : (atmS e xs).2.1 = 0) : RdsI n e0 xs0 (k + 1) (pre ++ [(atmS e xs).1]) (atmS e xs).2.1 (atmS e xs).2.2 := by
  refine ⟨?_, by rw [List.length_append, h.l]; rfl, atmS_byt h.byt, Nat.le_trans atmS_len2 h.le, atmS_ok3 h.eo⟩
  rw [h.a, show n - k = n - (k + 1) + 1 by omega, rdA_ok h0, List.append_assoc]; rfl
theorem RdsI.at (h : RdsI n e0 xs0 k pre e xs) (hk : k < n) (h0 : (atmS e xs).2.1 = 0) : (rdA n e0 xs0).1.getD k [] = (atmS e xs).1 ∧ k < (rdA n e0 xs0).1.length := by
  rw [h.a, show n - k = n - (k + 1) + 1 by omega, rdA_ok h0]
  dsimp only
  refine ⟨?_, by rw [List.length_append, h.l, List.length_cons]; omega⟩
  rw [List.getD_eq_getElem?_getD, List.getElem?_append_right (by have := h.l; omega), h.l, Nat.sub_self]; rfl
theorem RdsI.stop (h : RdsI n e0 xs0 k pre e xs) (hk : k < n) (h0 : ¬ (atmS e xs).2.1 = 0) : rdA n e0 xs0 = (pre, (atmS e xs).2) := by
  rw [h.a, show n - k = n - (k + 1) + 1 by omega, rdA_no h0, List.append_nil]
theorem RdsI.done (h : RdsI n e0 xs0 k pre e xs) (hk : k = n) : rdA n e0 xs0 = (pre, e, xs) := by
  rw [h.a, show n - k = 0 by omega, rdA, List.append_nil]
end
def ordAt (s : List (List Int)) (k : Nat) : Bool := decide (k = 0) || keyLt (akey (s.getD (k - 1) [])) (akey (s.getD k []))
def ordN (s : List (List Int)) : Nat → Bool
  | 0 => true
  | k + 1 => ordN s k && ordAt s k
def ordL (s : List (List Int)) : Bool := ordN s s.length
theorem ord_false {s : List (List Int)} {k : Nat} (h : ordAt s k = false) : ∀ {n : Nat}, k < n → ordN s n = false
  | 0, h1 => by omega
  | n + 1, h1 => by
    rw [ordN]
    by_cases e : k = n
    · rw [← e, h, Bool.and_false]
    · rw [ord_false h (by omega), Bool.false_and]
def decR (bs : List Int) : List (List Int) × Int × List Int := rdA (numS 4096 0 bs).1 (numS 4096 0 bs).2.1 (numS 4096 0 bs).2.2
def finE (s : Int × List Int) : Int := if 0 < s.2.length then 3 else s.1
def decP (bs : List Int) : List (List Int) × Int := if ordL (decR bs).1 = false then ([], 3) else if finE (decR bs).2 = 0 then ((decR bs).1, 0) else ([], finE (decR bs).2)
theorem fr_rdin {w : World} {M L : List Res} {A : Option Addr} {n : Nat} {vs : List Value} (hR : RdIn w M A n) (hL : FrOK w M L) : FrOK w M (.rd A 1 n vs :: L) := fun r hr g hg => by
  rcases List.mem_cons.1 hr with rfl | hr
  · exact hR g hg
  · exact hL r hr g hg

theorem i_comes (bn bc n : Nat) (hnn : n ≤ 4096) (g : Nat) (e : Int) (A : Option Addr) (c : Nat) (xs : List Int) (hc : xs.length ≤ c) (hw : Byt xs) (hn : xs.length ≤ 1000000000) (heo : ErrOk e xs)  :
    IterX Tryz.prog 148 #[.pointer (some ⟨bn, 0, none⟩), .pointer (some ⟨bc, 0, none⟩)] ((rdA n e xs).1.length) (fun k => [.agg (AA ((rdA n e xs).1.getD k []))]) [.obj bn (.cells #[.int .i64 (n : Int)] 3 (0, 0)), .obj bc (.cells #[.pointer (some ⟨g, 0, none⟩)] 130 (0, 0)), .obj g (.cells #[.int .i64 e, .slice A (xs).length c] 189 (0, 0)), .rd A 1 (xs).length ((xs).map (Value.int .u8))] (fun L => ∃ (A : Option Addr) (c : Nat) (ys : List Int), ys.length ≤ c ∧ L = [.obj bn (.cells #[.int .i64 (n : Int)] 3 (0, 0)), .obj bc (.cells #[.pointer (some ⟨g, 0, none⟩)] 130 (0, 0)), .obj g (.cells #[.int .i64 0, .slice A (ys).length c] 189 (0, 0)), .rd A 1 (ys).length ((ys).map (Value.int .u8))]) (fun L => ∃ (A : Option Addr) (c : Nat), (rdA n e xs).2.2.length ≤ c ∧ L = [.obj bn (.cells #[.int .i64 (n : Int)] 3 (0, 0)), .obj bc (.cells #[.pointer (some ⟨g, 0, none⟩)] 130 (0, 0)), .obj g (.cells #[.int .i64 (rdA n e xs).2.1, .slice A ((rdA n e xs).2.2).length c] 189 (0, 0)), .rd A 1 ((rdA n e xs).2.2).length (((rdA n e xs).2.2).map (Value.int .u8))]) := by
 intro lp I O hIc hOc hy w0 hI
 have hS := (hIc 0).st hI
 refine y_enter (l := [.func (.yield lp) #[] #[], .pointer (some ⟨bn, 0, none⟩), .pointer (some ⟨bc, 0, none⟩), undef, undef, undef, undef, undef, undef, undef, undef, undef, undef, undef, undef, undef, undef, undef, undef, undef]) Tryz.func148 rfl (by simp only [Tryz.ntmps148, List.size_toArray, List.length_cons, List.length_nil, Nat.reduceAdd, Nat.reduceSub, Array.replicate_succ, Array.replicate_zero, List.push_toArray, List.append_toArray, List.nil_append, List.cons_append]) ?_
 refine y_seq fun K1 hK1 => ?_
 refine y_region (by kernel_rfl) ?_
 refine s_go (m_load_obj Tryz.underlying3 (hS := hS) (hv := by rfl)) ?_
 try simp only [opv, n1, n2, n3, n4, Value.cells, List.getElem_toArray, List.getElem_cons_zero, List.getElem_cons_succ]
 refine s_go (s_move) ?_
 try simp only [opv, n1, n2, n3, n4, Value.cells]
 refine y_nilf ?_
 refine hK1 _ _ ?_
 refine y_block ?_
 refine y_loop [4, 6, 7, 8, 9, 10, 11, 12, 13, 14, 15, 16, 17, 18, 19] (fun m f w => ∃ (k : Nat) (pre : List (List Int)) (e1 : Int) (A1 : Option Addr) (c1 : Nat) (xs1 : List Int), k ≤ n ∧ m = n - k ∧ f 6 = .int .i64 (k : Int) ∧ xs1.length ≤ c1 ∧ RdsI n e xs k pre e1 xs1 ∧ I k w [.obj bn (.cells #[.int .i64 (n : Int)] 3 (0, 0)), .obj bc (.cells #[.pointer (some ⟨g, 0, none⟩)] 130 (0, 0)), .obj g (.cells #[.int .i64 e1, .slice A1 (xs1).length c1] 189 (0, 0)), .rd A1 1 (xs1).length ((xs1).map (Value.int .u8))]) (n) ?init1 (fun m1 f1 wl1 hI => ?_)
 case init1 =>
  try simp only [opv, n1, n2, n3, n4, Value.cells]
  exact ⟨0, [], e, A, c, xs, by omega, rfl, rfl, hc, RdsI.start hw heo, hI⟩
 obtain ⟨k, pre, e1, A1, c1, xs1, hk0, hm, h6, hcc1, hri, hI⟩ := hI
 simp only [clob, List.foldl, n3, n4, h6]
 replace hS := (hIc k).st hI
 have hM := hS
 refine y_seq fun K2 hK2 => ?_
 refine y_region (by kernel_rfl) ?_
 refine s_go (s_lss) ?_
 try simp only [opv, n1, n2, n3, n4, Value.cells]
 refine y_nilf ?_
 refine hK2 _ _ ?_
 refine y_seq fun K3 hK3 => ?_
 refine y_cond (ht := fun hc1 => ?_) (hf := fun hc1 => ?_)
 ·
  try simp only [decide_eq_true_eq, decide_eq_false_iff_not, Bool.not_eq_true', Bool.not_eq_false', Int.not_lt, Int.not_le, ne_eq, Decidable.not_not, bne_iff_ne, beq_iff_eq, not_true_eq_false, not_false_eq_true] at hc1
  have hk1 : k < n := by omega
  have hz21 := atmS_l21 e1 hri.byt
  have hle := hri.le
  refine y_skip ?_
  refine hK3 _ _ ?_
  refine y_seq fun K4 hK4 => ?_
  refine y_block ?_
  refine y_seq fun K5 hK5 => ?_
  refine y_region (by kernel_rfl) ?_
  refine s_go (m_load_obj Tryz.underlying130 (hS := hS) (hv := by rfl)) ?_
  try simp only [opv, n1, n2, n3, n4, Value.cells, List.getElem_toArray, List.getElem_cons_zero, List.getElem_cons_succ]
  refine s_call en149 ?_
  try simp only [opv, n1, n2, n3, n4, Value.cells, List.map_toArray, List.map_cons, List.map_nil, List.append_toArray, List.cons_append, List.nil_append, Array.append_empty]
  refine CallR.mono (c_atomRead _ g e1 A1 c1 xs1 hcc1 hri.byt (by omega) (hS.owns (by repeat (first | exact Spl.nil | (apply Spl.cons (by repeat (first | exact Del.head | apply Del.tail))))))) ?_
  rintro _ w1 ⟨rfl, A2, c2, hc2, hRr, hC1⟩
  have hR2 := RdIn.trans hM hS (by repeat (first | exact Spl.nil | (apply Spl.cons (by repeat (first | exact Del.head | apply Del.tail))))) hRr (by intro s hs q hb; simp only [List.mem_cons, List.not_mem_nil, or_false] at hs; rcases hs with rfl | rfl <;> first | (simp [Res.reads] at hb; done) | exact .inr ⟨_, by repeat (first | exact List.mem_cons_self .. | apply List.mem_cons_of_mem), .inr hb⟩)
  replace hS := hS.frame (by repeat (first | exact Spl.nil | (apply Spl.cons (by repeat (first | exact Del.head | apply Del.tail))))) hC1 (by intro r hr b hb; simp only [List.mem_cons, List.not_mem_nil, or_false] at hr; rcases hr with rfl | rfl <;> first | (simp [Res.reads] at hb; done) | exact hRr b hb)
  simp only [List.cons_append, List.nil_append] at hS
  try simp only [opv, n1, n2, n3, n4, Value.cells]
  refine m_alloc ti88 hS (fun w2 g2 hS => ?_)
  try simp only [opv, n1, n2, n3, n4, Value.cells, Array.toArray_toList] at hS ⊢
  have h0l : (List.replicate 21 (0 : Int)).length = 21 := rfl
  replace hS : St _ _ w2 (.obj g2 (.cells (AA (List.replicate 21 0)) 88 (0, 0)) :: _) := hS
  refine m_store_obj ti88 (hS := hS) (hc := by exact zi_whole (by omega) (by omega)) (hv := by (show (zi _ _).toArray.size = _; rw [zi_size (by omega)]; rfl)) (hfit := by (rw [zi_size (by omega)]; decide)) (h1 := by exact zi_one _ _) (h := fun w3 hS => ?_)
  try simp only [opv, n1, n2, n3, n4, Value.cells, Array.toArray_toList] at hS ⊢
  refine y_nilf ?_
  refine hK5 _ _ ?_
  refine y_seq fun K6 hK6 => ?_
  refine y_region_y ?_
  refine y_pre_n 6 (by kernel_rfl) ?_
  simp only [List.take_succ_cons, List.take_zero, List.drop_succ_cons, List.drop_zero]
  refine s_go (m_load_obj Tryz.underlying130 (hS := hS) (hv := by rfl)) ?_
  try simp only [opv, n1, n2, n3, n4, Value.cells, List.getElem_toArray, List.getElem_cons_zero, List.getElem_cons_succ]
  refine s_call en150 ?_
  try simp only [opv, n1, n2, n3, n4, Value.cells, List.map_toArray, List.map_cons, List.map_nil, List.append_toArray, List.cons_append, List.nil_append, Array.append_empty]
  refine CallR.mono (c_cErr _ g ((atmS e1 xs1).2.1) A2 c2 ((atmS e1 xs1).2.2) hc2 (hS.owns (by repeat (first | exact Spl.nil | (apply Spl.cons (by repeat (first | exact Del.head | apply Del.tail))))))) ?_
  rintro _ w4 ⟨rfl, hC4⟩
  replace hS := hS.frame (by repeat (first | exact Spl.nil | (apply Spl.cons (by repeat (first | exact Del.head | apply Del.tail))))) hC4 (by intro r hr g hg; simp only [List.mem_cons, List.not_mem_nil, or_false] at hr; rcases hr with rfl | rfl | rfl <;> first | (simp [Res.reads] at hg; done) | exact .inr ⟨_, by simp, .inr hg⟩)
  simp only [List.cons_append, List.nil_append] at hS
  try simp only [opv, n1, n2, n3, n4, Value.cells]
  refine s_go (s_neq) ?_
  try simp only [opv, n1, n2, n3, n4, Value.cells]
  refine s_go (s_move) ?_
  try simp only [opv, n1, n2, n3, n4, Value.cells]
  refine s_part 13 rfl (fun hp1 => ?_) (fun hp1 => ?_)
  ·
   try simp only [n3, n4]
   try simp only [decide_eq_true_eq, decide_eq_false_iff_not, Bool.not_eq_true', Bool.not_eq_false', Int.not_lt, Int.not_le, ne_eq, Decidable.not_not] at hp1
   have hbad : ¬ (atmS e1 xs1).2.1 = 0 := by simpa using hp1
   have hst := hri.stop hk1 hbad
   refine g_off (yi (t := 13) rfl rfl) ?_
   try simp only [opv, n1, n2, n3, n4, Value.cells]
   refine g_off (yi (t := 13) rfl rfl) ?_
   try simp only [opv, n1, n2, n3, n4, Value.cells]
   refine y_pre_nilf ?_
   refine y_off (yi (t := 13) rfl rfl) ?_
   refine y_rest (by kernel_rfl) ?_
   try simp only [opv, n1, n2, n3, n4, Value.cells]
   refine g_off (yi (t := 13) rfl rfl) ?_
   try simp only [opv, n1, n2, n3, n4, Value.cells]
   refine s_go (s_pick_t) ?_
   try simp only [opv, n1, n2, n3, n4, Value.cells]
   refine y_nilf ?_
   refine hK6 _ _ ?_
   refine y_cond_t (h := ?_)
   refine y_ret ?_
   refine rm_nil ?_
   refine r_none rfl ?_
   exact .inl ⟨_, ⟨A2, c2, by rw [hst]; exact hc2, rfl⟩, by rw [hst, show (pre, (atmS e1 xs1).2).1.length = k from hri.l]; exact (hIc k).on hI (hS.sel (by repeat (first | exact Sel.nil | (refine Sel.cons (by repeat (first | exact Del.head | apply Del.tail)) ?_)))) (by repeat (first | exact fr_nil | refine fr_rdin (by assumption) ?_ | refine fr_own rfl ?_))⟩
  ·
   try simp only [n3, n4]
   try simp only [decide_eq_true_eq, decide_eq_false_iff_not, Bool.not_eq_true', Bool.not_eq_false', Int.not_lt, Int.not_le, ne_eq, Decidable.not_not] at hp1
   have hok : (atmS e1 xs1).2.1 = 0 := by simpa using hp1
   have hat := hri.at hk1 hok
   rw [hok] at hS
   refine g_on (yi (t := 13) rfl rfl) ?_
   refine s_go (s_move) ?_
   try simp only [opv, n1, n2, n3, n4, Value.cells]
   refine g_on (yi (t := 13) rfl rfl) ?_
   refine s_go (m_load_row Tryz.underlying88 (hi := ti88) (hS := hS) (hfit := by (rw [zi_size (by omega)]; rfl))) ?_
   try simp only [opv, n1, n2, n3, n4, Value.cells, List.getElem_toArray, List.getElem_cons_zero, List.getElem_cons_succ]
   refine y_pre_nilf ?_
   refine y_yield_g (yi (t := 13) rfl rfl) rfl ?_
   try simp only [opv, n1, n2, n3, n4, Value.cells, List.map_toArray, List.map_cons, List.map_nil]
   refine YC.mono (by rw [← hat.1]; exact hy k _ _ hat.2 ⟨A2, c2, _, hc2, rfl⟩ ((hIc k).on hI (hS.sel (by repeat (first | exact Sel.nil | (refine Sel.cons (by repeat (first | exact Del.head | apply Del.tail)) ?_)))) (by repeat (first | exact fr_nil | refine fr_rdin (by assumption) ?_ | refine fr_own rfl ?_)))) ?_
   rintro v w5 (⟨rfl, hI⟩ | ⟨rfl, hO⟩)
   ·
    replace hS := (hIc _).st hI
    refine y_rest (by kernel_rfl) ?_
    try simp only [opv, n1, n2, n3, n4, Value.cells]
    refine g_on (yi (t := 13) rfl rfl) ?_
    refine s_go (s_not) ?_
    try simp only [opv, n1, n2, n3, n4, Value.cells]
    refine s_go (s_pick_f) ?_
    try simp only [opv, n1, n2, n3, n4, Value.cells]
    refine y_nilf ?_
    refine hK6 _ _ ?_
    refine y_cond_f (h := ?_)
    refine y_skip ?_
    refine hK4 _ _ ?_
    refine y_region (by kernel_rfl) ?_
    refine s_go (s_add (hc := by exact wr_i64 (by omega) (by omega))) ?_
    try simp only [opv, n1, n2, n3, n4, Value.cells]
    refine s_go (s_move) ?_
    try simp only [opv, n1, n2, n3, n4, Value.cells]
    refine y_nilf ?_
    refine loop_back_y (m' := n - (k + 1)) (by simp only [clob, List.foldl, n1, n2, n3, n4]) ?_ ?_
    · try simp only [opv, n1, n2, n3, n4, Value.cells]
      exact ⟨k + 1, pre ++ [(atmS e1 xs1).1], 0, A2, c2, (atmS e1 xs1).2.2, by omega, by omega, by rfl, hc2, (by have h9 := hri.next hk1 hok; rw [hok] at h9; exact h9), hI⟩
    · omega
   ·
    replace hS := (hOc _).st hO
    refine y_rest (by kernel_rfl) ?_
    try simp only [opv, n1, n2, n3, n4, Value.cells]
    refine g_on (yi (t := 13) rfl rfl) ?_
    refine s_go (s_not) ?_
    try simp only [opv, n1, n2, n3, n4, Value.cells]
    refine s_go (s_pick_f) ?_
    try simp only [opv, n1, n2, n3, n4, Value.cells]
    refine y_nilf ?_
    refine hK6 _ _ ?_
    refine y_cond_t (h := ?_)
    refine y_ret ?_
    refine rm_nil ?_
    refine r_none rfl ?_
    exact .inr ⟨k, hO⟩
 ·
  try simp only [decide_eq_true_eq, decide_eq_false_iff_not, Bool.not_eq_true', Bool.not_eq_false', Int.not_lt, Int.not_le, ne_eq, Decidable.not_not, bne_iff_ne, beq_iff_eq, not_true_eq_false, not_false_eq_true] at hc1
  have hdn := hri.done (by omega)
  refine y_exit (look_here ?_)
  refine rm_nil ?_
  refine r_none rfl ?_
  exact .inl ⟨_, ⟨A1, c1, by rw [hdn]; exact hcc1, rfl⟩, by have h9 := hI; rw [← hri.l] at h9; rw [hdn]; exact h9⟩
theorem c_comes (g n : Nat)  (w0 : World) :
    CallR Tryz.prog 86 #[.pointer (some ⟨g, 0, none⟩), .int .i64 (n : Int)] w0 fun v w' => ∃ bn bc : Nat, v = .func (.func 148) #[] #[.pointer (some ⟨bn, 0, none⟩), .pointer (some ⟨bc, 0, none⟩)] ∧ St NoB w0 w' [.obj bn (.cells #[.int .i64 (n : Int)] 3 (0, 0)), .obj bc (.cells #[.pointer (some ⟨g, 0, none⟩)] 130 (0, 0))] := by
 have hS : St NoB w0 w0 [] := St.start w0
 refine c_enter (l := [.pointer (some ⟨g, 0, none⟩), .int .i64 (n : Int), undef, undef, undef, undef]) Tryz.func86 rfl (by simp only [Tryz.ntmps86, List.size_toArray, List.length_cons, List.length_nil, Nat.reduceAdd, Nat.reduceSub, Array.replicate_succ, Array.replicate_zero, List.push_toArray, List.append_toArray, List.nil_append, List.cons_append]) ?_
 refine x_seq fun K1 hK1 => ?_
 refine x_region ?_
 refine m_box hS (fun w1 g1 hS => ?_)
 try simp only [opv, n1, n2, n3, n4, Value.cells, Array.toArray_toList] at hS ⊢
 refine m_box hS (fun w2 g2 hS => ?_)
 try simp only [opv, n1, n2, n3, n4, Value.cells, Array.toArray_toList] at hS ⊢
 refine s_go (s_assign) ?_
 try simp only [opv, n1, n2, n3, n4, Value.cells]
 refine x_nil ?_
 refine hK1 _ _ ?_
 refine x_seq fun K2 hK2 => ?_
 refine x_region ?_
 refine s_go (s_makeFunc) ?_
 try simp only [opv, n1, n2, n3, n4, Value.cells, List.map_toArray, List.map_cons, List.map_nil]
 refine s_go (s_assign) ?_
 try simp only [opv, n1, n2, n3, n4, Value.cells]
 refine x_nil ?_
 refine hK2 _ _ ?_
 refine x_ret ?_
 refine r_tmp rfl ?_
 exact ⟨_, _, rfl, hS.sel (by repeat (first | exact Sel.nil | (refine Sel.cons (by repeat (exact Del.head)) ?_)))⟩
end Go.Proofs.YtffmanidnlbjjaaGreat
set_option linter.unusedSimpArgs false
set_option linter.unusedVariables false
set_option maxHeartbeats 3000000
set_option maxRecDepth 100000
namespace Go.Proofs.YtffmanidnlbjjaaGreat
open Go.RowKit

def folS (l : List (List Int)) (a : List Int) : Bool := decide (l.length = 0) || keyLt (akey (l.getD (l.length - 1) [])) (akey a)
theorem fol_at {s : List (List Int)} {k : Nat} {x : List Int} (hk : k < s.length) (hx : s.getD k [] = x) : folS (s.take k) x = ordAt s k := by
  rw [folS, ordAt, List.length_take, Nat.min_eq_left (by omega), hx]
  by_cases h : k = 0
  · rw [decide_eq_true h, Bool.true_or, Bool.true_or]
  · rw [List.getD_eq_getElem?_getD, List.getElem?_take_of_lt (by omega), ← List.getD_eq_getElem?_getD]
theorem decR_len {bs : List Int} : (decR bs).1.length ≤ 4096 := Nat.le_trans rdA_len (numS_le 4096 0 bs)
theorem decR_ok {bs : List Int} (hw : Byt bs) : AOks (decR bs).1 := rdA_aok (numS_byt hw)
theorem c_codecFol (w0 : World) (go : Nat) (B : Option Addr) (d : Nat) (l : List (List Int)) (hvr : AOks l) (hn : l.length ≤ 1000000000) (a : List Int) (ha : AtomOk a) (hM : St (OwnB [.obj go (.cells #[.slice B (l).length d] 22 (0, 0)), .vec B d 88 21 (l).length (arows (l))]) w0 w0 [.obj go (.cells #[.slice B (l).length d] 22 (0, 0)), .vec B d 88 21 (l).length (arows (l))]) :
    CallR Tryz.prog 84 #[.agg (AA a), .pointer (some ⟨go, 0, none⟩)] w0 fun v w' => v = .bool (folS l a) ∧ St (OwnB [.obj go (.cells #[.slice B (l).length d] 22 (0, 0)), .vec B d 88 21 (l).length (arows (l))]) w0 w' [.obj go (.cells #[.slice B (l).length d] 22 (0, 0)), .vec B d 88 21 (l).length (arows (l))] := by
 have hS := hM
 have hvl := arows_len l
 have hka := ha.key
 refine c_enter (l := [.agg (AA a), .pointer (some ⟨go, 0, none⟩), undef, undef, undef, undef, undef, undef, undef, undef, undef, undef, undef, undef, undef, undef, undef, undef, undef]) Tryz.func84 rfl (by simp only [Tryz.ntmps84, List.size_toArray, List.length_cons, List.length_nil, Nat.reduceAdd, Nat.reduceSub, Array.replicate_succ, Array.replicate_zero, List.push_toArray, List.append_toArray, List.nil_append, List.cons_append]) ?_
 refine x_seq fun K1 hK1 => ?_
 refine x_region ?_
 have hal := ha.len
 have hk := ha.key
 have hv := ha.val
 have hvl := hv.len
 have hkl := hk.len
 have h00 := akey_0 hal
 have htl := vtext_len hvl
 have htb := hv.text
 have hvb := hv.b0
 refine m_box hS (fun w1 g1 hS => ?_)
 try simp only [opv, n1, n2, n3, n4, Value.cells, Array.toArray_toList] at hS ⊢
 refine s_go (s_assign) ?_
 try simp only [opv, n1, n2, n3, n4, Value.cells]
 refine x_nil ?_
 refine hK1 _ _ ?_
 refine x_seq fun K2 hK2 => ?_
 refine x_quiet (by kernel_rfl) (by kernel_rfl) hS ?_
 refine q_go (fun w hS => m_load_obj Tryz.underlying22 (hS := hS) (hv := by rfl)) ?_
 try simp only [opv, n1, n2, n3, n4, Value.cells, List.getElem_toArray, List.getElem_cons_zero, List.getElem_cons_succ]
 refine q_go (fun w hS => s_len_sl Tryz.underlying22) ?_
 try simp only [opv, n1, n2, n3, n4, Value.cells]
 refine q_go (fun w hS => s_eql) ?_
 try simp only [opv, n1, n2, n3, n4, Value.cells]
 refine q_go (fun w hS => s_move) ?_
 try simp only [opv, n1, n2, n3, n4, Value.cells]
 refine q_part 7 rfl (fun hp1 => ?_) (fun hp1 => ?_)
 ·
  try simp only [n3, n4]
  try simp only [decide_eq_true_eq, decide_eq_false_iff_not, Bool.not_eq_true', Bool.not_eq_false', Int.not_lt, Int.not_le, ne_eq, Decidable.not_not] at hp1
  have hV : folS l a = true := by rw [folS, decide_eq_true (by omega), Bool.true_or]
  refine q_off (yi (t := 7) rfl rfl) ?_
  try simp only [opv, n1, n2, n3, n4, Value.cells]
  refine q_off (yi (t := 7) rfl rfl) ?_
  try simp only [opv, n1, n2, n3, n4, Value.cells]
  refine q_off (yi (t := 7) rfl rfl) ?_
  try simp only [opv, n1, n2, n3, n4, Value.cells]
  refine q_off (yi (t := 7) rfl rfl) ?_
  try simp only [opv, n1, n2, n3, n4, Value.cells]
  refine q_off (yi (t := 7) rfl rfl) ?_
  try simp only [opv, n1, n2, n3, n4, Value.cells]
  refine q_off (yi (t := 7) rfl rfl) ?_
  try simp only [opv, n1, n2, n3, n4, Value.cells]
  refine q_off (yi (t := 7) rfl rfl) ?_
  try simp only [opv, n1, n2, n3, n4, Value.cells]
  refine q_off (yi (t := 7) rfl rfl) ?_
  try simp only [opv, n1, n2, n3, n4, Value.cells]
  refine q_off (yi (t := 7) rfl rfl) ?_
  try simp only [opv, n1, n2, n3, n4, Value.cells]
  refine q_off (yi (t := 7) rfl rfl) ?_
  try simp only [opv, n1, n2, n3, n4, Value.cells]
  refine q_go (fun w hS => s_pick_t) ?_
  try simp only [opv, n1, n2, n3, n4, Value.cells]
  refine q_go (fun w hS => s_assign) ?_
  try simp only [opv, n1, n2, n3, n4, Value.cells]
  clear hS
  refine q_nil fun w2 hS => ?_
  refine hK2 _ _ ?_
  refine x_ret ?_
  refine r_tmp rfl ?_
  exact ⟨by rw [hV]; rfl, hS.sel (by repeat (first | exact Sel.nil | (refine Sel.cons (by repeat (first | exact Del.head | apply Del.tail)) ?_)))⟩
 ·
  try simp only [n3, n4]
  try simp only [decide_eq_true_eq, decide_eq_false_iff_not, Bool.not_eq_true', Bool.not_eq_false', Int.not_lt, Int.not_le, ne_eq, Decidable.not_not] at hp1
  have hne : ¬ l.length = 0 := by omega
  obtain ⟨x, hx⟩ : ∃ x, l.getD (l.length - 1) [] = x := ⟨_, rfl⟩
  have hxo : AtomOk x := by rw [← hx]; exact hvr.get (by omega)
  have hkx := hxo.key
  have hV : folS l a = keyLt (akey x) (akey a) := by rw [folS, decide_eq_false hne, Bool.false_or, hx]
  refine q_on (yi (t := 7) rfl rfl) ?_
  refine q_go (fun w hS => m_load_obj Tryz.underlying22 (hS := hS) (hv := by rfl)) ?_
  try simp only [opv, n1, n2, n3, n4, Value.cells, List.getElem_toArray, List.getElem_cons_zero, List.getElem_cons_succ]
  refine q_on (yi (t := 7) rfl rfl) ?_
  refine q_go (fun w hS => m_load_obj Tryz.underlying22 (hS := hS) (hv := by rfl)) ?_
  try simp only [opv, n1, n2, n3, n4, Value.cells, List.getElem_toArray, List.getElem_cons_zero, List.getElem_cons_succ]
  refine q_on (yi (t := 7) rfl rfl) ?_
  refine q_go (fun w hS => s_len_sl Tryz.underlying22) ?_
  try simp only [opv, n1, n2, n3, n4, Value.cells]
  refine q_on (yi (t := 7) rfl rfl) ?_
  refine q_go (fun w hS => s_sub (hc := by exact wr_i64 (by omega) (by omega))) ?_
  try simp only [opv, n1, n2, n3, n4, Value.cells]
  rw [show ((l.length : Int) - 1) = ((l.length - 1 : Nat) : Int) by omega]
  refine q_on (yi (t := 7) rfl rfl) ?_
  refine q_go (fun w hS => m_indexAddr_vec Tryz.underlying22 ti88 (hS := hS)) ?_
  try simp only [opv, n1, n2, n3, n4, Value.cells, Nat.mul_one, Nat.zero_add, Int.toNat_natCast, Int.reduceToNat]
  refine q_on (yi (t := 7) rfl rfl) ?_
  refine q_go (fun w hS => m_fieldAddr_vec Tryz.underlying88 (hi := ti83) (hS := hS)) ?_
  try simp only [opv, n1, n2, n3, n4, Value.cells, Nat.zero_add, Nat.add_zero, List.getElem_toArray, List.getElem_cons_zero, List.getElem_cons_succ]
  refine q_on (yi (t := 7) rfl rfl) ?_
  refine q_go (fun w hS => m_loada_vec Tryz.underlying83 (hi := ti83) (hS := hS) (hfit := by rw [arows_len]; omega)) ?_
  try simp only [opv, n1, n2, n3, n4, Value.cells, List.getElem_toArray, List.getElem_cons_zero, List.getElem_cons_succ]
  rw [arow_key (by omega) hvr, hx]
  refine q_on (yi (t := 7) rfl rfl) ?_
  refine q_go (fun w hS => m_fieldAddr Tryz.underlying88 (hi := ti83)) ?_
  try simp only [opv, n1, n2, n3, n4, Value.cells, Nat.zero_add, Nat.add_zero, List.getElem_toArray, List.getElem_cons_zero, List.getElem_cons_succ]
  refine q_on (yi (t := 7) rfl rfl) ?_
  refine q_go (fun w hS => m_loada_obj Tryz.underlying83 (hi := ti83) (hS := hS) (hfit := by (rw [zi_size (by omega)]; decide))) ?_
  try simp only [opv, n1, n2, n3, n4, Value.cells, List.getElem_toArray, List.getElem_cons_zero, List.getElem_cons_succ]
  rw [atom_key hal]
  refine q_on (yi (t := 7) rfl rfl) ?_
  apply q_call en85
  case H =>
    intro w hS
    try simp only [opv, n1, n2, n3, n4, List.map_toArray, List.map_cons, List.map_nil, List.append_toArray, List.cons_append, List.nil_append, Array.append_empty]
    refine CallR.mono (c_keyLess (akey x) (akey a) hkx hka _) ?_
    rintro _ w1 ⟨rfl, hE⟩; exact ⟨rfl, hS.ext hE⟩
  try simp only [opv, n1, n2, n3, n4, Value.cells]
  refine q_go (fun w hS => s_pick_f) ?_
  try simp only [opv, n1, n2, n3, n4, Value.cells]
  refine q_go (fun w hS => s_assign) ?_
  try simp only [opv, n1, n2, n3, n4, Value.cells]
  clear hS
  refine q_nil fun w3 hS => ?_
  refine hK2 _ _ ?_
  refine x_ret ?_
  refine r_tmp rfl ?_
  exact ⟨by rw [hV]; rfl, hS.sel (by repeat (first | exact Sel.nil | (refine Sel.cons (by repeat (first | exact Del.head | apply Del.tail)) ?_)))⟩
theorem c_codecDecode (w0 : World) (A : Option Addr) (c : Nat) (bs : List Int) (hb : Rd w0 A 1 bs.length (bs.map (Value.int .u8))) (hw : Byt bs) (hn : bs.length ≤ 1000000000)  :
    CallR Tryz.prog 40 #[.slice A bs.length c] w0 fun v w' => ∃ B d, v = .tuple #[.slice B (decP bs).1.length d, .int .i64 (decP bs).2] ∧ St NoB w0 w' [.vec B d 88 21 ((decP bs).1).length (arows ((decP bs).1))] := by
 have hS := St.rd1 (S := NoB) hb
 have hml := numS_le 4096 0 bs
 have hm3 := numS_len 4096 0 bs
 have hmb := numS_byt (m := 4096) (e := 0) hw
 have heo : ErrOk (numS 4096 0 bs).2.1 (numS 4096 0 bs).2.2 := numS_ok (fun h => absurd rfl h)
 have hdl := decR_len (bs := bs)
 have hno := decR_ok hw
 refine y_enter (l := [.slice A bs.length c, undef, undef, undef, undef, undef, undef, undef, undef, undef, undef, undef, undef, undef, undef, undef, undef, undef, undef, undef, undef, undef, undef, undef, undef, undef, undef, undef, undef, undef, undef, undef, undef]) Tryz.func40 rfl (by simp only [Tryz.ntmps40, List.size_toArray, List.length_cons, List.length_nil, Nat.reduceAdd, Nat.reduceSub, Array.replicate_succ, Array.replicate_zero, List.push_toArray, List.append_toArray, List.nil_append, List.cons_append]) ?_
 refine y_seq fun K1 hK1 => ?_
 refine y_region (by kernel_rfl) ?_
 refine m_alloc ti22 hS (fun w1 g1 hS => ?_)
 try simp only [opv, n1, n2, n3, n4, Value.cells, Array.toArray_toList] at hS ⊢
 obtain ⟨go, hgo⟩ : ∃ z, z = g1 := ⟨_, rfl⟩
 rw [← hgo] at hS ⊢
 replace hS := hS.nil_vec 88 21
 refine s_go (s_assign) ?_
 try simp only [opv, n1, n2, n3, n4, Value.cells]
 refine y_nilf ?_
 refine hK1 _ _ ?_
 refine y_seq fun K2 hK2 => ?_
 refine y_region (by kernel_rfl) ?_
 refine s_go (s_move) ?_
 try simp only [opv, n1, n2, n3, n4, Value.cells]
 refine s_call en83 ?_
 try simp only [opv, n1, n2, n3, n4, Value.cells, List.map_toArray, List.map_cons, List.map_nil, List.append_toArray, List.cons_append, List.nil_append, Array.append_empty]
 refine CallR.mono (c_cFrom _ A c bs (hS.hasRd (by repeat (first | exact Has.head | apply Has.tail))) hn) ?_
 rintro _ w2 ⟨g, Ac, cc, rfl, hcc, hC2⟩
 replace hS := hS.call hC2
 simp only [List.cons_append, List.nil_append] at hS
 replace hS := hS.vec_rd (by exact Upd.tail Upd.head)
 try simp only [opv, n1, n2, n3, n4, Value.cells]
 refine m_alloc ti130 hS (fun w3 g3 hS => ?_)
 try simp only [opv, n1, n2, n3, n4, Value.cells, Array.toArray_toList] at hS ⊢
 obtain ⟨gp, hgp⟩ : ∃ z, z = g3 := ⟨_, rfl⟩
 rw [← hgp] at hS ⊢
 refine m_store_obj ti130 (hS := hS) (hc := by (exact splice_whole (by (simp [opv, Value.cells, *]; done)))) (hv := by rfl) (hfit := by (simp only [ic_size, List.length_map, List.size_toArray]; decide)) (h1 := by simp [opv, Value.cells, Value.oneCell']) (h := fun w4 hS => ?_)
 try simp only [opv, n1, n2, n3, n4, Value.cells, Array.toArray_toList] at hS ⊢
 refine y_nilf ?_
 refine hK2 _ _ ?_
 refine y_seq fun K3 hK3 => ?_
 refine y_region (by kernel_rfl) ?_
 refine s_go (s_makeFunc) ?_
 try simp only [opv, n1, n2, n3, n4, Value.cells, List.map_toArray, List.map_cons, List.map_nil]
 refine m_alloc ti104 hS (fun w5 g5 hS => ?_)
 try simp only [opv, n1, n2, n3, n4, Value.cells, Array.toArray_toList] at hS ⊢
 obtain ⟨gf, hgf⟩ : ∃ z, z = g5 := ⟨_, rfl⟩
 rw [← hgf] at hS ⊢
 refine m_store_obj ti104 (hS := hS) (hc := by (exact splice_whole (by (simp [opv, Value.cells, *]; done)))) (hv := by rfl) (hfit := by (simp only [ic_size, List.length_map, List.size_toArray]; decide)) (h1 := by simp [opv, Value.cells, Value.oneCell']) (h := fun w6 hS => ?_)
 try simp only [opv, n1, n2, n3, n4, Value.cells, Array.toArray_toList] at hS ⊢
 refine y_nilf ?_
 refine hK3 _ _ ?_
 refine y_seq fun K4 hK4 => ?_
 refine y_seq fun K5 hK5 => ?_
 refine y_mixed_c (Lc := [.obj gp (.cells #[.pointer (some ⟨g, 0, none⟩)] 130 (0, 0))]) [] 0 [11, 12, 13, 14, 15] (fun f w => ∃ (bn bc : Nat) (Ad : Option Addr) (cd : Nat), f 15 = .func (.func 148) #[] #[.pointer (some ⟨bn, 0, none⟩), .pointer (some ⟨bc, 0, none⟩)] ∧ (numS 4096 0 bs).2.2.length ≤ cd ∧ St NoB w0 w [.obj bn (.cells #[.int .i64 ((numS 4096 0 bs).1 : Int)] 3 (0, 0)), .obj bc (.cells #[.pointer (some ⟨g, 0, none⟩)] 130 (0, 0)), .obj g (.cells #[.int .i64 (numS 4096 0 bs).2.1, .slice Ad ((numS 4096 0 bs).2.2).length cd] 189 (0, 0)), .rd Ad 1 ((numS 4096 0 bs).2.2).length (((numS 4096 0 bs).2.2).map (Value.int .u8)), .obj go (.cells #[.slice none 0 0] 22 (0, 0)), .vec none 0 88 21 0 [], .obj gp (.cells #[.pointer (some ⟨g, 0, none⟩)] 130 (0, 0)), .obj gf (.cells #[.func (.func 84) #[] #[.pointer (some ⟨go, 0, none⟩)]] 104 (0, 0))]) (by kernel_rfl) (by kernel_rfl) (by kernel_rfl) (by decide) (by kernel_rfl) hS (fun w7 hS => ?mixpre301) ?mixrest301
 case mixpre301 =>
  refine p_nil ?_
  simp only [List.length_cons, List.length_nil, Nat.reduceAdd, Nat.reduceSub]
  refine any_go (i := 0) (by rfl) (by decide +kernel) (by decide +kernel) noLate_nil (go_yields w_none (fun w hS => m_load_obj Tryz.underlying130 (hS := hS) (hv := by rfl))) ?_
  try simp only [opv, n1, n2, n3, n4, Value.cells, List.getElem_toArray, List.getElem_cons_zero, List.getElem_cons_succ]
  refine any_go (i := 1) (by rfl) (by decide +kernel) (by decide +kernel) noLate_nil (go_yields w_none (fun w hS => m_load_obj Tryz.underlying130 (hS := hS) (hv := by rfl))) ?_
  try simp only [opv, n1, n2, n3, n4, Value.cells, List.getElem_toArray, List.getElem_cons_zero, List.getElem_cons_succ]
  refine any_step [2] (by kernel_rfl) (by decide) (fun w8 hE => ⟨fun _ => (hS.ext hE).sel (by repeat (first | exact Sel.nil | (refine Sel.cons (by repeat (first | exact Del.head | apply Del.tail)) ?_))), ?_⟩)
  replace hS := hS.ext hE
  intro i hi
  simp only [List.mem_cons, List.not_mem_nil, or_false] at hi
  subst hi
  ·
   refine any_op (by rfl) ?_
   refine s_call en87 ?_
   try simp only [opv, n1, n2, n3, n4, Value.cells, List.map_toArray, List.map_cons, List.map_nil, List.append_toArray, List.cons_append, List.nil_append, Array.append_empty]
   refine CallR.mono (c_cNum _ g 0 Ac cc bs hcc hw hn 4096 (by omega) (hS.owns (by repeat (first | exact Spl.nil | (apply Spl.cons (by repeat (first | exact Del.head | apply Del.tail))))))) ?_
   rintro _ w9 ⟨rfl, Ad, cd, hcd, hRr, hC9⟩
   replace hS := hS.frame (by repeat (first | exact Spl.nil | (apply Spl.cons (by repeat (first | exact Del.head | apply Del.tail))))) hC9 (by intro r hr b hb; simp only [List.mem_cons, List.not_mem_nil, or_false] at hr; rcases hr with rfl | rfl <;> first | (simp [Res.reads] at hb; done) | exact hRr b hb)
   simp only [List.cons_append, List.nil_append] at hS
   try simp only [opv, n1, n2, n3, n4, Value.cells]
   refine x_nil ?_
   refine any_step [3] (by kernel_rfl) (by decide) (fun w10 hE => ⟨fun _ => (hS.ext hE).sel (by repeat (first | exact Sel.nil | (refine Sel.cons (by repeat (first | exact Del.head | apply Del.tail)) ?_))), ?_⟩)
   replace hS := hS.ext hE
   intro i hi
   simp only [List.mem_cons, List.not_mem_nil, or_false] at hi
   subst hi
   ·
    refine any_op (by rfl) ?_
    refine s_go (s_conv Tryz.underlying84 Tryz.underlying3 (hc := (wr_i64 (by omega) (by omega)))) ?_
    try simp only [opv, n1, n2, n3, n4, Value.cells]
    refine x_nil ?_
    refine any_step [4] (by kernel_rfl) (by decide) (fun w11 hE => ⟨fun _ => (hS.ext hE).sel (by repeat (first | exact Sel.nil | (refine Sel.cons (by repeat (first | exact Del.head | apply Del.tail)) ?_))), ?_⟩)
    replace hS := hS.ext hE
    intro i hi
    simp only [List.mem_cons, List.not_mem_nil, or_false] at hi
    subst hi
    ·
     refine any_op (by rfl) ?_
     refine s_call en86 ?_
     try simp only [opv, n1, n2, n3, n4, Value.cells, List.map_toArray, List.map_cons, List.map_nil, List.append_toArray, List.cons_append, List.nil_append, Array.append_empty]
     refine CallR.mono (c_comes g (numS 4096 0 bs).1 _) ?_
     rintro _ w12 ⟨bn, bc, rfl, hC12⟩
     replace hS := hS.call hC12
     simp only [List.cons_append, List.nil_append] at hS
     try simp only [opv, n1, n2, n3, n4, Value.cells]
     refine x_nil ?_
     refine any_nil (by kernel_rfl) (fun w13 hE => ?_)
     replace hS := hS.ext hE
     refine ⟨fun _ => hS.sel (by repeat (first | exact Sel.nil | (refine Sel.cons (by repeat (first | exact Del.head | apply Del.tail)) ?_))), ?_⟩
     refine mix_leaf (by simp only [clob, List.foldl, n1, n2, n3, n4]) ?_
     try simp only [n1, n2]
     exact ⟨_, _, _, _, by trivial, by assumption, hS.sel (by repeat (first | exact Sel.nil | (refine Sel.cons (by repeat (first | exact Del.head | apply Del.tail)) ?_)))⟩
 intro fm1 w14 hM
 obtain ⟨bn, bc, Ad, cd, h15, hcd, hS⟩ := hM
 simp only [clob, List.foldl, n3, n4, h15]
 refine hK5 _ _ ?_
 refine y_block ?_
 refine y_rangeX rfl en148 (show IterX _ _ _ (decR bs).1.length (fun k => [.agg (AA ((decR bs).1.getD k []))]) _ _ (fun L => ∃ (A : Option Addr) (c : Nat), (decR bs).2.2.length ≤ c ∧ L = [.obj bn (.cells #[.int .i64 ((numS 4096 0 bs).1 : Int)] 3 (0, 0)), .obj bc (.cells #[.pointer (some ⟨g, 0, none⟩)] 130 (0, 0)), .obj g (.cells #[.int .i64 (decR bs).2.1, .slice A ((decR bs).2.2).length c] 189 (0, 0)), .rd A 1 ((decR bs).2.2).length (((decR bs).2.2).map (Value.int .u8))]) from i_comes bn bc (numS 4096 0 bs).1 hml g (numS 4096 0 bs).2.1 Ad cd (numS 4096 0 bs).2.2 hcd hmb (by omega) heo) (fun _ => rfl) hS (by repeat (first | exact Spl.nil | (apply Spl.cons (by repeat (exact Del.head))))) (fun k L => k ≤ (decR bs).1.length ∧ ordN (decR bs).1 k = true ∧ ∃ (B : Option Addr) (d : Nat), L = [.obj go (.cells #[.slice B ((decR bs).1.take k).length d] 22 (0, 0)), .vec B d 88 21 ((decR bs).1.take k).length (arows ((decR bs).1.take k)), .obj gp (.cells #[.pointer (some ⟨g, 0, none⟩)] 130 (0, 0)), .obj gf (.cells #[.func (.func 84) #[] #[.pointer (some ⟨go, 0, none⟩)]] 104 (0, 0))]) (fun L => False) [(0, fun L => ∃ (Af : Option Addr) (cf : Nat) (ef : Int) (xf : List Int) (B : Option Addr) (d k : Nat), xf.length ≤ cf ∧ decP bs = ([], 3) ∧ ef = 3 ∧ xf = [] ∧ L = [.obj g (.cells #[.int .i64 ef, .slice Af (xf).length cf] 189 (0, 0)), .rd Af 1 (xf).length ((xf).map (Value.int .u8)), .obj go (.cells #[.slice B ((decR bs).1.take k).length d] 22 (0, 0)), .vec B d 88 21 ((decR bs).1.take k).length (arows ((decR bs).1.take k)), .obj gp (.cells #[.pointer (some ⟨g, 0, none⟩)] 130 (0, 0)), .obj gf (.cells #[.func (.func 84) #[] #[.pointer (some ⟨go, 0, none⟩)]] 104 (0, 0))])] ?rfh1 ?rfr1 (fun D1 T1 w15 R1 Lj hC hJ hS => ?rfd1) (fun D1 T1 w16 R1 hX hS => ?rft1) ?rfe1
 case rfh1 =>
  exact ⟨Nat.zero_le _, rfl, none, 0, rfl⟩
 case rfr1 =>
  intro k1 w17 R1 Lj T1 lr1 hk1 hC hJ hS
  obtain ⟨hk0, hor, B, d, rfl⟩ := hC
  obtain ⟨Aj, cj, zs, hcj, rfl⟩ := hJ
  simp only [List.cons_append, List.nil_append] at hS
  simp only [List.toList_toArray, entL, List.zip_cons_cons, List.zip_nil_left, List.foldl_cons, List.foldl_nil, n3, n4]
  obtain ⟨x, hx⟩ : ∃ x, (decR bs).1.getD k1 [] = x := ⟨_, rfl⟩
  have ha : AtomOk x := by rw [← hx]; exact hno.get (by omega)
  have hal := ha.len
  have hfa := fol_at hk1 hx
  have hst : (decR bs).1.take k1 ++ [x] = (decR bs).1.take (k1 + 1) := by rw [take_snoc hk1, hx]
  have hsl : ((decR bs).1.take k1).length + 1 = ((decR bs).1.take (k1 + 1)).length := by rw [← hst, List.length_append]; rfl
  have htl : ((decR bs).1.take k1).length ≤ 4096 := by rw [List.length_take]; omega
  simp only [hx]
  refine y_region (by kernel_rfl) ?_
  refine m_alloc ti88 hS (fun w18 g18 hS => ?_)
  try simp only [opv, n1, n2, n3, n4, Value.cells, Array.toArray_toList] at hS ⊢
  have h0l : (List.replicate 21 (0 : Int)).length = 21 := rfl
  replace hS : St _ _ w18 (.obj g18 (.cells (AA (List.replicate 21 0)) 88 (0, 0)) :: _) := hS
  refine m_store_obj ti88 (hS := hS) (hc := by exact zi_whole (by omega) (by omega)) (hv := by (show (zi _ _).toArray.size = _; rw [zi_size (by omega)]; rfl)) (hfit := by (rw [zi_size (by omega)]; decide)) (h1 := by exact zi_one _ _) (h := fun w19 hS => ?_)
  try simp only [opv, n1, n2, n3, n4, Value.cells, Array.toArray_toList] at hS ⊢
  refine y_nilf ?_
  refine round_open hS (by repeat (first | exact App.nil | apply App.cons)) (fun w20 T2 hS => ?_)
  simp only [List.cons_append, List.nil_append] at hS
  refine y_block ?_
  refine y_seq fun K6 hK6 => ?_
  refine y_seq fun K7 hK7 => ?_
  refine y_region (by kernel_rfl) ?_
  refine s_go (m_load_obj Tryz.underlying104 (hS := hS) (hv := by rfl)) ?_
  try simp only [opv, n1, n2, n3, n4, Value.cells, List.getElem_toArray, List.getElem_cons_zero, List.getElem_cons_succ]
  refine s_go (m_load_row Tryz.underlying88 (hi := ti88) (hS := hS) (hfit := by (rw [zi_size (by omega)]; rfl))) ?_
  try simp only [opv, n1, n2, n3, n4, Value.cells, List.getElem_toArray, List.getElem_cons_zero, List.getElem_cons_succ]
  refine s_callv (hv := rfl) en84 ?_
  try simp only [opv, n1, n2, n3, n4, Value.cells, List.map_toArray, List.map_cons, List.map_nil, List.append_toArray, List.cons_append, List.nil_append, Array.append_empty]
  refine CallR.mono (c_codecFol _ go B d ((decR bs).1.take k1) (hno.take k1) (by omega) x ha (hS.owns (by repeat (first | exact Spl.nil | (apply Spl.cons (by repeat (first | exact Del.head | apply Del.tail))))))) ?_
  rintro _ w21 ⟨rfl, hC21⟩
  replace hS := hS.frame (by repeat (first | exact Spl.nil | (apply Spl.cons (by repeat (first | exact Del.head | apply Del.tail))))) hC21 (by intro r hr g hg; simp only [List.mem_cons, List.not_mem_nil, or_false] at hr; rcases hr with rfl | rfl <;> (simp [Res.reads] at hg; done))
  simp only [List.cons_append, List.nil_append] at hS
  try simp only [opv, n1, n2, n3, n4, Value.cells]
  refine s_go (s_not) ?_
  try simp only [opv, n1, n2, n3, n4, Value.cells]
  refine y_nilf ?_
  refine hK7 _ _ ?_
  refine y_cond (ht := fun hc1 => ?_) (hf := fun hc1 => ?_)
  ·
   try simp only [decide_eq_true_eq, decide_eq_false_iff_not, Bool.not_eq_true', Bool.not_eq_false', Int.not_lt, Int.not_le, ne_eq, Decidable.not_not, bne_iff_ne, beq_iff_eq, not_true_eq_false, not_false_eq_true] at hc1
   have hfo : folS ((decR bs).1.take k1) x = false := by simpa using hc1
   have hol : ordL (decR bs).1 = false := ord_false (k := k1) (by rw [← hfa, hfo]) (by omega)
   refine y_seq fun K8 hK8 => ?_
   refine y_region (by kernel_rfl) ?_
   refine s_go (m_load_obj Tryz.underlying130 (hS := hS) (hv := by rfl)) ?_
   try simp only [opv, n1, n2, n3, n4, Value.cells, List.getElem_toArray, List.getElem_cons_zero, List.getElem_cons_succ]
   refine s_call en88 ?_
   try simp only [opv, n1, n2, n3, n4, Value.cells, List.map_toArray, List.map_cons, List.map_nil, List.append_toArray, List.cons_append, List.nil_append, Array.append_empty]
   refine CallR.mono (c_cFail _ g 0 Aj cj zs hcj 3 (hS.owns (by repeat (first | exact Spl.nil | (apply Spl.cons (by repeat (first | exact Del.head | apply Del.tail))))))) ?_
   rintro _ w22 ⟨rfl, Af, cf, hcf, hRr, hC22⟩
   replace hS := hS.frame (by repeat (first | exact Spl.nil | (apply Spl.cons (by repeat (first | exact Del.head | apply Del.tail))))) hC22 (by intro r hr b hb; simp only [List.mem_cons, List.not_mem_nil, or_false] at hr; rcases hr with rfl | rfl <;> first | (simp [Res.reads] at hb; done) | exact hRr b hb)
   simp only [List.cons_append, List.nil_append, show errE 0 3 = 3 from rfl, show errX 0 3 zs = [] from rfl] at hS hcf
   try simp only [opv, n1, n2, n3, n4, Value.cells]
   refine y_nilf ?_
   refine hK8 _ _ ?_
   refine y_exit (look_on (by decide) (look_here ?_))
   exact ⟨_, ⟨Af, cf, 3, [], B, d, k1, hcf, by rw [decP, if_pos hol], rfl, rfl, rfl⟩, by simp only [List.cons_append, List.nil_append]; exact hS.sel (by repeat (first | exact Sel.self | (refine Sel.cons (by repeat (first | exact Del.head | apply Del.tail)) ?_) | apply Sel.skip))⟩
  ·
   try simp only [decide_eq_true_eq, decide_eq_false_iff_not, Bool.not_eq_true', Bool.not_eq_false', Int.not_lt, Int.not_le, ne_eq, Decidable.not_not, bne_iff_ne, beq_iff_eq, not_true_eq_false, not_false_eq_true] at hc1
   have hfo : folS ((decR bs).1.take k1) x = true := by simpa using hc1
   refine y_skip ?_
   refine hK6 _ _ ?_
   refine y_region (by kernel_rfl) ?_
   refine s_go (m_load_obj Tryz.underlying22 (hS := hS) (hv := by rfl)) ?_
   try simp only [opv, n1, n2, n3, n4, Value.cells, List.getElem_toArray, List.getElem_cons_zero, List.getElem_cons_succ]
   refine s_go (m_load_row Tryz.underlying88 (hi := ti88) (hS := hS) (hfit := by (rw [zi_size (by omega)]; rfl))) ?_
   try simp only [opv, n1, n2, n3, n4, Value.cells, List.getElem_toArray, List.getElem_cons_zero, List.getElem_cons_succ]
   refine m_buildRow (cells := (AA x)) Tryz.underlying22 ti88 (hc := by simp only [List.map_toArray, List.map_cons, List.map_nil, opv, n1, n2, n3, n4, Value.cells, List.toList_toArray]; exact fill_one (by rfl) (zi_size21 hal) (by rfl)) (hS := hS) (h := fun w23 g23 hS => ?_)
   try simp only [opv, n1, n2, n3, n4, Value.cells, Array.toArray_toList] at hS ⊢
   replace hS := hS.obj_rd (sz := 21) (n := 1) (by exact zi_size21 hal) .head
   rw [arow_one hal] at hS
   refine m_append Tryz.underlying22 ti88 (hS := hS) (h1 := rowsZ_cells _ _) (h := fun w24 A24 C24 hS => ?_)
   try simp only [← List.map_append, ← List.map_drop, ← List.map_take, Nat.mul_one, Nat.zero_mul, Nat.sub_zero, List.drop_zero, List.nil_append, Nat.zero_add] at hS ⊢
   try simp only [opv, n1, n2, n3, n4, Value.cells, Array.toArray_toList] at hS ⊢
   rw [← rowsZ_app, hst, hsl] at hS
   rw [hsl]
   refine m_store_obj ti22 (hS := hS) (hc := by (exact splice_whole (by (simp [opv, Value.cells, *]; done)))) (hv := by rfl) (hfit := by (simp [*]; done)) (h1 := by simp [opv, Value.cells, Value.oneCell']) (h := fun w25 hS => ?_)
   try simp only [opv, n1, n2, n3, n4, Value.cells, Array.toArray_toList] at hS ⊢
   refine y_nilf ?_
   exact ⟨_, ⟨_, ⟨by omega, by rw [ordN, hor, ← hfa, hfo]; rfl, _, _, rfl⟩, rfl⟩, by simp only [List.cons_append, List.nil_append]; exact hS.sel (by repeat (first | exact Sel.self | (refine Sel.cons (by repeat (first | exact Del.head | apply Del.tail)) ?_) | apply Sel.skip))⟩
 case rfd1 =>
  obtain ⟨hk0, hor, B, d, rfl⟩ := hC
  obtain ⟨Af, cf, hcf, rfl⟩ := hJ
  simp only [List.cons_append, List.nil_append] at hS
  rw [List.take_of_length_le (Nat.le_refl _)] at hS
  obtain ⟨ef, xf, hex⟩ : ∃ ef xf, (decR bs).2 = (ef, xf) := ⟨_, _, rfl⟩
  have hD2 : decP bs = if (if 0 < xf.length then (3 : Int) else ef) = 0 then ((decR bs).1, 0) else ([], if 0 < xf.length then 3 else ef) := by rw [decP, if_neg (by rw [ordL, hor]; decide), hex]; rfl
  rw [hex] at hS hcf
  dsimp only at hS hcf
  refine hK4 _ _ ?_
  refine y_seq fun K9 hK9 => ?_
  refine y_seq fun K10 hK10 => ?_
  refine y_region (by kernel_rfl) ?_
  refine s_go (m_load_obj Tryz.underlying130 (hS := hS) (hv := by rfl)) ?_
  try simp only [opv, n1, n2, n3, n4, Value.cells, List.getElem_toArray, List.getElem_cons_zero, List.getElem_cons_succ]
  refine s_call en89 ?_
  try simp only [opv, n1, n2, n3, n4, Value.cells, List.map_toArray, List.map_cons, List.map_nil, List.append_toArray, List.cons_append, List.nil_append, Array.append_empty]
  refine CallR.mono (c_cDone _ g (ef) Af cf (xf) hcf (hS.owns (by repeat (first | exact Spl.nil | (apply Spl.cons (by repeat (first | exact Del.head | apply Del.tail))))))) ?_
  rintro _ w26 ⟨rfl, hC26⟩
  replace hS := hS.frame (by repeat (first | exact Spl.nil | (apply Spl.cons (by repeat (first | exact Del.head | apply Del.tail))))) hC26 (by intro r hr g hg; simp only [List.mem_cons, List.not_mem_nil, or_false] at hr; rcases hr with rfl | rfl | rfl <;> first | (simp [Res.reads] at hg; done) | exact .inr ⟨_, by simp, .inr hg⟩)
  simp only [List.cons_append, List.nil_append] at hS
  try simp only [opv, n1, n2, n3, n4, Value.cells]
  try (have hv3 : (if 0 < xf.length then (3 : Int) else ef) = 3 := by rw [hxf, hef]; rfl)
  try rw [show (if 0 < xf.length then (3 : Int) else ef) = 3 by rw [hxf, hef]; rfl]
  refine s_go (s_assign) ?_
  try simp only [opv, n1, n2, n3, n4, Value.cells]
  refine y_nilf ?_
  refine hK10 _ _ ?_
  refine y_seq fun K11 hK11 => ?_
  refine y_region (by kernel_rfl) ?_
  refine s_go (s_move) ?_
  try simp only [opv, n1, n2, n3, n4, Value.cells]
  refine s_go (s_neq) ?_
  try simp only [opv, n1, n2, n3, n4, Value.cells]
  refine y_nilf ?_
  refine hK11 _ _ ?_
  refine y_cond (ht := fun hc2 => ?_) (hf := fun hc2 => ?_)
  ·
   try simp only [decide_eq_true_eq, decide_eq_false_iff_not, Bool.not_eq_true', Bool.not_eq_false', Int.not_lt, Int.not_le, ne_eq, Decidable.not_not, bne_iff_ne, beq_iff_eq, not_true_eq_false, not_false_eq_true] at hc2
   try have hE : decP bs = ([], if 0 < xf.length then 3 else ef) := by rw [hD2, if_neg hc2]
   refine y_seq fun K12 hK12 => ?_
   refine y_region (by kernel_rfl) ?_
   refine s_go (s_move) ?_
   try simp only [opv, n1, n2, n3, n4, Value.cells]
   refine m_store_obj ti22 (hS := hS) (hc := by (exact splice_whole (by (simp [opv, Value.cells, *]; done)))) (hv := by rfl) (hfit := by (simp [*]; done)) (h1 := by simp [opv, Value.cells, Value.oneCell']) (h := fun w27 hS => ?_)
   try simp only [opv, n1, n2, n3, n4, Value.cells, Array.toArray_toList] at hS ⊢
   refine s_go (s_assign) ?_
   try simp only [opv, n1, n2, n3, n4, Value.cells]
   refine y_nilf ?_
   refine hK12 _ _ ?_
   refine y_ret ?_
   refine rm_mark hS (by repeat (first | exact Upd.head | apply Upd.tail)) (fun w28 hS => ?_)
   refine rm_nil ?_
   refine r_cell_tmp_one rfl Tryz.underlying22 (hS := hS) (hR := ?_)
   exact ⟨none, 0, by rw [hE]; rfl, by rw [hE]; exact (hS.nil_vec 88 21).sel (by repeat (first | exact Sel.nil | (refine Sel.cons (by repeat (exact Del.head)) ?_)))⟩
  ·
   try simp only [decide_eq_true_eq, decide_eq_false_iff_not, Bool.not_eq_true', Bool.not_eq_false', Int.not_lt, Int.not_le, ne_eq, Decidable.not_not, bne_iff_ne, beq_iff_eq, not_true_eq_false, not_false_eq_true] at hc2
   have hE : decP bs = ((decR bs).1, 0) := by rw [hD2, if_pos hc2]
   refine y_skip ?_
   refine hK9 _ _ ?_
   refine y_seq fun K13 hK13 => ?_
   refine y_region (by kernel_rfl) ?_
   refine s_go (m_load_obj Tryz.underlying22 (hS := hS) (hv := by rfl)) ?_
   try simp only [opv, n1, n2, n3, n4, Value.cells, List.getElem_toArray, List.getElem_cons_zero, List.getElem_cons_succ]
   refine m_store_obj ti22 (hS := hS) (hc := by (exact splice_whole (by (simp [opv, Value.cells, *]; done)))) (hv := by rfl) (hfit := by (simp [*]; done)) (h1 := by simp [opv, Value.cells, Value.oneCell']) (h := fun w29 hS => ?_)
   try simp only [opv, n1, n2, n3, n4, Value.cells, Array.toArray_toList] at hS ⊢
   refine s_go (s_assign) ?_
   try simp only [opv, n1, n2, n3, n4, Value.cells]
   refine y_nilf ?_
   refine hK13 _ _ ?_
   refine y_ret ?_
   refine rm_mark hS (by repeat (first | exact Upd.head | apply Upd.tail)) (fun w30 hS => ?_)
   refine rm_nil ?_
   refine r_cell_tmp_one rfl Tryz.underlying22 (hS := hS) (hR := ?_)
   rw [hE]
   exact ⟨_, _, rfl, hS.sel (by repeat (first | exact Sel.nil | (refine Sel.cons (by repeat (first | exact Del.head | apply Del.tail)) ?_)))⟩
 case rft1 =>
  exact hX.elim
 case rfe1 =>
  refine y_ex_cons (fun D1 T1 w31 R1 hX hS => ?_) ?_
  ·
   obtain ⟨Af, cf, ef, xf, B, d, kx, hcf, hE, hef, hxf, rfl⟩ := hX
   simp only [List.cons_append, List.nil_append] at hS
   refine (look_here ?_)
   refine hK4 _ _ ?_
   refine y_seq fun K14 hK14 => ?_
   refine y_seq fun K15 hK15 => ?_
   refine y_region (by kernel_rfl) ?_
   refine s_go (m_load_obj Tryz.underlying130 (hS := hS) (hv := by rfl)) ?_
   try simp only [opv, n1, n2, n3, n4, Value.cells, List.getElem_toArray, List.getElem_cons_zero, List.getElem_cons_succ]
   refine s_call en89 ?_
   try simp only [opv, n1, n2, n3, n4, Value.cells, List.map_toArray, List.map_cons, List.map_nil, List.append_toArray, List.cons_append, List.nil_append, Array.append_empty]
   refine CallR.mono (c_cDone _ g (ef) Af cf (xf) hcf (hS.owns (by repeat (first | exact Spl.nil | (apply Spl.cons (by repeat (first | exact Del.head | apply Del.tail))))))) ?_
   rintro _ w32 ⟨rfl, hC32⟩
   replace hS := hS.frame (by repeat (first | exact Spl.nil | (apply Spl.cons (by repeat (first | exact Del.head | apply Del.tail))))) hC32 (by intro r hr g hg; simp only [List.mem_cons, List.not_mem_nil, or_false] at hr; rcases hr with rfl | rfl | rfl <;> first | (simp [Res.reads] at hg; done) | exact .inr ⟨_, by simp, .inr hg⟩)
   simp only [List.cons_append, List.nil_append] at hS
   try simp only [opv, n1, n2, n3, n4, Value.cells]
   try (have hv3 : (if 0 < xf.length then (3 : Int) else ef) = 3 := by rw [hxf, hef]; rfl)
   try rw [show (if 0 < xf.length then (3 : Int) else ef) = 3 by rw [hxf, hef]; rfl]
   refine s_go (s_assign) ?_
   try simp only [opv, n1, n2, n3, n4, Value.cells]
   refine y_nilf ?_
   refine hK15 _ _ ?_
   refine y_seq fun K16 hK16 => ?_
   refine y_region (by kernel_rfl) ?_
   refine s_go (s_move) ?_
   try simp only [opv, n1, n2, n3, n4, Value.cells]
   refine s_go (s_neq) ?_
   try simp only [opv, n1, n2, n3, n4, Value.cells]
   refine y_nilf ?_
   refine hK16 _ _ ?_
   refine y_cond (ht := fun hc3 => ?_) (hf := fun hc3 => ?_)
   ·
    try simp only [decide_eq_true_eq, decide_eq_false_iff_not, Bool.not_eq_true', Bool.not_eq_false', Int.not_lt, Int.not_le, ne_eq, Decidable.not_not, bne_iff_ne, beq_iff_eq, not_true_eq_false, not_false_eq_true] at hc3
    try have hE : decP bs = ([], if 0 < xf.length then 3 else ef) := by rw [hD2, if_neg hc3]
    refine y_seq fun K17 hK17 => ?_
    refine y_region (by kernel_rfl) ?_
    refine s_go (s_move) ?_
    try simp only [opv, n1, n2, n3, n4, Value.cells]
    refine m_store_obj ti22 (hS := hS) (hc := by (exact splice_whole (by (simp [opv, Value.cells, *]; done)))) (hv := by rfl) (hfit := by (simp [*]; done)) (h1 := by simp [opv, Value.cells, Value.oneCell']) (h := fun w33 hS => ?_)
    try simp only [opv, n1, n2, n3, n4, Value.cells, Array.toArray_toList] at hS ⊢
    refine s_go (s_assign) ?_
    try simp only [opv, n1, n2, n3, n4, Value.cells]
    refine y_nilf ?_
    refine hK17 _ _ ?_
    refine y_ret ?_
    refine rm_mark hS (by repeat (first | exact Upd.head | apply Upd.tail)) (fun w34 hS => ?_)
    refine rm_nil ?_
    refine r_cell_tmp_one rfl Tryz.underlying22 (hS := hS) (hR := ?_)
    exact ⟨none, 0, by rw [hE]; rfl, by rw [hE]; exact (hS.nil_vec 88 21).sel (by repeat (first | exact Sel.nil | (refine Sel.cons (by repeat (exact Del.head)) ?_)))⟩
   ·
    try simp only [decide_eq_true_eq, decide_eq_false_iff_not, Bool.not_eq_true', Bool.not_eq_false', Int.not_lt, Int.not_le, ne_eq, Decidable.not_not, bne_iff_ne, beq_iff_eq, not_true_eq_false, not_false_eq_true] at hc3
    (exfalso; omega)
  exact y_ex_nil
end Go.Proofs.YtffmanidnlbjjaaGreat
set_option linter.unusedSimpArgs false
set_option linter.unusedVariables false
set_option maxHeartbeats 3000000
set_option maxRecDepth 100000
namespace Go.Proofs.YtffmanidnlbjjaaGreat
open Go.RowKit

theorem enc_nil : encP [] = ([0], 0) := by decide +kernel
theorem dec_0 : decP [0] = ([], 0) := by decide +kernel
theorem b0_byt : Byt [0] := by unfold Byt; decide

theorem c_law22alive  (w0 : World) :
    CallR Tryz.prog 39 #[] w0 fun v w' => v = .bool true ∧ Ext w0 w' := by
 have hS : St NoB w0 w0 [] := St.start w0
 replace hS := hS.nil_vec 88 21
 refine c_enter (l := [undef, undef, undef, undef, undef, undef, undef, undef, undef, undef, undef, undef, undef, undef, undef, undef, undef, undef, undef, undef, undef, undef, undef, undef, undef, undef, undef, undef, undef, undef, undef, undef, undef, undef]) Tryz.func39 rfl (by simp only [Tryz.ntmps39, List.size_toArray, List.length_cons, List.length_nil, Nat.reduceAdd, Nat.reduceSub, Array.replicate_succ, Array.replicate_zero, List.push_toArray, List.append_toArray, List.nil_append, List.cons_append]) ?_
 refine x_seq fun K1 hK1 => ?_
 refine x_region ?_
 refine s_go (s_assign) ?_
 try simp only [opv, n1, n2, n3, n4, Value.cells]
 refine x_nil ?_
 refine hK1 _ _ ?_
 refine x_seq fun K2 hK2 => ?_
 refine x_region ?_
 refine s_call en42 ?_
 try simp only [opv, n1, n2, n3, n4, Value.cells, List.map_toArray, List.map_cons, List.map_nil, List.append_toArray, List.cons_append, List.nil_append, Array.append_empty]
 refine CallR.mono (c_codecEncode _ none 0 [] (hS.vecRd (by repeat (exact Has.head))) AOks.nil (by simp)) ?_
 rintro _ w1 ⟨A1, c1, rfl, hC1⟩
 replace hS := hS.call hC1
 simp only [List.cons_append, List.nil_append] at hS
 simp only [enc_nil, dec_0, List.length_cons, List.length_nil, Nat.zero_add] at hS ⊢
 try simp only [opv, n1, n2, n3, n4, Value.cells]
 refine s_go (s_move) ?_
 try simp only [opv, n1, n2, n3, n4, Value.cells]
 refine s_go (s_extract (hv := rfl)) ?_
 try simp only [List.getElem_toArray, List.getElem_cons_zero, List.getElem_cons_succ]
 try simp only [opv, n1, n2, n3, n4, Value.cells]
 refine s_go (s_extract (hv := rfl)) ?_
 try simp only [List.getElem_toArray, List.getElem_cons_zero, List.getElem_cons_succ]
 try simp only [opv, n1, n2, n3, n4, Value.cells]
 refine s_go (s_assign) ?_
 try simp only [opv, n1, n2, n3, n4, Value.cells]
 refine s_go (s_assign) ?_
 try simp only [opv, n1, n2, n3, n4, Value.cells]
 refine x_nil ?_
 refine hK2 _ _ ?_
 refine x_seq fun K3 hK3 => ?_
 refine x_region ?_
 refine s_go (s_move) ?_
 try simp only [opv, n1, n2, n3, n4, Value.cells]
 refine s_call en40 ?_
 try simp only [opv, n1, n2, n3, n4, Value.cells, List.map_toArray, List.map_cons, List.map_nil, List.append_toArray, List.cons_append, List.nil_append, Array.append_empty]
 refine CallR.mono (c_codecDecode _ _ _ [0] (hS.vecRd (by repeat (exact Has.head))) b0_byt (by simp)) ?_
 rintro _ w2 ⟨A2, c2, rfl, hC2⟩
 replace hS := hS.call hC2
 simp only [List.cons_append, List.nil_append] at hS
 simp only [enc_nil, dec_0, List.length_cons, List.length_nil, Nat.zero_add] at hS ⊢
 try simp only [opv, n1, n2, n3, n4, Value.cells]
 refine s_go (s_move) ?_
 try simp only [opv, n1, n2, n3, n4, Value.cells]
 refine s_go (s_extract (hv := rfl)) ?_
 try simp only [List.getElem_toArray, List.getElem_cons_zero, List.getElem_cons_succ]
 try simp only [opv, n1, n2, n3, n4, Value.cells]
 refine s_go (s_extract (hv := rfl)) ?_
 try simp only [List.getElem_toArray, List.getElem_cons_zero, List.getElem_cons_succ]
 try simp only [opv, n1, n2, n3, n4, Value.cells]
 refine s_go (s_assign) ?_
 try simp only [opv, n1, n2, n3, n4, Value.cells]
 refine s_go (s_assign) ?_
 try simp only [opv, n1, n2, n3, n4, Value.cells]
 refine x_nil ?_
 refine hK3 _ _ ?_
 refine x_seq fun K4 hK4 => ?_
 refine x_region ?_
 refine s_go (s_move) ?_
 try simp only [opv, n1, n2, n3, n4, Value.cells]
 refine m_buildRow (cells := #[_]) Tryz.underlying73 ti5 (hc := by simp only [List.map_toArray, List.map_cons, List.map_nil, opv, n1, n2, n3, n4, Value.cells, List.toList_toArray]; (repeat (refine fill_cons rfl rfl (Nat.le_of_ble_eq_true rfl) ?_)); rfl) (hS := hS) (h := fun w3 g3 hS => ?_)
 try simp only [opv, n1, n2, n3, n4, Value.cells, Array.toArray_toList] at hS ⊢
 replace hS := hS.obj_rd (sz := 1) (n := 1) rfl .head
 refine s_call en46 ?_
 try simp only [opv, n1, n2, n3, n4, Value.cells, List.map_toArray, List.map_cons, List.map_nil, List.append_toArray, List.cons_append, List.nil_append, Array.append_empty]
 refine CallR.mono (c_ref03Same _ _ _ _ _ _ _ [0] [0] (hS.vecRd (by repeat (first | exact Has.head | apply Has.tail))) (hS.hasRd (by repeat (exact Has.head))) rfl rfl (by simp)) ?_
 rintro _ w4 ⟨rfl, hE4⟩
 replace hS := hS.ext hE4
 try simp only [opv, n1, n2, n3, n4, Value.cells]
 try simp only [eq_self, decide_true, beq_self_eq_true, Bool.and_self]
 refine s_go (s_move) ?_
 try simp only [opv, n1, n2, n3, n4, Value.cells]
 refine g_on (yi (t := 17) rfl rfl) ?_
 refine s_go (s_move) ?_
 try simp only [opv, n1, n2, n3, n4, Value.cells]
 refine g_on (yi (t := 17) rfl rfl) ?_
 refine s_go (s_eql) ?_
 try simp only [opv, n1, n2, n3, n4, Value.cells]
 try simp only [eq_self, decide_true, beq_self_eq_true, Bool.and_self]
 refine s_go (s_pick_t) ?_
 try simp only [opv, n1, n2, n3, n4, Value.cells]
 refine s_go (s_move) ?_
 try simp only [opv, n1, n2, n3, n4, Value.cells]
 refine g_on (yi (t := 21) rfl rfl) ?_
 refine s_go (s_move) ?_
 try simp only [opv, n1, n2, n3, n4, Value.cells]
 refine g_on (yi (t := 21) rfl rfl) ?_
 refine s_go (s_len_sl Tryz.underlying22) ?_
 try simp only [opv, n1, n2, n3, n4, Value.cells]
 refine g_on (yi (t := 21) rfl rfl) ?_
 refine s_go (s_eql) ?_
 try simp only [opv, n1, n2, n3, n4, Value.cells]
 rw [show decide (((0 : Nat) : Int) = 0) = true from rfl]
 refine s_go (s_pick_t) ?_
 try simp only [opv, n1, n2, n3, n4, Value.cells]
 refine s_go (s_move) ?_
 try simp only [opv, n1, n2, n3, n4, Value.cells]
 refine g_on (yi (t := 26) rfl rfl) ?_
 refine s_go (s_move) ?_
 try simp only [opv, n1, n2, n3, n4, Value.cells]
 refine g_on (yi (t := 26) rfl rfl) ?_
 refine s_go (s_eql) ?_
 try simp only [opv, n1, n2, n3, n4, Value.cells]
 try simp only [eq_self, decide_true, beq_self_eq_true, Bool.and_self]
 refine s_go (s_pick_t) ?_
 try simp only [opv, n1, n2, n3, n4, Value.cells]
 refine s_go (s_move) ?_
 try simp only [opv, n1, n2, n3, n4, Value.cells]
 refine g_on (yi (t := 30) rfl rfl) ?_
 refine s_call en47 ?_
 try simp only [opv, n1, n2, n3, n4, Value.cells, List.map_toArray, List.map_cons, List.map_nil, List.append_toArray, List.cons_append, List.nil_append, Array.append_empty]
 refine CallR.mono (c_codecSize _ none 0 [] (hS.vecRd (by repeat (first | exact Has.head | apply Has.tail))) AOks.nil (by simp)) ?_
 rintro _ w5 ⟨rfl, hE5⟩
 replace hS := hS.ext hE5
 try simp only [opv, n1, n2, n3, n4, Value.cells]
 simp only [enc_nil, List.length_cons, List.length_nil, Nat.zero_add]
 refine g_on (yi (t := 30) rfl rfl) ?_
 refine s_go (s_eql) ?_
 try simp only [opv, n1, n2, n3, n4, Value.cells]
 rw [show decide (((1 : Nat) : Int) = 1) = true from rfl]
 refine s_go (s_pick_t) ?_
 try simp only [opv, n1, n2, n3, n4, Value.cells]
 refine s_go (s_assign) ?_
 try simp only [opv, n1, n2, n3, n4, Value.cells]
 refine x_nil ?_
 refine hK4 _ _ ?_
 refine x_ret ?_
 refine r_tmp rfl ?_
 exact ⟨rfl, hS.ext_of⟩
end Go.Proofs.YtffmanidnlbjjaaGreat
set_option linter.unusedSimpArgs false
set_option linter.unusedVariables false
set_option maxHeartbeats 2000000
set_option maxRecDepth 100000
namespace Go.Proofs.YtffmanidnlbjjaaGreat
open Go.RowKit

theorem rdA_enc : ∀ {s : List (List Int)} {ys : List Int}, AOks s → (∀ a ∈ s, atomR a = true) → rdA s.length 0 (encB s ++ ys) = (s, 0, ys)
  | [], _, _, _ => rfl
  | a :: s, ys, h, hr => by
    have hb : atmS 0 (encB (a :: s) ++ ys) = (a, 0, encB s ++ ys) := by
      rw [atmS_atomS, encB_cons, List.append_assoc]; exact atomS_back (h a (by simp)) (hr a (by simp)) _
    show rdA (s.length + 1) 0 _ = _
    rw [rdA_ok (by rw [hb]), hb]
    dsimp only
    rw [rdA_enc (fun b hb => h b (by simp [hb])) fun b hb => hr b (by simp [hb])]
theorem rgt_ord {s : List (List Int)} : ∀ {n : Nat}, rgt s n = true → ordN s n = true
  | 0, _ => rfl
  | n + 1, h => by
    rw [rgt, Bool.and_eq_true] at h
    have h2 : (atomR (s.getD n []) && ordAt s n) = true := h.2
    rw [Bool.and_eq_true] at h2
    rw [ordN, rgt_ord h.1, h2.2]; rfl
theorem ord_sta {s : List (List Int)} (h : StaR s) : ordL s = true := rgt_ord ((right_iff h.ok).2 h)
theorem dec_enc {l : List (List Int)} (h : AOks l) (hn : (normP l).length ≤ 4096) : decP (encP l).1 = (normP l, 0) ∧ (encP l).2 = 0 := by
  have hs := norm_sta h
  have hE : encP l = (vari (normP l).length ++ encB (normP l), 0) := if_neg (by omega)
  have hR : decR (encP l).1 = (normP l, 0, []) := by
    rw [hE, decR]
    dsimp only
    rw [numS_back (by omega) hn]
    have := rdA_enc (ys := []) hs.ok hs.right
    rw [List.append_nil] at this; exact this
  refine ⟨?_, by rw [hE]⟩
  rw [decP, hR]
  dsimp only
  rw [if_neg (by rw [ord_sta hs]; decide)]; rfl
def bg1 (sd i : Nat) : List Int := mkKey 1 sd [97, 0, 0, 0, 0, 0, 0, 0] (i % 16) (i + 1) ++ mkV 1 nm0
def bgL (sd k : Nat) : List (List Int) := (List.range k).map (bg1 sd)
theorem bgL_succ (sd k : Nat) : bgL sd (k + 1) = bgL sd k ++ [bg1 sd k] := by rw [bgL, List.range_succ, List.map_append]; rfl
theorem bgL_len (sd k : Nat) : (bgL sd k).length = k := by rw [bgL, List.length_map, List.length_range]
theorem bg1_key (sd i : Nat) : akey (bg1 sd i) = mkKey 1 sd [97, 0, 0, 0, 0, 0, 0, 0] (i % 16) (i + 1) := akey_kv (mkKey_len rfl)
theorem bg1_ok {sd i : Nat} (hs : sd < 65536) (h : i < 4294967295) : AtomOk (bg1 sd i) := kv_ok (mkKey_ok rfl (by unfold Byt; decide) (by decide) hs (by omega) (by omega)) ⟨rfl, by decide, by decide, nm0_byt⟩
theorem bg1_right (sd i : Nat) : atomR (bg1 sd i) = true := by
  have hk := bg1_key sd i
  have hv : aval (bg1 sd i) = mkV 1 nm0 := aval_kv (mkKey_len rfl)
  have h0 : kn (bg1 sd i) 0 = 1 := rfl
  rw [atomR, hk, hv, h0]
  have h1 : kn (mkKey 1 sd [97, 0, 0, 0, 0, 0, 0, 0] (i % 16) (i + 1)) 0 = 1 := rfl
  have h11 : kn (mkKey 1 sd [97, 0, 0, 0, 0, 0, 0, 0] (i % 16) (i + 1)) 11 = i + 1 := rfl
  have h10 : kn (mkKey 1 sd [97, 0, 0, 0, 0, 0, 0, 0] (i % 16) (i + 1)) 10 = i % 16 := rfl
  have hi : kitem (mkKey 1 sd [97, 0, 0, 0, 0, 0, 0, 0] (i % 16) (i + 1)) = [97, 0, 0, 0, 0, 0, 0, 0] := rfl
  have hb : valR 1 (mkV 1 nm0) = true := by decide
  have hr : nright [97, 0, 0, 0, 0, 0, 0, 0] = true := by decide
  rw [keyR, if_neg (by rw [h1]; decide), if_pos h1, h11, h10, hi, hb, hr, decide_eq_true (show i + 1 ≠ 0 by omega), decide_eq_true (show i % 16 < 16 by omega)]; rfl
theorem bgL_e {sd k : Nat} (hs : sd < 65536) (h : k ≤ 4200) : EOk (bgL sd k) := by
  refine ⟨fun a ha => ?_, fun a ha => ?_, ?_⟩
  · obtain ⟨i, hi, rfl⟩ := List.mem_map.1 ha
    rw [List.mem_range] at hi
    exact bg1_ok hs (by omega)
  · obtain ⟨i, hi, rfl⟩ := List.mem_map.1 ha
    exact bg1_right sd i
  · unfold KND bgL
    rw [List.pairwise_map]
    refine List.Pairwise.imp ?_ List.pairwise_lt_range
    intro i j hij e
    rw [bg1_key, bg1_key] at e
    have e2 : ((i + 1 : Nat) : Int) = ((j + 1 : Nat) : Int) := congrArg (fun l => l.getD 11 0) e
    omega
theorem encB_byt : ∀ {s : List (List Int)}, AOks s → Byt (encB s)
  | [], _ => fun y hy => by cases hy
  | a :: s, h => by rw [encB_cons]; exact Byt.app (atomOut_byt (h a (by simp))) (encB_byt fun b hb => h b (by simp [hb]))
theorem encP_byt {l : List (List Int)} (h : AOks l) : Byt (encP l).1 := by
  unfold encP
  split
  · intro y hy; cases hy
  · exact Byt.app (vari_byt _) (encB_byt (norm_sta h).ok)
theorem fill_key5c {pl : Nat → Option (Nat × Nat)} {it : List Int} {s c r q : Int} (h0 : pl 0 = some (0, 1)) (h1 : pl 1 = some (1, 1)) (h2 : pl 2 = some (2, 8)) (h3 : pl 3 = some (10, 1)) (h4 : pl 4 = some (11, 1)) (hl : it.length = 8) :
    Instr.fill pl #[.int .u8 0, .int .u16 0, .int .u8 0, .int .u8 0, .int .u8 0, .int .u8 0, .int .u8 0, .int .u8 0, .int .u8 0, .int .u8 0, .int .u8 0, .int .u32 0] [(0, .int .u8 s), (1, .int .u16 c), (2, .agg (ic .u8 it)), (3, .int .u8 r), (4, .int .u32 q)] = some (KA ([s, c] ++ it ++ [r, q])) := by
  match it, hl with
  | [_, _, _, _, _, _, _, _], _ =>
    refine fill_cons h0 rfl (Nat.le_of_ble_eq_true rfl) ?_
    refine fill_cons h1 rfl (Nat.le_of_ble_eq_true rfl) ?_
    refine fill_cons h2 rfl (Nat.le_of_ble_eq_true rfl) ?_
    refine fill_cons h3 rfl (Nat.le_of_ble_eq_true rfl) ?_
    refine fill_cons h4 rfl (Nat.le_of_ble_eq_true rfl) ?_
    rfl
end Go.Proofs.YtffmanidnlbjjaaGreat
set_option linter.unusedSimpArgs false
set_option linter.unusedVariables false
set_option maxHeartbeats 3000000
set_option maxRecDepth 100000
namespace Go.Proofs.YtffmanidnlbjjaaGreat
open Go.RowKit
theorem c_CodecBig (n : Nat) (hn : n < 256) (sd : Nat) (hs : sd < 65536)  (w0 : World) :
    CallR Tryz.prog 11 #[.int .u8 (n : Int), .int .u16 (sd : Int)] w0 fun v w' => v = .bool true ∧ Ext w0 w' := by
 have hS : St NoB w0 w0 [] := St.start w0
 have hn0l : nm0.length = 8 := rfl
 obtain ⟨M, hM⟩ : ∃ M : Nat, M = 4090 + n % 12 := ⟨_, rfl⟩
 have hM1 : M ≤ 4101 := by omega
 refine c_enter (l := [.int .u8 (n : Int), .int .u16 (sd : Int), undef, undef, undef, undef, undef, undef, undef, undef, undef, undef, undef, undef, undef, undef, undef, undef, undef, undef, undef, undef, undef, undef, undef, undef, undef, undef, undef, undef, undef, undef, undef, undef, undef, undef, undef, undef, undef, undef, undef, undef, undef, undef, undef, undef, undef, undef, undef, undef, undef, undef, undef, undef, undef, undef, undef, undef, undef, undef, undef, undef, undef, undef, undef, undef, undef, undef, undef, undef, undef, undef, undef, undef, undef, undef, undef, undef, undef, undef, undef, undef, undef, undef, undef, undef, undef, undef]) Tryz.func11 rfl (by simp only [Tryz.ntmps11, List.size_toArray, List.length_cons, List.length_nil, Nat.reduceAdd, Nat.reduceSub, Array.replicate_succ, Array.replicate_zero, List.push_toArray, List.append_toArray, List.nil_append, List.cons_append]) ?_
 refine x_seq fun K1 hK1 => ?_
 refine x_region ?_
 refine s_go (s_assign) ?_
 try simp only [opv, n1, n2, n3, n4, Value.cells]
 refine x_nil ?_
 refine hK1 _ _ ?_
 refine x_seq fun K2 hK2 => ?_
 refine x_region ?_
 refine s_go (s_assign) ?_
 try simp only [opv, n1, n2, n3, n4, Value.cells]
 refine x_nil ?_
 refine hK2 _ _ ?_
 refine x_seq fun K3 hK3 => ?_
 refine x_region ?_
 refine s_go (s_move) ?_
 try simp only [opv, n1, n2, n3, n4, Value.cells]
 refine s_go (s_conv Tryz.underlying5 Tryz.underlying3 (hc := (wr_i64 (by omega) (by omega)))) ?_
 try simp only [opv, n1, n2, n3, n4, Value.cells]
 refine s_go (s_rem (hc := rem_nat (p := 12))) ?_
 try simp only [opv, n1, n2, n3, n4, Value.cells]
 refine s_go (s_add (hc := by exact wr_i64 (by omega) (by omega))) ?_
 try simp only [opv, n1, n2, n3, n4, Value.cells]
 rw [show (4090 : Int) + ((n % 12 : Nat) : Int) = ((M : Nat) : Int) by omega]
 refine s_go (s_assign) ?_
 try simp only [opv, n1, n2, n3, n4, Value.cells]
 refine x_nil ?_
 refine hK3 _ _ ?_
 refine x_seq fun K4 hK4 => ?_
 refine x_seq fun K5 hK5 => ?_
 refine x_region ?_
 refine s_go (s_assign) ?_
 try simp only [opv, n1, n2, n3, n4, Value.cells]
 refine x_nil ?_
 refine hK5 _ _ ?_
 refine x_block ?_
 refine x_loop [5, 7, 18, 19, 20, 21, 22, 23, 24, 25, 26, 27, 28, 29, 30, 31, 32, 33, 34, 35, 36] (fun m f w => ∃ (k : Nat) (D : Option Addr) (e : Nat), k ≤ M ∧ m = M - k ∧ f 7 = .int .i64 (k : Int) ∧ f 5 = .slice D (bgL sd k).length e ∧ St NoB w0 w [.vec D e 88 21 (bgL sd k).length (arows (bgL sd k))]) (M) ?init1 (fun m1 f1 wl1 hI => ?_)
 case init1 =>
  try simp only [opv, n1, n2, n3, n4, Value.cells]
  replace hS := hS.nil_vec 88 21
  exact ⟨0, none, 0, by omega, rfl, rfl, rfl, hS⟩
 obtain ⟨k, D, e, hk, hm, h7, h5, hS⟩ := hI
 simp only [clob, List.foldl, n3, n4, h7, h5]
 have hcl := bgL_len sd k
 refine x_seq fun K6 hK6 => ?_
 refine x_seq fun K7 hK7 => ?_
 refine x_region ?_
 refine s_go (s_move) ?_
 try simp only [opv, n1, n2, n3, n4, Value.cells]
 refine s_go (s_move) ?_
 try simp only [opv, n1, n2, n3, n4, Value.cells]
 refine s_go (s_lss) ?_
 try simp only [opv, n1, n2, n3, n4, Value.cells]
 refine x_nil ?_
 refine hK7 _ _ ?_
 refine x_cond (ht := fun hc1 => ?_) (hf := fun hc1 => ?_)
 ·
  try simp only [decide_eq_true_eq, decide_eq_false_iff_not, Bool.not_eq_true', Bool.not_eq_false', Int.not_lt, Int.not_le, ne_eq, Decidable.not_not, bne_iff_ne, beq_iff_eq, not_true_eq_false, not_false_eq_true] at hc1
  have hao : AtomOk (bg1 sd k) := bg1_ok hs (by omega)
  have hal := hao.len
  have hk12 := hao.key.len
  have hke := bg1_key sd k
  have hk12b := hk12
  rw [hke] at hk12b
  refine x_skip ?_
  refine hK6 _ _ ?_
  refine x_seq fun K8 hK8 => ?_
  refine x_block ?_
  refine x_region ?_
  refine s_go (s_move) ?_
  try simp only [opv, n1, n2, n3, n4, Value.cells]
  refine s_go (s_move) ?_
  try simp only [opv, n1, n2, n3, n4, Value.cells]
  refine s_go (s_build_arr (cells := #[_, .int .u8 0, .int .u8 0, .int .u8 0, .int .u8 0, .int .u8 0, .int .u8 0, .int .u8 0]) Tryz.underlying41 ti41 ti5 (hc := by simp only [List.map_toArray, List.map_cons, List.map_nil, opv, n1, n2, n3, n4, Value.cells, List.toList_toArray]; (repeat (refine fill_cons rfl rfl (Nat.le_of_ble_eq_true rfl) ?_)); rfl)) ?_
  try simp only [opv, n1, n2, n3, n4, Value.cells]
  rw [show (#[.int .u8 97, .int .u8 0, .int .u8 0, .int .u8 0, .int .u8 0, .int .u8 0, .int .u8 0, .int .u8 0] : Array Value) = ic .u8 [97, 0, 0, 0, 0, 0, 0, 0] from rfl]
  refine s_go (s_move) ?_
  try simp only [opv, n1, n2, n3, n4, Value.cells]
  refine s_go (s_rem (hc := rem_nat (p := 16))) ?_
  try simp only [opv, n1, n2, n3, n4, Value.cells]
  refine s_go (s_conv Tryz.underlying3 Tryz.underlying5 (hc := (wr_u8 (by omega) (by omega)))) ?_
  try simp only [opv, n1, n2, n3, n4, Value.cells]
  refine s_go (s_move) ?_
  try simp only [opv, n1, n2, n3, n4, Value.cells]
  refine s_go (s_add (hc := by exact wr_i64 (by omega) (by omega))) ?_
  try simp only [opv, n1, n2, n3, n4, Value.cells]
  refine s_go (s_conv Tryz.underlying3 Tryz.underlying24 (hc := (wr_u32 (by omega) (by omega)))) ?_
  try simp only [opv, n1, n2, n3, n4, Value.cells]
  rw [show ((k : Int) + 1) = ((k + 1 : Nat) : Int) by omega]
  refine s_go (s_build_struct (cells := (KA (mkKey 1 sd [97, 0, 0, 0, 0, 0, 0, 0] (k % 16) (k + 1)))) Tryz.underlying83 ti83 bp83 (hc := by simp only [List.map_toArray, List.map_cons, List.map_nil, opv, n1, n2, n3, n4, Value.cells, List.toList_toArray]; exact fill_key5c (by rfl) (by rfl) (by rfl) (by rfl) (by rfl) rfl)) ?_
  try simp only [opv, n1, n2, n3, n4, Value.cells]
  refine s_go (s_build_struct (cells := (VA (mkV 1 nm0))) Tryz.underlying86 ti86 bp86 (hc := by simp only [List.map_toArray, List.map_cons, List.map_nil, opv, n1, n2, n3, n4, Value.cells, List.toList_toArray]; (repeat (refine fill_cons rfl rfl (Nat.le_of_ble_eq_true rfl) ?_)); rfl)) ?_
  try simp only [opv, n1, n2, n3, n4, Value.cells]
  refine s_go (s_build_struct (cells := (AA (bg1 sd k))) Tryz.underlying88 ti88 bp88 (hc := by simp only [List.map_toArray, List.map_cons, List.map_nil, opv, n1, n2, n3, n4, Value.cells, List.toList_toArray]; exact fill_atom (by rfl) (by rfl) (by rfl) hk12b (mkV_len hn0l))) ?_
  try simp only [opv, n1, n2, n3, n4, Value.cells]
  refine m_buildRow (cells := (AA (bg1 sd k))) Tryz.underlying22 ti88 (hc := by simp only [List.map_toArray, List.map_cons, List.map_nil, opv, n1, n2, n3, n4, Value.cells, List.toList_toArray]; exact fill_one (by rfl) (zi_size21 hal) (by rfl)) (hS := hS) (h := fun w1 g1 hS => ?_)
  try simp only [opv, n1, n2, n3, n4, Value.cells, Array.toArray_toList] at hS ⊢
  replace hS := hS.obj_rd (sz := 21) (n := 1) (by exact zi_size21 hal) .head
  rw [arow_one hal] at hS
  refine m_append Tryz.underlying22 ti88 (hS := hS) (h1 := rowsZ_cells _ _) (h := fun w2 A2 C2 hS => ?_)
  try simp only [← List.map_append, ← List.map_drop, ← List.map_take, Nat.mul_one, Nat.zero_mul, Nat.sub_zero, List.drop_zero, List.nil_append, Nat.zero_add] at hS ⊢
  try simp only [opv, n1, n2, n3, n4, Value.cells, Array.toArray_toList] at hS ⊢
  rw [add_one] at hS
  refine s_go (s_assign) ?_
  try simp only [opv, n1, n2, n3, n4, Value.cells]
  refine x_nil ?_
  refine hK8 _ _ ?_
  refine x_region ?_
  refine s_go (s_move) ?_
  try simp only [opv, n1, n2, n3, n4, Value.cells]
  refine s_go (s_add (hc := by exact wr_i64 (by omega) (by omega))) ?_
  try simp only [opv, n1, n2, n3, n4, Value.cells]
  refine s_go (s_assign) ?_
  try simp only [opv, n1, n2, n3, n4, Value.cells]
  refine x_nil ?_
  refine loop_back (m' := M - (k + 1)) (by simp only [clob, List.foldl, n1, n2, n3, n4]) ?_ ?_
  · try simp only [opv, n1, n2, n3, n4, Value.cells]
    exact ⟨k + 1, _, _, by omega, by omega, by rfl, by rw [bgL_succ, List.length_append]; rfl, by rw [bgL_succ, List.length_append]; exact hS.sel (by repeat (first | exact Sel.nil | (refine Sel.cons (by repeat (exact Del.head)) ?_)))⟩
  · omega
 ·
  try simp only [decide_eq_true_eq, decide_eq_false_iff_not, Bool.not_eq_true', Bool.not_eq_false', Int.not_lt, Int.not_le, ne_eq, Decidable.not_not, bne_iff_ne, beq_iff_eq, not_true_eq_false, not_false_eq_true] at hc1
  obtain rfl : M = k := by omega
  have hbe := bgL_e hs (k := M) (by omega)
  have hbl : (normP (bgL sd M)).length = M := by rw [norm_elen hbe, bgL_len]
  refine x_exit (look_here ?_)
  refine hK4 _ _ ?_
  refine x_seq fun K9 hK9 => ?_
  refine x_region ?_
  refine s_go (s_move) ?_
  try simp only [opv, n1, n2, n3, n4, Value.cells]
  refine s_call en42 ?_
  try simp only [opv, n1, n2, n3, n4, Value.cells, List.map_toArray, List.map_cons, List.map_nil, List.append_toArray, List.cons_append, List.nil_append, Array.append_empty]
  refine CallR.mono (c_codecEncode _ D e (bgL sd M) (hS.vecRd (by repeat (exact Has.head))) hbe.ok (by omega)) ?_
  rintro _ w3 ⟨A3, c3, rfl, hC3⟩
  replace hS := hS.call hC3
  simp only [List.cons_append, List.nil_append] at hS
  try simp only [opv, n1, n2, n3, n4, Value.cells]
  refine s_go (s_move) ?_
  try simp only [opv, n1, n2, n3, n4, Value.cells]
  refine s_go (s_extract (hv := rfl)) ?_
  try simp only [List.getElem_toArray, List.getElem_cons_zero, List.getElem_cons_succ]
  try simp only [opv, n1, n2, n3, n4, Value.cells]
  refine s_go (s_extract (hv := rfl)) ?_
  try simp only [List.getElem_toArray, List.getElem_cons_zero, List.getElem_cons_succ]
  try simp only [opv, n1, n2, n3, n4, Value.cells]
  refine s_go (s_assign) ?_
  try simp only [opv, n1, n2, n3, n4, Value.cells]
  refine s_go (s_assign) ?_
  try simp only [opv, n1, n2, n3, n4, Value.cells]
  refine x_nil ?_
  refine hK9 _ _ ?_
  refine x_seq fun K10 hK10 => ?_
  refine x_seq fun K11 hK11 => ?_
  refine x_region ?_
  refine s_go (s_move) ?_
  try simp only [opv, n1, n2, n3, n4, Value.cells]
  refine s_go (s_gtr) ?_
  try simp only [opv, n1, n2, n3, n4, Value.cells]
  refine x_nil ?_
  refine hK11 _ _ ?_
  refine x_cond (ht := fun hc2 => ?_) (hf := fun hc2 => ?_)
  ·
   try simp only [decide_eq_true_eq, decide_eq_false_iff_not, Bool.not_eq_true', Bool.not_eq_false', Int.not_lt, Int.not_le, ne_eq, Decidable.not_not, bne_iff_ne, beq_iff_eq, not_true_eq_false, not_false_eq_true] at hc2
   have hb9 : encP (bgL sd M) = ([], 15) := if_pos (by rw [hbl]; omega)
   have hr9 : rowP (bgL sd M) = ([], 15) := by rw [rowP, hb9]; exact if_neg (fun h => absurd h.1 (by decide))
   simp only [hb9, List.length_nil] at hS ⊢
   refine x_seq fun K12 hK12 => ?_
   refine x_region ?_
   refine s_go (s_move) ?_
   try simp only [opv, n1, n2, n3, n4, Value.cells]
   refine s_call en44 ?_
   try simp only [opv, n1, n2, n3, n4, Value.cells, List.map_toArray, List.map_cons, List.map_nil, List.append_toArray, List.cons_append, List.nil_append, Array.append_empty]
   refine CallR.mono (c_codecRows _ D e (bgL sd M) (hS.vecRd (by repeat (first | exact Has.head | apply Has.tail))) hbe.ok (by omega)) ?_
   rintro _ w4 ⟨A4, c4, rfl, hC4⟩
   replace hS := hS.call hC4
   simp only [List.cons_append, List.nil_append] at hS
   simp only [hr9, List.length_nil] at hS ⊢
   try simp only [opv, n1, n2, n3, n4, Value.cells]
   refine s_go (s_move) ?_
   try simp only [opv, n1, n2, n3, n4, Value.cells]
   refine s_go (s_extract (hv := rfl)) ?_
   try simp only [List.getElem_toArray, List.getElem_cons_zero, List.getElem_cons_succ]
   try simp only [opv, n1, n2, n3, n4, Value.cells]
   refine s_go (s_extract (hv := rfl)) ?_
   try simp only [List.getElem_toArray, List.getElem_cons_zero, List.getElem_cons_succ]
   try simp only [opv, n1, n2, n3, n4, Value.cells]
   refine s_go (s_assign) ?_
   try simp only [opv, n1, n2, n3, n4, Value.cells]
   refine s_go (s_assign) ?_
   try simp only [opv, n1, n2, n3, n4, Value.cells]
   refine x_nil ?_
   refine hK12 _ _ ?_
   refine x_seq fun K13 hK13 => ?_
   refine x_region ?_
   refine s_go (s_move) ?_
   try simp only [opv, n1, n2, n3, n4, Value.cells]
   refine s_go (s_eql) ?_
   try simp only [opv, n1, n2, n3, n4, Value.cells]
   try simp only [eq_self, decide_true, beq_self_eq_true, Bool.and_self]
   refine s_go (s_move) ?_
   try simp only [opv, n1, n2, n3, n4, Value.cells]
   refine g_on (yi (t := 51) rfl rfl) ?_
   refine s_go (s_move) ?_
   try simp only [opv, n1, n2, n3, n4, Value.cells]
   refine g_on (yi (t := 51) rfl rfl) ?_
   refine s_go (s_eql) ?_
   try simp only [opv, n1, n2, n3, n4, Value.cells]
   try simp only [eq_self, decide_true, beq_self_eq_true, Bool.and_self]
   refine s_go (s_pick_t) ?_
   try simp only [opv, n1, n2, n3, n4, Value.cells]
   refine s_go (s_move) ?_
   try simp only [opv, n1, n2, n3, n4, Value.cells]
   refine g_on (yi (t := 55) rfl rfl) ?_
   refine s_go (s_move) ?_
   try simp only [opv, n1, n2, n3, n4, Value.cells]
   refine g_on (yi (t := 55) rfl rfl) ?_
   refine s_go (s_len_sl Tryz.underlying73) ?_
   try simp only [opv, n1, n2, n3, n4, Value.cells]
   refine g_on (yi (t := 55) rfl rfl) ?_
   refine s_go (s_eql) ?_
   try simp only [opv, n1, n2, n3, n4, Value.cells]
   rw [show decide (((0 : Nat) : Int) = 0) = true from rfl]
   refine s_go (s_pick_t) ?_
   try simp only [opv, n1, n2, n3, n4, Value.cells]
   refine s_go (s_move) ?_
   try simp only [opv, n1, n2, n3, n4, Value.cells]
   refine g_on (yi (t := 60) rfl rfl) ?_
   refine s_go (s_move) ?_
   try simp only [opv, n1, n2, n3, n4, Value.cells]
   refine g_on (yi (t := 60) rfl rfl) ?_
   refine s_call en47 ?_
   try simp only [opv, n1, n2, n3, n4, Value.cells, List.map_toArray, List.map_cons, List.map_nil, List.append_toArray, List.cons_append, List.nil_append, Array.append_empty]
   refine CallR.mono (c_codecSize _ D e (bgL sd M) (hS.vecRd (by repeat (first | exact Has.head | apply Has.tail))) hbe.ok (by omega)) ?_
   rintro _ w5 ⟨rfl, hE5⟩
   replace hS := hS.ext hE5
   try simp only [opv, n1, n2, n3, n4, Value.cells]
   simp only [hb9, List.length_nil]
   refine g_on (yi (t := 60) rfl rfl) ?_
   refine s_go (s_eql) ?_
   try simp only [opv, n1, n2, n3, n4, Value.cells]
   rw [show decide (((0 : Nat) : Int) = 0) = true from rfl]
   refine s_go (s_pick_t) ?_
   try simp only [opv, n1, n2, n3, n4, Value.cells]
   refine s_go (s_move) ?_
   try simp only [opv, n1, n2, n3, n4, Value.cells]
   refine g_on (yi (t := 65) rfl rfl) ?_
   refine s_call en39 ?_
   try simp only [opv, n1, n2, n3, n4, Value.cells, List.map_toArray, List.map_cons, List.map_nil, List.append_toArray, List.cons_append, List.nil_append, Array.append_empty]
   refine CallR.mono (c_law22alive _) ?_
   rintro _ w6 ⟨rfl, hE6⟩
   replace hS := hS.ext hE6
   try simp only [opv, n1, n2, n3, n4, Value.cells]
   refine s_go (s_pick_t) ?_
   try simp only [opv, n1, n2, n3, n4, Value.cells]
   refine s_go (s_assign) ?_
   try simp only [opv, n1, n2, n3, n4, Value.cells]
   refine x_nil ?_
   refine hK13 _ _ ?_
   refine x_ret ?_
   refine r_tmp rfl ?_
   exact ⟨rfl, hS.ext_of⟩
  ·
   try simp only [decide_eq_true_eq, decide_eq_false_iff_not, Bool.not_eq_true', Bool.not_eq_false', Int.not_lt, Int.not_le, ne_eq, Decidable.not_not, bne_iff_ne, beq_iff_eq, not_true_eq_false, not_false_eq_true] at hc2
   have hle : (normP (bgL sd M)).length ≤ 4096 := by rw [hbl]; omega
   have hd9 := dec_enc hbe.ok hle
   refine x_skip ?_
   refine hK10 _ _ ?_
   refine x_seq fun K14 hK14 => ?_
   refine x_region ?_
   refine s_go (s_move) ?_
   try simp only [opv, n1, n2, n3, n4, Value.cells]
   refine s_call en40 ?_
   try simp only [opv, n1, n2, n3, n4, Value.cells, List.map_toArray, List.map_cons, List.map_nil, List.append_toArray, List.cons_append, List.nil_append, Array.append_empty]
   refine CallR.mono (c_codecDecode _ _ _ (encP (bgL sd M)).1 (hS.vecRd (by repeat (exact Has.head))) (encP_byt hbe.ok) (by have := encP_len hbe.ok; omega)) ?_
   rintro _ w7 ⟨A7, c7, rfl, hC7⟩
   replace hS := hS.call hC7
   simp only [List.cons_append, List.nil_append] at hS
   simp only [hd9.1, hd9.2, hbl] at hS ⊢
   try simp only [opv, n1, n2, n3, n4, Value.cells]
   refine s_go (s_move) ?_
   try simp only [opv, n1, n2, n3, n4, Value.cells]
   refine s_go (s_extract (hv := rfl)) ?_
   try simp only [List.getElem_toArray, List.getElem_cons_zero, List.getElem_cons_succ]
   try simp only [opv, n1, n2, n3, n4, Value.cells]
   refine s_go (s_extract (hv := rfl)) ?_
   try simp only [List.getElem_toArray, List.getElem_cons_zero, List.getElem_cons_succ]
   try simp only [opv, n1, n2, n3, n4, Value.cells]
   refine s_go (s_assign) ?_
   try simp only [opv, n1, n2, n3, n4, Value.cells]
   refine s_go (s_assign) ?_
   try simp only [opv, n1, n2, n3, n4, Value.cells]
   refine x_nil ?_
   refine hK14 _ _ ?_
   refine x_seq fun K15 hK15 => ?_
   refine x_region ?_
   refine s_go (s_move) ?_
   try simp only [opv, n1, n2, n3, n4, Value.cells]
   refine s_go (s_eql) ?_
   try simp only [opv, n1, n2, n3, n4, Value.cells]
   try simp only [eq_self, decide_true, beq_self_eq_true, Bool.and_self]
   refine s_go (s_move) ?_
   try simp only [opv, n1, n2, n3, n4, Value.cells]
   refine g_on (yi (t := 75) rfl rfl) ?_
   refine s_go (s_move) ?_
   try simp only [opv, n1, n2, n3, n4, Value.cells]
   refine g_on (yi (t := 75) rfl rfl) ?_
   refine s_go (s_eql) ?_
   try simp only [opv, n1, n2, n3, n4, Value.cells]
   try simp only [eq_self, decide_true, beq_self_eq_true, Bool.and_self]
   refine s_go (s_pick_t) ?_
   try simp only [opv, n1, n2, n3, n4, Value.cells]
   refine s_go (s_move) ?_
   try simp only [opv, n1, n2, n3, n4, Value.cells]
   refine g_on (yi (t := 79) rfl rfl) ?_
   refine s_go (s_move) ?_
   try simp only [opv, n1, n2, n3, n4, Value.cells]
   refine g_on (yi (t := 79) rfl rfl) ?_
   refine s_go (s_len_sl Tryz.underlying22) ?_
   try simp only [opv, n1, n2, n3, n4, Value.cells]
   refine g_on (yi (t := 79) rfl rfl) ?_
   refine s_go (s_move) ?_
   try simp only [opv, n1, n2, n3, n4, Value.cells]
   refine g_on (yi (t := 79) rfl rfl) ?_
   refine s_go (s_eql) ?_
   try simp only [opv, n1, n2, n3, n4, Value.cells]
   try simp only [eq_self, decide_true, beq_self_eq_true, Bool.and_self]
   refine s_go (s_pick_t) ?_
   try simp only [opv, n1, n2, n3, n4, Value.cells]
   refine s_go (s_move) ?_
   try simp only [opv, n1, n2, n3, n4, Value.cells]
   refine g_on (yi (t := 85) rfl rfl) ?_
   refine s_call en39 ?_
   try simp only [opv, n1, n2, n3, n4, Value.cells, List.map_toArray, List.map_cons, List.map_nil, List.append_toArray, List.cons_append, List.nil_append, Array.append_empty]
   refine CallR.mono (c_law22alive _) ?_
   rintro _ w8 ⟨rfl, hE8⟩
   replace hS := hS.ext hE8
   try simp only [opv, n1, n2, n3, n4, Value.cells]
   refine s_go (s_pick_t) ?_
   try simp only [opv, n1, n2, n3, n4, Value.cells]
   refine s_go (s_assign) ?_
   try simp only [opv, n1, n2, n3, n4, Value.cells]
   refine x_nil ?_
   refine hK15 _ _ ?_
   refine x_ret ?_
   refine r_tmp rfl ?_
   exact ⟨rfl, hS.ext_of⟩
end Go.Proofs.YtffmanidnlbjjaaGreat
namespace Go.Proofs.YtffmanidnlbjjaaGreat
open Go.ChangeShapes Go.WideShapes Go.ChangeAt Go.RowKit
theorem own0 : ownKnob Tryz.prog.godebug = none := by kernel_rfl
theorem laidOut0 : laidOutB Tryz.prog = true := by kernel_rfl
end Go.Proofs.YtffmanidnlbjjaaGreat
namespace Go.Proofs.YtffmanidnlbjjaaGreat
theorem ws_cons {c : Char} (h : c ≠ Char.ofNat 32) (x : List Char) : wordsSigns (c :: x) = (match wordsSigns x with | w :: ws => (c :: w) :: ws | [] => [[c]]) := by
  conv => lhs; unfold wordsSigns
  split
  · simp_all
  · next h1 => exact absurd (by simpa using (List.cons.inj h1).1) h
  · next h1 => obtain ⟨rfl, rfl⟩ := List.cons.inj h1; rfl
theorem ws_app (b : List Char) : ∀ (a : List Char), (∀ c ∈ a, c ≠ Char.ofNat 32) → wordsSigns (a ++ Char.ofNat 32 :: b) = a :: wordsSigns b
  | [], _ => rfl
  | c :: r, h => by
    rw [List.cons_append, ws_cons (h c (by simp)), ws_app b r (fun x hx => h x (by simp [hx]))]
/-- the head's words: harness, a sum, cut -/
theorem head_words {P : Program} {s b : List Char} (he : P.initOrder = String.ofList ("harness".toList ++ Char.ofNat 32 :: (s ++ Char.ofNat 32 :: ("cut".toList ++ Char.ofNat 32 :: b)))) (hs : isSumSigns s = true) (hb : ∀ c ∈ s, c ≠ Char.ofNat 32) :
    ∃ R, behindMainWord (wordsSigns P.initOrder.toList) = "cut".toList :: R := by
  refine ⟨wordsSigns b, ?_⟩
  rw [he, String.toList_ofList, ws_app _ _ (by decide), ws_app _ _ hb, ws_app _ _ (by decide)]
  simp only [behindMainWord, hs, beq_self_eq_true, Bool.true_or, Bool.and_self, if_true]
theorem e_gc : ("cut".toList == "gc".toList) = false := by decide
theorem e_spec : ("cut".toList == "spec".toList) = false := by decide
theorem e_car : ("cut".toList == "carried".toList) = false := by decide
theorem e_sl (R : List (List Char)) : stripLifts liftWords ("cut".toList :: R) = ([], "cut".toList :: R) := by
  have h : ∀ (l : List String), (∀ o ∈ l, ("cut".toList == o.toList) = false) → stripLifts l ("cut".toList :: R) = ([], "cut".toList :: R) := by
    intro l
    induction l with
    | nil => intro _; rfl
    | cons o os ih => intro hl; rw [stripLifts, hl o (by simp)]; simp only [Bool.false_eq_true, if_false]; exact ih fun x hx => hl x (by simp [hx])
  exact h liftWords (by decide)
section
variable {P : Program} (h : ∃ R, behindMainWord (wordsSigns P.initOrder.toList) = "cut".toList :: R)
include h
theorem make_of : P.make = some .cut := by
  obtain ⟨R, h⟩ := h
  unfold Program.make
  rw [h]
  simp only [e_gc, e_spec, beq_self_eq_true, Bool.or_self, Bool.true_or, Bool.false_eq_true, if_false, if_true]
theorem lifts_of : P.liftsFinal = false := by
  obtain ⟨R, h⟩ := h
  unfold Program.liftsFinal Program.headLifts
  rw [h, e_sl]
  show (_ || _) = false
  rfl
theorem enter_of (hl : P.laysLater = false) (hr : P.bearsReflect = false) (hd : P.doorFits [] = true) : P.mayEnter = true := by
  obtain ⟨R, h⟩ := h
  unfold Program.mayEnter
  rw [h]
  dsimp only
  rw [e_sl, hl, hr]
  simp only [hd, e_gc, e_spec, e_car, beq_self_eq_true, Bool.or_self, Bool.false_and, Bool.not_false, Bool.or_true, Bool.and_true, List.head?_cons, List.contains_nil]
end
theorem closed_of {P : Program} {f : FuncId} {fn : Func} {s : ChangeSpec} {c : OpenClaim} (hm : P.make = some .cut) (hl : P.liftsFinal = false) (he : P.mayEnter = true) (h2 : laidOutB P = true) (h3 : mapsRowed P = true) (hst : (P.stops == []) = true) (hk : (P.stopKnobs == []) = true)
    (hp : P.plainKeys = c.plainKeys) (hh : P.stopsHeard = true) (i1 : P.inPlace f = c.inPlace) (i2 : P.unfollowed f = c.unfollowed) (i3 : P.recurses f = c.recurses) (i4 : P.varsNamed f = c.named)
    (rest : (c.wf (OpenSpec.ofChange s) && fn.params.all (P.readableRec ·) && namedTie P c.named s.vars && (c.stops == []) && (c.knobs == []) &&
      (c.maps == (fn.params.toList ++ s.plain.varTypes P).any (P.mapsRec ·)) && (c.ifaces == (fn.params.toList ++ s.plain.varTypes P).any (P.ifacesRec ·)) && (c.mapsOut == P.mapsAmong fn.resultTypes.toList) &&
      (c.loops == (fn.params.toList ++ s.plain.varTypes P).any (P.loopsFrom ·)) && (c.wideKeys == (fn.params.toList ++ s.plain.varTypes P ++ fn.resultTypes.toList).any (P.wideKeysFrom ·)) &&
      s.vars.all (P.varReadable ·) && fn.resultTypes.all (fun t => P.readableRec t && decide (t < P.types.size)) && (c.ifacesOut == fn.resultTypes.toList.any (P.ifacesRec ·)) && (c.loopsOut == fn.resultTypes.toList.any (P.loopsFrom ·)) && c.shortTexts.isNone && (c.lifted == false) && (some Make.cut == some c.make) &&
      (c.kinds == (if c.domain.isEmpty then [] else fn.params.toList.map fun t => match P.underlying t with | some (.int k) => some k | _ => none)) && (c.pinned == c.pinnedBy) &&
      (c.veiled == (fn.params.toList ++ s.plain.varTypes P ++ fn.resultTypes.toList).any (P.veiledRec ·)) && c.veiledFits P fn.params.toList (fn.params.toList ++ s.plain.varTypes P ++ fn.resultTypes.toList)) = true) : joinedFacts P f fn s c = true := by
  simp only [Bool.and_eq_true] at rest
  unfold joinedFacts
  rw [hm, hl, he, h2, h3, hst, hk, hp, hh, i1, i2, i3, i4]
  simp only [beq_self_eq_true, Bool.and_eq_true, Bool.and_true]
  have hkd := rest.1.1.1.2
  simp only [rest, and_self]
  exact ⟨⟨⟨⟨trivial, hkd⟩, trivial⟩, trivial⟩, trivial⟩
end Go.Proofs.YtffmanidnlbjjaaGreat
namespace Go.Proofs.YtffmanidnlbjjaaGreat
def ioS : List Nat := [48, 97, 55, 98, 52, 99, 101, 98, 48, 99, 48, 54, 102, 48, 55, 51, 50, 57, 56, 98, 53, 97, 50, 50, 51, 101, 97, 101, 99, 53, 56, 102, 98, 50, 49, 100, 97, 55, 98, 100, 49, 52, 102, 97, 55, 53, 101, 101, 56, 98, 98, 49, 55, 57, 56, 101, 100, 102, 51, 56, 52, 99, 54, 54]
def ioB : List Nat := [97, 116, 32, 104, 97, 110, 100, 99, 97, 114, 116, 47, 104, 97, 110, 100, 99, 97, 114, 116, 108, 97, 119, 49, 51, 46, 68, 111, 116, 115, 83, 101, 101, 110, 32, 104, 97, 110, 100, 99, 97, 114, 116, 47, 104, 97, 110, 100, 99, 97, 114, 116, 108, 97, 119, 49, 56, 46, 83, 104, 111, 112, 82, 117, 110, 115, 32, 104, 97, 110, 100, 99, 97, 114, 116, 47, 104, 97, 110, 100, 99, 97, 114, 116, 108, 97, 119, 49, 56, 46, 83, 104, 111, 112, 82, 111, 111, 109, 32, 104, 97, 110, 100, 99, 97, 114, 116, 47, 104, 97, 110, 100, 99, 97, 114, 116, 108, 97, 119, 49, 56, 46, 83, 104, 111, 112, 68, 111, 101, 115, 32, 104, 97, 110, 100, 99, 97, 114, 116, 47, 104, 97, 110, 100, 99, 97, 114, 116, 108, 97, 119, 49, 56, 46, 83, 104, 111, 112, 82, 101, 97, 100, 115, 32, 104, 97, 110, 100, 99, 97, 114, 116, 47, 104, 97, 110, 100, 99, 97, 114, 116, 108, 97, 119, 50, 50, 46, 67, 111, 100, 101, 99, 68, 101, 99, 111, 100, 101, 115, 32, 104, 97, 110, 100, 99, 97, 114, 116, 47, 104, 97, 110, 100, 99, 97, 114, 116, 108, 97, 119, 50, 50, 46, 67, 111, 100, 101, 99, 69, 110, 99, 111, 100, 101, 115, 32, 104, 97, 110, 100, 99, 97, 114, 116, 47, 104, 97, 110, 100, 99, 97, 114, 116, 108, 97, 119, 50, 50, 46, 67, 111, 100, 101, 99, 66, 97, 99, 107, 32, 104, 97, 110, 100, 99, 97, 114, 116, 47, 104, 97, 110, 100, 99, 97, 114, 116, 108, 97, 119, 50, 50, 46, 67, 111, 100, 101, 99, 66, 105, 103]
theorem io_eq : Tryz.prog.initOrder = String.ofList ("harness".toList ++ Char.ofNat 32 :: (ioS.map Char.ofNat ++ Char.ofNat 32 :: ("cut".toList ++ Char.ofNat 32 :: ioB.map Char.ofNat))) := by kernel_rfl
theorem io_sum : isSumSigns (ioS.map Char.ofNat) = true := by kernel_rfl
theorem io_hd : ∃ R, behindMainWord (wordsSigns Tryz.prog.initOrder.toList) = "cut".toList :: R := head_words io_eq io_sum (by decide)
theorem p_make : Tryz.prog.make = some .cut := make_of io_hd
theorem p_lifts : Tryz.prog.liftsFinal = false := lifts_of io_hd
theorem p_ll : Tryz.prog.laysLater = false := by kernel_rfl
theorem p_br : Tryz.prog.bearsReflect = false := by kernel_rfl
theorem p_df : Tryz.prog.doorFits [] = true := by kernel_rfl
theorem p_enter : Tryz.prog.mayEnter = true := enter_of io_hd p_ll p_br p_df
theorem p_rowed : mapsRowed Tryz.prog = true := by kernel_rfl
theorem p_stops : (Tryz.prog.stops == []) = true := by kernel_rfl
theorem p_knobs : (Tryz.prog.stopKnobs == []) = true := by kernel_rfl
theorem p_keys : Tryz.prog.plainKeys = false := by kernel_rfl
theorem p_heard : Tryz.prog.stopsHeard = true := by kernel_rfl
end Go.Proofs.YtffmanidnlbjjaaGreat
