/- Rules, plain words and walks that the claim leans on: Dg, Vz, Vo, Popen, Popen2, Prows, Dh, Pread3, Ck, Cl, Cy, Dm. -/
import Derived.Test.YtffmanidnlbjjaaGreatZCodecBack2
set_option linter.unusedSimpArgs false
set_option linter.unusedVariables false
set_option linter.unusedSimpArgs false
set_option linter.unusedVariables false
set_option maxHeartbeats 800000
set_option maxRecDepth 100000
namespace Go.Proofs.YtffmanidnlbjjaaGreat
open Go.RowKit

theorem namS_short {xs : List Int} (h : ¬ 1 ≤ xs.length) : namS 0 xs = (nm0, 4, []) := by simp only [namS, if_true]; rw [if_neg h]
theorem namS_long {xs : List Int} (h : 1 ≤ xs.length) (h2 : ¬ xs.getD 0 0 ≤ 8) : namS 0 xs = (nm0, 3, []) := by simp only [namS, if_true]; rw [if_pos h, if_neg h2]
theorem namS_cut {xs : List Int} {k : Nat} (h : 1 ≤ xs.length) (hk : xs.getD 0 0 = (k : Int)) (h2 : k ≤ 8) (h3 : ¬ k ≤ (xs.drop 1).length) : namS 0 xs = (nm0, 4, []) := by
  simp only [namS, if_true]; rw [if_pos h, hk, if_pos (by omega), if_neg (by simp at h3 ⊢; omega)]
theorem namS_no {xs : List Int} {k : Nat} (h : 1 ≤ xs.length) (hk : xs.getD 0 0 = (k : Int)) (h2 : k ≤ 8) (h3 : k ≤ (xs.drop 1).length) (h4 : ¬ k = 0) (h5 : ¬ isN ((xs.drop 1).take k) = true) : namS 0 xs = (nm0, 3, []) := by
  simp only [namS, if_true]; rw [if_pos h, hk, if_pos (by omega), if_pos (by simp at h3 ⊢; omega), if_neg (by simp only [Int.toNat_natCast]; rintro (h | h); omega; exact h5 h)]
theorem namS_yes {xs : List Int} {k : Nat} (h : 1 ≤ xs.length) (hk : xs.getD 0 0 = (k : Int)) (h2 : k ≤ 8) (h3 : k ≤ (xs.drop 1).length) (h4 : k = 0 ∨ isN ((xs.drop 1).take k) = true) : namS 0 xs = (padN ((xs.drop 1).take k), 0, (xs.drop 1).drop k) := by
  simp only [namS, if_true]; rw [if_pos h, hk, if_pos (by omega), if_pos (by simp at h3 ⊢; omega), if_pos (by simp only [Int.toNat_natCast]; rcases h4 with h | h; exact .inl (by omega); exact .inr h), Int.toNat_natCast, List.drop_drop]
theorem ofN_len (ns : List Int) : (ofN ns).1.length = 8 := by
  unfold ofN; split
  · exact padN_len ns
  · rfl
theorem ofN_no {ns : List Int} (h : ¬ (ofN ns).2 = 0) : isN ns = false ∧ ofN ns = (nm0, 3) := by
  unfold ofN at h ⊢
  split at h
  · exact absurd rfl h
  · next h1 => exact ⟨by simpa using h1, if_neg h1⟩
theorem ofN_yes {ns : List Int} (h : (ofN ns).2 = 0) : isN ns = true ∧ ofN ns = (padN ns, 0) := by
  unfold ofN at h ⊢
  split at h
  · next h1 => exact ⟨h1, if_pos h1⟩
  · exact absurd h (by decide)
theorem take_in {xs : List Int} {k : Nat} (h : k ≤ xs.length) (e : Int) : takeE e xs k = e ∧ takeX e xs k = xs.drop k ∧ takeV xs k = xs.take k := ⟨if_pos h, if_pos h, if_pos h⟩
theorem take_out {xs : List Int} {k : Nat} (h : ¬ k ≤ xs.length) : takeE 0 xs k = 4 ∧ takeX 0 xs k = [] ∧ takeV xs k = [] := ⟨if_neg h, (if_neg h).trans (errX0 (by decide)), if_neg h⟩
theorem c_cnamed (w0 : World) (g : Nat) (A : Option Addr) (c : Nat) (xs : List Int) (hc : xs.length ≤ c) (hw : Byt xs) (hn : xs.length ≤ 1000000000) (hM : St (OwnB [.obj g (.cells #[.int .i64 0, .slice A xs.length c] 189 (0, 0)), .rd A 1 xs.length (xs.map (Value.int .u8))]) w0 w0 [.obj g (.cells #[.int .i64 0, .slice A xs.length c] 189 (0, 0)), .rd A 1 xs.length (xs.map (Value.int .u8))]) :
    CallR Tryz.prog 242 #[.pointer (some ⟨g, 0, none⟩)] w0 fun v w' => v = .agg (ic .u8 (namS 0 xs).1) ∧ CuSt w0 w' [.obj g (.cells #[.int .i64 0, .slice A xs.length c] 189 (0, 0)), .rd A 1 xs.length (xs.map (Value.int .u8))] g (namS 0 xs).2.1 (namS 0 xs).2.2 [] := by
 have hS := hM
 refine c_enter (l := [.pointer (some ⟨g, 0, none⟩), undef, undef, undef, undef, undef, undef, undef, undef, undef, undef, undef, undef, undef, undef, undef, undef, undef, undef, undef, undef, undef, undef, undef, undef, undef, undef, undef, undef, undef, undef, undef, undef, undef, undef, undef, undef, undef, undef, undef, undef, undef]) Tryz.func242 rfl (by simp only [Tryz.ntmps242, List.size_toArray, List.length_cons, List.length_nil, Nat.reduceAdd, Nat.reduceSub, Array.replicate_succ, Array.replicate_zero, List.push_toArray, List.append_toArray, List.nil_append, List.cons_append]) ?_
 refine x_seq fun K1 hK1 => ?_
 refine x_region ?_
 refine m_alloc ti41 hS (fun w1 g1 hS => ?_)
 try simp only [opv, n1, n2, n3, n4, Value.cells, Array.toArray_toList] at hS ⊢
 have h0l : nm0.length = 8 := rfl
 replace hS : St (OwnB [.obj g (.cells #[.int .i64 0, .slice A xs.length c] 189 (0, 0)), .rd A 1 xs.length (xs.map (Value.int .u8))]) w0 w1 (.obj g1 (.cells (ic .u8 nm0) 41 (0, 0)) :: [.obj g (.cells #[.int .i64 0, .slice A xs.length c] 189 (0, 0)), .rd A 1 xs.length (xs.map (Value.int .u8))]) := hS
 refine x_nil ?_
 refine hK1 _ _ ?_
 refine x_seq fun K2 hK2 => ?_
 refine x_region ?_
 refine s_go (s_move) ?_
 try simp only [opv, n1, n2, n3, n4, Value.cells]
 refine s_call en240 ?_
 try simp only [opv, n1, n2, n3, n4, Value.cells, List.map_toArray, List.map_cons, List.map_nil, List.append_toArray, List.cons_append, List.nil_append, Array.append_empty]
 refine CallR.mono (c_cone _ g 0 A c xs hc (hS.owns (by repeat (first | exact Spl.nil | (apply Spl.cons (by repeat (first | exact Del.head | apply Del.tail))))))) ?_
 rintro _ w2 ⟨rfl, A2, c2, hcp2, hR2, hC2⟩
 have hY2 := RdIn.trans hM hS (by repeat (first | exact Spl.nil | (apply Spl.cons (by repeat (first | exact Del.head | apply Del.tail))))) hR2 (by intro s hs q hb; simp only [List.mem_cons, List.not_mem_nil, or_false] at hs; rcases hs with rfl | rfl <;> first | (simp [Res.reads] at hb; done) | exact .inr ⟨_, List.mem_cons_of_mem _ (List.mem_cons_self ..), .inr hb⟩)
 replace hS := hS.frame (by repeat (first | exact Spl.nil | (apply Spl.cons (by repeat (first | exact Del.head | apply Del.tail))))) hC2 (by intro r hr b hb; simp only [List.mem_cons, List.not_mem_nil, or_false] at hr; rcases hr with rfl | rfl <;> first | (simp [Res.reads] at hb; done) | exact hR2 b hb)
 replace hR2 := hY2
 simp only [List.cons_append, List.nil_append] at hS
 try simp only [opv, n1, n2, n3, n4, Value.cells]
 have hob : 0 ≤ oneV xs ∧ oneV xs ≤ 255 := by unfold oneV; split; exact hw.get 0; decide
 obtain ⟨k, hk⟩ := Int.eq_ofNat_of_zero_le hob.1
 rw [hk] at hob ⊢
 refine s_go (s_conv Tryz.underlying5 Tryz.underlying3 (hc := by exact wr_i64 (by omega) (by omega))) ?_
 try simp only [opv, n1, n2, n3, n4, Value.cells]
 refine s_go (s_assign) ?_
 try simp only [opv, n1, n2, n3, n4, Value.cells]
 refine x_nil ?_
 refine hK2 _ _ ?_
 refine x_seq fun K3 hK3 => ?_
 refine x_seq fun K4 hK4 => ?_
 refine x_region ?_
 refine s_go (s_move) ?_
 try simp only [opv, n1, n2, n3, n4, Value.cells]
 refine s_call en192 ?_
 try simp only [opv, n1, n2, n3, n4, Value.cells, List.map_toArray, List.map_cons, List.map_nil, List.append_toArray, List.cons_append, List.nil_append, Array.append_empty]
 refine CallR.mono (c_cwell _ g (takeE 0 xs 1) A2 c2 (takeX 0 xs 1) hcp2 (hS.owns (by repeat (first | exact Spl.nil | (apply Spl.cons (by repeat (exact Del.head))))))) ?_
 rintro _ w3 ⟨rfl, hC3⟩
 replace hS := hS.frame (by repeat (first | exact Spl.nil | (apply Spl.cons (by repeat (exact Del.head))))) hC3 (by intro r hr g hg; simp only [List.mem_cons, List.not_mem_nil, or_false] at hr; rcases hr with rfl | rfl | rfl <;> first | (simp [Res.reads] at hg; done) | exact .inr ⟨_, by simp, .inr hg⟩)
 simp only [List.cons_append, List.nil_append] at hS
 try simp only [opv, n1, n2, n3, n4, Value.cells]
 refine s_go (s_not) ?_
 try simp only [opv, n1, n2, n3, n4, Value.cells]
 refine x_nil ?_
 refine hK4 _ _ ?_
 refine x_cond (ht := fun hc1 => ?_) (hf := fun hc1 => ?_)
 ·
  try simp only [decide_eq_true_eq, decide_eq_false_iff_not, Bool.not_eq_true', Bool.not_eq_false', Int.not_lt, Int.not_le, ne_eq, Decidable.not_not, bne_iff_ne, beq_iff_eq, not_true_eq_false, not_false_eq_true] at hc1
  have h1 : ¬ 1 ≤ xs.length := fun h => by rw [(take_in h 0).1] at hc1; exact absurd hc1 (by decide)
  have hN := namS_short h1
  simp only [(take_out h1).1, (take_out h1).2.1] at hS hcp2 hR2
  refine x_seq fun K5 hK5 => ?_
  refine x_region ?_
  refine s_go (s_build_arr (cells := #[.int .u8 0, .int .u8 0, .int .u8 0, .int .u8 0, .int .u8 0, .int .u8 0, .int .u8 0, .int .u8 0]) Tryz.underlying41 ti41 ti5 (hc := by simp only [List.map_toArray, List.map_cons, List.map_nil, opv, n1, n2, n3, n4, Value.cells, List.toList_toArray]; (repeat (refine fill_cons rfl rfl (Nat.le_of_ble_eq_true rfl) ?_)); rfl)) ?_
  try simp only [opv, n1, n2, n3, n4, Value.cells]
  refine m_store_obj ti41 (hS := hS) (h := fun w4 hS => ?_)
  try simp only [opv, n1, n2, n3, n4, Value.cells, Array.toArray_toList] at hS ⊢
  refine x_nil ?_
  refine hK5 _ _ ?_
  refine x_ret ?_
  refine r_cell_agg rfl Tryz.underlying41 ti41 (hS := hS) (hR := ?_)
  exact ⟨by rw [hN] <;> rfl, _, _, by rw [hN]; assumption, by rw [hN]; assumption, by rw [hN]; exact hS.sel (by repeat (first | exact Sel.nil | (refine Sel.cons (by repeat (exact Del.head)) ?_)))⟩
 ·
  try simp only [decide_eq_true_eq, decide_eq_false_iff_not, Bool.not_eq_true', Bool.not_eq_false', Int.not_lt, Int.not_le, ne_eq, Decidable.not_not, bne_iff_ne, beq_iff_eq, not_true_eq_false, not_false_eq_true] at hc1
  have h1 : 1 ≤ xs.length := Decidable.byContradiction fun h => by rw [(take_out h).1] at hc1; exact absurd hc1 (by decide)
  have hk1 : xs.getD 0 0 = (k : Int) := by rw [← hk, oneV, if_pos h1]
  have hdl : (xs.drop 1).length = xs.length - 1 := by simp
  simp only [(take_in h1 0).1, (take_in h1 0).2.1] at hS hcp2 hR2
  refine x_skip ?_
  refine hK3 _ _ ?_
  refine x_seq fun K6 hK6 => ?_
  refine x_seq fun K7 hK7 => ?_
  refine x_region ?_
  refine s_go (s_move) ?_
  try simp only [opv, n1, n2, n3, n4, Value.cells]
  refine s_go (s_gtr) ?_
  try simp only [opv, n1, n2, n3, n4, Value.cells]
  refine x_nil ?_
  refine hK7 _ _ ?_
  refine x_cond (ht := fun hc2 => ?_) (hf := fun hc2 => ?_)
  ·
   try simp only [decide_eq_true_eq, decide_eq_false_iff_not, Bool.not_eq_true', Bool.not_eq_false', Int.not_lt, Int.not_le, ne_eq, Decidable.not_not, bne_iff_ne, beq_iff_eq, not_true_eq_false, not_false_eq_true] at hc2
   have hN := namS_long h1 (by omega)
   refine x_seq fun K8 hK8 => ?_
   refine x_region ?_
   refine s_go (s_move) ?_
   try simp only [opv, n1, n2, n3, n4, Value.cells]
   refine s_call en154 ?_
   try simp only [opv, n1, n2, n3, n4, Value.cells, List.map_toArray, List.map_cons, List.map_nil, List.append_toArray, List.cons_append, List.nil_append, Array.append_empty]
   refine CallR.mono (c_cerr _ g 0 A2 c2 (xs.drop 1) hcp2 3 (hS.owns (by repeat (first | exact Spl.nil | (apply Spl.cons (by repeat (exact Del.head))))))) ?_
   rintro _ w5 ⟨rfl, A5, c5, hcp5, hR5, hC5⟩
   have hY5 := RdIn.trans hM hS (by repeat (first | exact Spl.nil | (apply Spl.cons (by repeat (exact Del.head))))) hR5 (by intro s hs q hb; simp only [List.mem_cons, List.not_mem_nil, or_false] at hs; rcases hs with rfl | rfl <;> first | (simp [Res.reads] at hb; done) | exact hR2 q hb)
   replace hS := hS.frame (by repeat (first | exact Spl.nil | (apply Spl.cons (by repeat (exact Del.head))))) hC5 (by intro r hr b hb; simp only [List.mem_cons, List.not_mem_nil, or_false] at hr; rcases hr with rfl | rfl <;> first | (simp [Res.reads] at hb; done) | exact hR5 b hb)
   replace hR5 := hY5
   simp only [List.cons_append, List.nil_append] at hS
   simp only [errE0, errX0 (show ¬ (3 : Int) = 0 by decide)] at hS hcp5 hR5
   try simp only [opv, n1, n2, n3, n4, Value.cells]
   refine x_nil ?_
   refine hK8 _ _ ?_
   refine x_seq fun K9 hK9 => ?_
   refine x_region ?_
   refine s_go (s_build_arr (cells := #[.int .u8 0, .int .u8 0, .int .u8 0, .int .u8 0, .int .u8 0, .int .u8 0, .int .u8 0, .int .u8 0]) Tryz.underlying41 ti41 ti5 (hc := by simp only [List.map_toArray, List.map_cons, List.map_nil, opv, n1, n2, n3, n4, Value.cells, List.toList_toArray]; (repeat (refine fill_cons rfl rfl (Nat.le_of_ble_eq_true rfl) ?_)); rfl)) ?_
   try simp only [opv, n1, n2, n3, n4, Value.cells]
   refine m_store_obj ti41 (hS := hS) (h := fun w6 hS => ?_)
   try simp only [opv, n1, n2, n3, n4, Value.cells, Array.toArray_toList] at hS ⊢
   refine x_nil ?_
   refine hK9 _ _ ?_
   refine x_ret ?_
   refine r_cell_agg rfl Tryz.underlying41 ti41 (hS := hS) (hR := ?_)
   exact ⟨by rw [hN] <;> rfl, _, _, by rw [hN]; assumption, by rw [hN]; assumption, by rw [hN]; exact hS.sel (by repeat (first | exact Sel.nil | (refine Sel.cons (by repeat (exact Del.head)) ?_)))⟩
  ·
   try simp only [decide_eq_true_eq, decide_eq_false_iff_not, Bool.not_eq_true', Bool.not_eq_false', Int.not_lt, Int.not_le, ne_eq, Decidable.not_not, bne_iff_ne, beq_iff_eq, not_true_eq_false, not_false_eq_true] at hc2
   refine x_skip ?_
   refine hK6 _ _ ?_
   refine x_seq fun K10 hK10 => ?_
   refine x_region ?_
   refine s_go (s_move) ?_
   try simp only [opv, n1, n2, n3, n4, Value.cells]
   refine s_go (s_move) ?_
   try simp only [opv, n1, n2, n3, n4, Value.cells]
   refine s_call en155 ?_
   try simp only [opv, n1, n2, n3, n4, Value.cells, List.map_toArray, List.map_cons, List.map_nil, List.append_toArray, List.cons_append, List.nil_append, Array.append_empty]
   refine CallR.mono (c_ctake _ g 0 A2 c2 (xs.drop 1) hcp2 k (by omega) (hS.owns (by repeat (first | exact Spl.nil | (apply Spl.cons (by repeat (exact Del.head))))))) ?_
   rintro _ w7 ⟨Ab, cb, Bb, rfl, hcpb, hRb, hQb, hCb⟩
   have hYb := RdIn.trans hM hS (by repeat (first | exact Spl.nil | (apply Spl.cons (by repeat (exact Del.head))))) hRb (by intro s hs q hb; simp only [List.mem_cons, List.not_mem_nil, or_false] at hs; rcases hs with rfl | rfl <;> first | (simp [Res.reads] at hb; done) | exact hR2 q hb)
   replace hS := hS.frame (by repeat (first | exact Spl.nil | (apply Spl.cons (by repeat (exact Del.head))))) hCb (by intro r hr b hb; simp only [List.mem_cons, List.not_mem_nil, or_false] at hr; rcases hr with rfl | rfl | rfl <;> first | (simp [Res.reads] at hb; done) | exact hRb b hb | exact hQb b hb)
   simp only [List.cons_append, List.nil_append] at hS
   replace hRb := hYb
   try simp only [opv, n1, n2, n3, n4, Value.cells]
   refine s_go (s_assign) ?_
   try simp only [opv, n1, n2, n3, n4, Value.cells]
   refine x_nil ?_
   refine hK10 _ _ ?_
   refine x_seq fun K11 hK11 => ?_
   refine x_seq fun K12 hK12 => ?_
   refine x_region ?_
   refine s_go (s_move) ?_
   try simp only [opv, n1, n2, n3, n4, Value.cells]
   refine s_call en192 ?_
   try simp only [opv, n1, n2, n3, n4, Value.cells, List.map_toArray, List.map_cons, List.map_nil, List.append_toArray, List.cons_append, List.nil_append, Array.append_empty]
   refine CallR.mono (c_cwell _ g (takeE 0 (xs.drop 1) k) Ab cb (takeX 0 (xs.drop 1) k) hcpb (hS.owns (by repeat (first | exact Spl.nil | (apply Spl.cons (by repeat (exact Del.head))))))) ?_
   rintro _ w8 ⟨rfl, hC8⟩
   replace hS := hS.frame (by repeat (first | exact Spl.nil | (apply Spl.cons (by repeat (exact Del.head))))) hC8 (by intro r hr g hg; simp only [List.mem_cons, List.not_mem_nil, or_false] at hr; rcases hr with rfl | rfl | rfl <;> first | (simp [Res.reads] at hg; done) | exact .inr ⟨_, by simp, .inr hg⟩)
   simp only [List.cons_append, List.nil_append] at hS
   try simp only [opv, n1, n2, n3, n4, Value.cells]
   refine s_go (s_not) ?_
   try simp only [opv, n1, n2, n3, n4, Value.cells]
   refine s_go (s_move) ?_
   try simp only [opv, n1, n2, n3, n4, Value.cells]
   refine s_part 25 rfl (fun hp1 => ?_) (fun hp1 => ?_)
   ·
    try simp only [n3, n4]
    try simp only [decide_eq_true_eq, decide_eq_false_iff_not, Bool.not_eq_true', Bool.not_eq_false', Int.not_lt, Int.not_le, ne_eq, Decidable.not_not] at hp1
    have h3 : ¬ k ≤ (xs.drop 1).length := fun h => by rw [(take_in h 0).1] at hp1; exact absurd hp1 (by decide)
    have hN := namS_cut h1 hk1 (by omega) h3
    simp only [(take_out h3).1, (take_out h3).2.1] at hS hcpb hRb
    refine g_off (yi (t := 25) rfl rfl) ?_
    try simp only [opv, n1, n2, n3, n4, Value.cells]
    refine g_off (yi (t := 25) rfl rfl) ?_
    try simp only [opv, n1, n2, n3, n4, Value.cells]
    refine s_go (s_pick_t) ?_
    try simp only [opv, n1, n2, n3, n4, Value.cells]
    refine x_nil ?_
    refine hK12 _ _ ?_
    refine x_cond_t (h := ?_)
    skip
    refine x_seq fun K13 hK13 => ?_
    refine x_region ?_
    refine s_go (s_build_arr (cells := #[.int .u8 0, .int .u8 0, .int .u8 0, .int .u8 0, .int .u8 0, .int .u8 0, .int .u8 0, .int .u8 0]) Tryz.underlying41 ti41 ti5 (hc := by simp only [List.map_toArray, List.map_cons, List.map_nil, opv, n1, n2, n3, n4, Value.cells, List.toList_toArray]; (repeat (refine fill_cons rfl rfl (Nat.le_of_ble_eq_true rfl) ?_)); rfl)) ?_
    try simp only [opv, n1, n2, n3, n4, Value.cells]
    refine m_store_obj ti41 (hS := hS) (h := fun w9 hS => ?_)
    try simp only [opv, n1, n2, n3, n4, Value.cells, Array.toArray_toList] at hS ⊢
    refine x_nil ?_
    refine hK13 _ _ ?_
    refine x_ret ?_
    refine r_cell_agg rfl Tryz.underlying41 ti41 (hS := hS) (hR := ?_)
    exact ⟨by rw [hN] <;> rfl, _, _, by rw [hN]; assumption, by rw [hN]; assumption, by rw [hN]; exact hS.sel (by repeat (first | exact Sel.nil | (refine Sel.cons (by repeat (exact Del.head)) ?_)))⟩
   ·
    try simp only [n3, n4]
    try simp only [decide_eq_true_eq, decide_eq_false_iff_not, Bool.not_eq_true', Bool.not_eq_false', Int.not_lt, Int.not_le, ne_eq, Decidable.not_not] at hp1
    have h3 : k ≤ (xs.drop 1).length := Decidable.byContradiction fun h => by rw [(take_out h).1] at hp1; exact absurd hp1 (by decide)
    simp only [(take_in h3 0).1, (take_in h3 0).2.1, (take_in h3 0).2.2] at hS hcpb hRb ⊢
    have htb : Byt ((xs.drop 1).take k) := (hw.drop 1).take k
    have htl : ((xs.drop 1).take k).length = k := by simp; omega
    have hol := ofN_len ((xs.drop 1).take k)
    obtain ⟨ns, hns⟩ : ∃ ns, (xs.drop 1).take k = ns := ⟨_, rfl⟩
    rw [hns] at htb htl hol hS ⊢
    refine g_on (yi (t := 25) rfl rfl) ?_
    refine s_go (s_move) ?_
    try simp only [opv, n1, n2, n3, n4, Value.cells]
    refine g_on (yi (t := 25) rfl rfl) ?_
    refine s_go (s_eql) ?_
    try simp only [opv, n1, n2, n3, n4, Value.cells]
    refine s_go (s_pick_f) ?_
    try simp only [opv, n1, n2, n3, n4, Value.cells]
    refine x_nil ?_
    refine hK12 _ _ ?_
    refine x_cond (ht := fun hc4 => ?_) (hf := fun hc4 => ?_)
    ·
     try simp only [decide_eq_true_eq, decide_eq_false_iff_not, Bool.not_eq_true', Bool.not_eq_false', Int.not_lt, Int.not_le, ne_eq, Decidable.not_not, bne_iff_ne, beq_iff_eq, not_true_eq_false, not_false_eq_true] at hc4
     have hN := namS_yes h1 hk1 (by omega) h3 (.inl (by omega))
     refine x_seq fun K14 hK14 => ?_
     refine x_region ?_
     refine s_go (s_build_arr (cells := #[.int .u8 0, .int .u8 0, .int .u8 0, .int .u8 0, .int .u8 0, .int .u8 0, .int .u8 0, .int .u8 0]) Tryz.underlying41 ti41 ti5 (hc := by simp only [List.map_toArray, List.map_cons, List.map_nil, opv, n1, n2, n3, n4, Value.cells, List.toList_toArray]; (repeat (refine fill_cons rfl rfl (Nat.le_of_ble_eq_true rfl) ?_)); rfl)) ?_
     try simp only [opv, n1, n2, n3, n4, Value.cells]
     refine m_store_obj ti41 (hS := hS) (h := fun w10 hS => ?_)
     try simp only [opv, n1, n2, n3, n4, Value.cells, Array.toArray_toList] at hS ⊢
     refine x_nil ?_
     refine hK14 _ _ ?_
     refine x_ret ?_
     refine r_cell_agg rfl Tryz.underlying41 ti41 (hS := hS) (hR := ?_)
     exact ⟨by rw [hN]; rw [show k = 0 by omega]; rfl, _, _, by rw [hN]; assumption, by rw [hN]; assumption, by rw [hN]; exact hS.sel (by repeat (first | exact Sel.nil | (refine Sel.cons (by repeat (exact Del.head)) ?_)))⟩
    ·
     try simp only [decide_eq_true_eq, decide_eq_false_iff_not, Bool.not_eq_true', Bool.not_eq_false', Int.not_lt, Int.not_le, ne_eq, Decidable.not_not, bne_iff_ne, beq_iff_eq, not_true_eq_false, not_false_eq_true] at hc4
     refine x_skip ?_
     refine hK11 _ _ ?_
     refine x_seq fun K15 hK15 => ?_
     refine x_region ?_
     refine s_go (s_move) ?_
     try simp only [opv, n1, n2, n3, n4, Value.cells]
     refine s_go (m_bytes_str Tryz.underlying73 Tryz.underlying9 Tryz.underlying5 (hS := hS)) ?_
     try simp only [opv, n1, n2, n3, n4, Value.cells]
     refine s_call en254 ?_
     try simp only [opv, n1, n2, n3, n4, Value.cells, List.map_toArray, List.map_cons, List.map_nil, List.append_toArray, List.cons_append, List.nil_append, Array.append_empty]
     refine CallR.mono (c_nameOf _ (by assumption) (by omega) _) ?_
     rintro _ w11 ⟨rfl, hE11⟩
     replace hS := hS.ext hE11
     try simp only [opv, n1, n2, n3, n4, Value.cells]
     refine s_go (s_move) ?_
     try simp only [opv, n1, n2, n3, n4, Value.cells]
     refine s_go (s_extract (hv := rfl)) ?_
     try simp only [List.getElem_toArray, List.getElem_cons_zero, List.getElem_cons_succ]
     try simp only [opv, n1, n2, n3, n4, Value.cells]
     refine s_go (s_extract (hv := rfl)) ?_
     try simp only [List.getElem_toArray, List.getElem_cons_zero, List.getElem_cons_succ]
     try simp only [opv, n1, n2, n3, n4, Value.cells]
     refine m_alloc ti41 hS (fun w12 g12 hS => ?_)
     try simp only [opv, n1, n2, n3, n4, Value.cells, Array.toArray_toList] at hS ⊢
     replace hS : St (OwnB [.obj g (.cells #[.int .i64 0, .slice A xs.length c] 189 (0, 0)), .rd A 1 xs.length (xs.map (Value.int .u8))]) w0 w12 (.obj _ (.cells (ic .u8 nm0) 41 (0, 0)) :: _) := hS
     refine m_store_obj ti41 (hS := hS) (h := fun w13 hS => ?_)
     try simp only [opv, n1, n2, n3, n4, Value.cells, Array.toArray_toList] at hS ⊢
     refine s_go (s_assign) ?_
     try simp only [opv, n1, n2, n3, n4, Value.cells]
     refine x_nil ?_
     refine hK15 _ _ ?_
     refine x_seq fun K16 hK16 => ?_
     refine x_seq fun K17 hK17 => ?_
     refine x_region ?_
     refine s_go (s_move) ?_
     try simp only [opv, n1, n2, n3, n4, Value.cells]
     refine s_go (s_neq) ?_
     try simp only [opv, n1, n2, n3, n4, Value.cells]
     refine x_nil ?_
     refine hK17 _ _ ?_
     refine x_cond (ht := fun hc5 => ?_) (hf := fun hc5 => ?_)
     ·
      try simp only [decide_eq_true_eq, decide_eq_false_iff_not, Bool.not_eq_true', Bool.not_eq_false', Int.not_lt, Int.not_le, ne_eq, Decidable.not_not, bne_iff_ne, beq_iff_eq, not_true_eq_false, not_false_eq_true] at hc5
      obtain ⟨hI, hof⟩ := ofN_no (ns := ns) hc5
      have hN := namS_no h1 hk1 (by omega) h3 (by omega) (by rw [hns, hI]; decide)
      rw [hof] at hS hol ⊢
      refine x_region ?_
      refine s_go (s_move) ?_
      try simp only [opv, n1, n2, n3, n4, Value.cells]
      refine s_go (s_move) ?_
      try simp only [opv, n1, n2, n3, n4, Value.cells]
      refine s_call en154 ?_
      try simp only [opv, n1, n2, n3, n4, Value.cells, List.map_toArray, List.map_cons, List.map_nil, List.append_toArray, List.cons_append, List.nil_append, Array.append_empty]
      refine CallR.mono (c_cerr _ g 0 Ab cb ((xs.drop 1).drop k) hcpb 3 (hS.owns (by repeat (first | exact Spl.nil | (apply Spl.cons (by repeat (first | exact Del.head | apply Del.tail))))))) ?_
      rintro _ w14 ⟨rfl, A14, c14, hcp14, hR14, hC14⟩
      have hY14 := RdIn.trans hM hS (by repeat (first | exact Spl.nil | (apply Spl.cons (by repeat (first | exact Del.head | apply Del.tail))))) hR14 (by intro s hs q hb; simp only [List.mem_cons, List.not_mem_nil, or_false] at hs; rcases hs with rfl | rfl <;> first | (simp [Res.reads] at hb; done) | exact hRb q hb)
      replace hS := hS.frame (by repeat (first | exact Spl.nil | (apply Spl.cons (by repeat (first | exact Del.head | apply Del.tail))))) hC14 (by intro r hr b hb; simp only [List.mem_cons, List.not_mem_nil, or_false] at hr; rcases hr with rfl | rfl <;> first | (simp [Res.reads] at hb; done) | exact hR14 b hb)
      replace hR14 := hY14
      simp only [List.cons_append, List.nil_append] at hS
      simp only [errE0, errX0 (show ¬ (3 : Int) = 0 by decide)] at hS hcp14 hR14
      try simp only [opv, n1, n2, n3, n4, Value.cells]
      refine x_nil ?_
      refine hK16 _ _ ?_
      refine x_seq fun K18 hK18 => ?_
      refine x_region ?_
      refine s_go (m_load_row Tryz.underlying41 (hi := ti41) (hS := hS)) ?_
      try simp only [opv, n1, n2, n3, n4, Value.cells, List.getElem_toArray, List.getElem_cons_zero, List.getElem_cons_succ]
      refine m_store_obj ti41 (hS := hS) (h := fun w15 hS => ?_)
      try simp only [opv, n1, n2, n3, n4, Value.cells, Array.toArray_toList] at hS ⊢
      refine x_nil ?_
      refine hK18 _ _ ?_
      refine x_ret ?_
      refine r_cell_agg rfl Tryz.underlying41 ti41 (hS := hS) (hR := ?_)
      exact ⟨by rw [hN] <;> rfl, _, _, by rw [hN]; assumption, by rw [hN]; assumption, by rw [hN]; exact hS.sel (by repeat (first | exact Sel.nil | (refine Sel.cons (by repeat (exact Del.head)) ?_)))⟩
     ·
      try simp only [decide_eq_true_eq, decide_eq_false_iff_not, Bool.not_eq_true', Bool.not_eq_false', Int.not_lt, Int.not_le, ne_eq, Decidable.not_not, bne_iff_ne, beq_iff_eq, not_true_eq_false, not_false_eq_true] at hc5
      obtain ⟨hI, hof⟩ := ofN_yes (ns := ns) hc5
      have hN := namS_yes h1 hk1 (by omega) h3 (.inr (by rw [hns]; exact hI))
      rw [hof] at hS hol ⊢
      refine x_skip ?_
      refine hK16 _ _ ?_
      refine x_seq fun K19 hK19 => ?_
      refine x_region ?_
      refine s_go (m_load_row Tryz.underlying41 (hi := ti41) (hS := hS)) ?_
      try simp only [opv, n1, n2, n3, n4, Value.cells, List.getElem_toArray, List.getElem_cons_zero, List.getElem_cons_succ]
      refine m_store_obj ti41 (hS := hS) (h := fun w16 hS => ?_)
      try simp only [opv, n1, n2, n3, n4, Value.cells, Array.toArray_toList] at hS ⊢
      refine x_nil ?_
      refine hK19 _ _ ?_
      refine x_ret ?_
      refine r_cell_agg rfl Tryz.underlying41 ti41 (hS := hS) (hR := ?_)
      exact ⟨by rw [hN, hns], _, _, by rw [hN]; assumption, by rw [hN]; assumption, by rw [hN]; exact hS.sel (by repeat (first | exact Sel.nil | (refine Sel.cons (by repeat (first | exact Del.head | apply Del.tail)) ?_)))⟩
theorem c_onceNm (w0 : World) (g : Nat) (e : Int) (A : Option Addr) (c : Nat) (xs : List Int) (hc : xs.length ≤ c) (hw : Byt xs) (hn : xs.length ≤ 1000000000) (hM : St (OwnB [.obj g (.cells #[.int .i64 e, .slice A xs.length c] 189 (0, 0)), .rd A 1 xs.length (xs.map (Value.int .u8))]) w0 w0 [.obj g (.cells #[.int .i64 e, .slice A xs.length c] 189 (0, 0)), .rd A 1 xs.length (xs.map (Value.int .u8))]) :
    CallR Tryz.prog 241 #[.pointer (some ⟨g, 0, none⟩), .func (.func 242) #[] #[]] w0 fun v w' => v = .agg (ic .u8 (namS e xs).1) ∧ CuSt w0 w' [.obj g (.cells #[.int .i64 e, .slice A xs.length c] 189 (0, 0)), .rd A 1 xs.length (xs.map (Value.int .u8))] g (namS e xs).2.1 (namS e xs).2.2 [] := by
 have hS := hM
 have h0l : nm0.length = 8 := rfl
 have hnl := namS_len 0 xs
 refine c_enter (l := [.pointer (some ⟨g, 0, none⟩), .func (.func 242) #[] #[], undef, undef, undef, undef, undef, undef, undef, undef, undef, undef, undef, undef, undef, undef, undef, undef]) Tryz.func241 rfl (by simp only [Tryz.ntmps241, List.size_toArray, List.length_cons, List.length_nil, Nat.reduceAdd, Nat.reduceSub, Array.replicate_succ, Array.replicate_zero, List.push_toArray, List.append_toArray, List.nil_append, List.cons_append]) ?_
 refine x_seq fun K1 hK1 => ?_
 refine x_region ?_
 refine m_alloc ti41 hS (fun w1 g1 hS => ?_)
 try simp only [opv, n1, n2, n3, n4, Value.cells, Array.toArray_toList] at hS ⊢
 replace hS : St (OwnB [.obj g (.cells #[.int .i64 e, .slice A xs.length c] 189 (0, 0)), .rd A 1 xs.length (xs.map (Value.int .u8))]) w0 w1 (.obj _ (.cells (ic .u8 nm0) 41 (0, 0)) :: [.obj g (.cells #[.int .i64 e, .slice A xs.length c] 189 (0, 0)), .rd A 1 xs.length (xs.map (Value.int .u8))]) := hS
 refine x_nil ?_
 refine hK1 _ _ ?_
 refine x_seq fun K2 hK2 => ?_
 refine x_region ?_
 refine m_alloc ti41 hS (fun w2 g2 hS => ?_)
 try simp only [opv, n1, n2, n3, n4, Value.cells, Array.toArray_toList] at hS ⊢
 replace hS : St (OwnB [.obj g (.cells #[.int .i64 e, .slice A xs.length c] 189 (0, 0)), .rd A 1 xs.length (xs.map (Value.int .u8))]) w0 w2 (.obj _ (.cells (ic .u8 nm0) 41 (0, 0)) :: .obj _ (.cells (ic .u8 nm0) 41 (0, 0)) :: [.obj g (.cells #[.int .i64 e, .slice A xs.length c] 189 (0, 0)), .rd A 1 xs.length (xs.map (Value.int .u8))]) := hS
 refine x_nil ?_
 refine hK2 _ _ ?_
 refine x_seq fun K3 hK3 => ?_
 refine x_seq fun K4 hK4 => ?_
 refine x_region ?_
 refine s_go (s_move) ?_
 try simp only [opv, n1, n2, n3, n4, Value.cells]
 refine s_call en192 ?_
 try simp only [opv, n1, n2, n3, n4, Value.cells, List.map_toArray, List.map_cons, List.map_nil, List.append_toArray, List.cons_append, List.nil_append, Array.append_empty]
 refine CallR.mono (c_cwell _ g (e) A c (xs) hc (hS.owns (by repeat (first | exact Spl.nil | (apply Spl.cons (by repeat (first | exact Del.head | apply Del.tail))))))) ?_
 rintro _ w3 ⟨rfl, hC3⟩
 replace hS := hS.frame (by repeat (first | exact Spl.nil | (apply Spl.cons (by repeat (first | exact Del.head | apply Del.tail))))) hC3 (by intro r hr g hg; simp only [List.mem_cons, List.not_mem_nil, or_false] at hr; rcases hr with rfl | rfl | rfl <;> first | (simp [Res.reads] at hg; done) | exact .inr ⟨_, by simp, .inr hg⟩)
 simp only [List.cons_append, List.nil_append] at hS
 try simp only [opv, n1, n2, n3, n4, Value.cells]
 refine s_go (s_not) ?_
 try simp only [opv, n1, n2, n3, n4, Value.cells]
 refine x_nil ?_
 refine hK4 _ _ ?_
 refine x_cond (ht := fun hc1 => ?_) (hf := fun hc1 => ?_)
 ·
  try simp only [decide_eq_true_eq, decide_eq_false_iff_not, Bool.not_eq_true', Bool.not_eq_false', Int.not_lt, Int.not_le, ne_eq, Decidable.not_not, bne_iff_ne, beq_iff_eq, not_true_eq_false, not_false_eq_true] at hc1
  have hN := namS_err (xs := xs) (by simpa using hc1)
  refine x_seq fun K5 hK5 => ?_
  refine x_region ?_
  refine s_go (m_load_row Tryz.underlying41 (hi := ti41) (hS := hS)) ?_
  try simp only [opv, n1, n2, n3, n4, Value.cells, List.getElem_toArray, List.getElem_cons_zero, List.getElem_cons_succ]
  refine m_store_obj ti41 (hS := hS) (h := fun w4 hS => ?_)
  try simp only [opv, n1, n2, n3, n4, Value.cells, Array.toArray_toList] at hS ⊢
  refine x_nil ?_
  refine hK5 _ _ ?_
  refine x_ret ?_
  refine r_cell_agg rfl Tryz.underlying41 ti41 (hS := hS) (hR := ?_)
  exact ⟨by rw [hN], A, c, by rw [hN]; exact hc, by rw [hN]; exact RdIn.self (List.mem_cons_of_mem _ (List.mem_cons_self ..)), by rw [hN]; exact hS.sel (by repeat (first | exact Sel.nil | (refine Sel.cons (by repeat (exact Del.head)) ?_)))⟩
 ·
  try simp only [decide_eq_true_eq, decide_eq_false_iff_not, Bool.not_eq_true', Bool.not_eq_false', Int.not_lt, Int.not_le, ne_eq, Decidable.not_not, bne_iff_ne, beq_iff_eq, not_true_eq_false, not_false_eq_true] at hc1
  have he0 : e = 0 := by simpa using hc1
  subst he0
  refine x_skip ?_
  refine hK3 _ _ ?_
  refine x_seq fun K6 hK6 => ?_
  refine x_seq fun K7 hK7 => ?_
  refine x_region ?_
  refine s_go (s_move) ?_
  try simp only [opv, n1, n2, n3, n4, Value.cells]
  refine s_go (s_move) ?_
  try simp only [opv, n1, n2, n3, n4, Value.cells]
  refine s_callv (hv := rfl) en242 ?_
  try simp only [opv, n1, n2, n3, n4, Value.cells, List.map_toArray, List.map_cons, List.map_nil, List.append_toArray, List.cons_append, List.nil_append, Array.append_empty]
  refine CallR.mono (c_cnamed _ g A c xs hc hw hn (hS.owns (by repeat (first | exact Spl.nil | (apply Spl.cons (by repeat (exact Del.head))))))) ?_
  rintro _ w5 ⟨rfl, Aa, ca, hcpa, hRa, hCa⟩
  have hYa := RdIn.trans hM hS (by repeat (first | exact Spl.nil | (apply Spl.cons (by repeat (exact Del.head))))) hRa (by intro s hs q hb; simp only [List.mem_cons, List.not_mem_nil, or_false] at hs; rcases hs with rfl | rfl <;> first | (simp [Res.reads] at hb; done) | exact .inr ⟨_, List.mem_cons_of_mem _ (List.mem_cons_self ..), .inr hb⟩)
  replace hS := hS.frame (by repeat (first | exact Spl.nil | (apply Spl.cons (by repeat (exact Del.head))))) hCa (by intro r hr b hb; simp only [List.mem_cons, List.not_mem_nil, or_false] at hr; rcases hr with rfl | rfl <;> first | (simp [Res.reads] at hb; done) | exact hRa b hb)
  replace hRa := hYa
  simp only [List.cons_append, List.nil_append] at hS
  try simp only [opv, n1, n2, n3, n4, Value.cells]
  refine m_alloc ti41 hS (fun w6 g6 hS => ?_)
  try simp only [opv, n1, n2, n3, n4, Value.cells, Array.toArray_toList] at hS ⊢
  replace hS : St (OwnB [.obj g (.cells #[.int .i64 0, .slice A xs.length c] 189 (0, 0)), .rd A 1 xs.length (xs.map (Value.int .u8))]) w0 w6 (.obj _ (.cells (ic .u8 nm0) 41 (0, 0)) :: _) := hS
  refine m_store_obj ti41 (hS := hS) (h := fun w7 hS => ?_)
  try simp only [opv, n1, n2, n3, n4, Value.cells, Array.toArray_toList] at hS ⊢
  refine x_nil ?_
  refine hK7 _ _ ?_
  refine x_seq fun K8 hK8 => ?_
  refine x_region ?_
  refine s_go (s_move) ?_
  try simp only [opv, n1, n2, n3, n4, Value.cells]
  refine s_call en192 ?_
  try simp only [opv, n1, n2, n3, n4, Value.cells, List.map_toArray, List.map_cons, List.map_nil, List.append_toArray, List.cons_append, List.nil_append, Array.append_empty]
  refine CallR.mono (c_cwell _ g ((namS 0 xs).2.1) Aa ca ((namS 0 xs).2.2) hcpa (hS.owns (by repeat (first | exact Spl.nil | (apply Spl.cons (by repeat (first | exact Del.head | apply Del.tail))))))) ?_
  rintro _ w8 ⟨rfl, hC8⟩
  replace hS := hS.frame (by repeat (first | exact Spl.nil | (apply Spl.cons (by repeat (first | exact Del.head | apply Del.tail))))) hC8 (by intro r hr g hg; simp only [List.mem_cons, List.not_mem_nil, or_false] at hr; rcases hr with rfl | rfl | rfl <;> first | (simp [Res.reads] at hg; done) | exact .inr ⟨_, by simp, .inr hg⟩)
  simp only [List.cons_append, List.nil_append] at hS
  try simp only [opv, n1, n2, n3, n4, Value.cells]
  refine x_nil ?_
  refine hK8 _ _ ?_
  refine x_cond (ht := fun hc2 => ?_) (hf := fun hc2 => ?_)
  ·
   try simp only [decide_eq_true_eq, decide_eq_false_iff_not, Bool.not_eq_true', Bool.not_eq_false', Int.not_lt, Int.not_le, ne_eq, Decidable.not_not, bne_iff_ne, beq_iff_eq, not_true_eq_false, not_false_eq_true] at hc2
   refine x_seq fun K9 hK9 => ?_
   refine x_region ?_
   refine s_go (m_load_row Tryz.underlying41 (hi := ti41) (hS := hS)) ?_
   try simp only [opv, n1, n2, n3, n4, Value.cells, List.getElem_toArray, List.getElem_cons_zero, List.getElem_cons_succ]
   refine m_store_obj ti41 (hS := hS) (h := fun w9 hS => ?_)
   try simp only [opv, n1, n2, n3, n4, Value.cells, Array.toArray_toList] at hS ⊢
   refine x_nil ?_
   refine hK9 _ _ ?_
   refine x_ret ?_
   refine r_cell_agg rfl Tryz.underlying41 ti41 (hS := hS) (hR := ?_)
   exact ⟨rfl, _, _, by assumption, by assumption, hS.sel (by repeat (first | exact Sel.nil | (refine Sel.cons (by repeat (exact Del.head)) ?_)))⟩
  ·
   try simp only [decide_eq_true_eq, decide_eq_false_iff_not, Bool.not_eq_true', Bool.not_eq_false', Int.not_lt, Int.not_le, ne_eq, Decidable.not_not, bne_iff_ne, beq_iff_eq, not_true_eq_false, not_false_eq_true] at hc2
   have hx0 := namS_bad (by simpa using hc2)
   refine x_skip ?_
   refine hK6 _ _ ?_
   refine x_seq fun K10 hK10 => ?_
   refine x_region ?_
   refine s_go (m_load_row Tryz.underlying41 (hi := ti41) (hS := hS)) ?_
   try simp only [opv, n1, n2, n3, n4, Value.cells, List.getElem_toArray, List.getElem_cons_zero, List.getElem_cons_succ]
   refine m_store_obj ti41 (hS := hS) (h := fun w10 hS => ?_)
   try simp only [opv, n1, n2, n3, n4, Value.cells, Array.toArray_toList] at hS ⊢
   refine x_nil ?_
   refine hK10 _ _ ?_
   refine x_ret ?_
   refine r_cell_agg rfl Tryz.underlying41 ti41 (hS := hS) (hR := ?_)
   exact ⟨by rw [hx0], _, _, by assumption, by assumption, hS.sel (by repeat (first | exact Sel.nil | (refine Sel.cons (by repeat (exact Del.head)) ?_)))⟩
theorem c_cName (w0 : World) (g : Nat) (e : Int) (A : Option Addr) (c : Nat) (xs : List Int) (hc : xs.length ≤ c) (hw : Byt xs) (hn : xs.length ≤ 1000000000) (hM : St (OwnB [.obj g (.cells #[.int .i64 e, .slice A xs.length c] 189 (0, 0)), .rd A 1 xs.length (xs.map (Value.int .u8))]) w0 w0 [.obj g (.cells #[.int .i64 e, .slice A xs.length c] 189 (0, 0)), .rd A 1 xs.length (xs.map (Value.int .u8))]) :
    CallR Tryz.prog 219 #[.pointer (some ⟨g, 0, none⟩)] w0 fun v w' => v = .agg (ic .u8 (namS e xs).1) ∧ CuSt w0 w' [.obj g (.cells #[.int .i64 e, .slice A xs.length c] 189 (0, 0)), .rd A 1 xs.length (xs.map (Value.int .u8))] g (namS e xs).2.1 (namS e xs).2.2 [] := by
 have hS := hM
 have h0l : nm0.length = 8 := rfl
 have hnl := namS_len e xs
 refine c_enter (l := [.pointer (some ⟨g, 0, none⟩), undef, undef, undef, undef]) Tryz.func219 rfl (by simp only [Tryz.ntmps219, List.size_toArray, List.length_cons, List.length_nil, Nat.reduceAdd, Nat.reduceSub, Array.replicate_succ, Array.replicate_zero, List.push_toArray, List.append_toArray, List.nil_append, List.cons_append]) ?_
 refine x_seq fun K1 hK1 => ?_
 refine x_region ?_
 refine m_alloc ti41 hS (fun w1 g1 hS => ?_)
 try simp only [opv, n1, n2, n3, n4, Value.cells, Array.toArray_toList] at hS ⊢
 replace hS : St (OwnB [.obj g (.cells #[.int .i64 e, .slice A xs.length c] 189 (0, 0)), .rd A 1 xs.length (xs.map (Value.int .u8))]) w0 w1 (.obj _ (.cells (ic .u8 nm0) 41 (0, 0)) :: [.obj g (.cells #[.int .i64 e, .slice A xs.length c] 189 (0, 0)), .rd A 1 xs.length (xs.map (Value.int .u8))]) := hS
 refine x_nil ?_
 refine hK1 _ _ ?_
 refine x_seq fun K2 hK2 => ?_
 refine x_region ?_
 refine s_go (s_move) ?_
 try simp only [opv, n1, n2, n3, n4, Value.cells]
 refine s_call en241 ?_
 try simp only [opv, n1, n2, n3, n4, Value.cells, List.map_toArray, List.map_cons, List.map_nil, List.append_toArray, List.cons_append, List.nil_append, Array.append_empty]
 refine CallR.mono (c_onceNm _ g e A c xs hc hw hn (hS.owns (by repeat (first | exact Spl.nil | (apply Spl.cons (by repeat (first | exact Del.head | apply Del.tail))))))) ?_
 rintro _ w2 ⟨rfl, A2, c2, hcp2, hR2, hC2⟩
 have hY2 := RdIn.trans hM hS (by repeat (first | exact Spl.nil | (apply Spl.cons (by repeat (first | exact Del.head | apply Del.tail))))) hR2 (by intro s hs q hb; simp only [List.mem_cons, List.not_mem_nil, or_false] at hs; rcases hs with rfl | rfl <;> first | (simp [Res.reads] at hb; done) | exact .inr ⟨_, List.mem_cons_of_mem _ (List.mem_cons_self ..), .inr hb⟩)
 replace hS := hS.frame (by repeat (first | exact Spl.nil | (apply Spl.cons (by repeat (first | exact Del.head | apply Del.tail))))) hC2 (by intro r hr b hb; simp only [List.mem_cons, List.not_mem_nil, or_false] at hr; rcases hr with rfl | rfl <;> first | (simp [Res.reads] at hb; done) | exact hR2 b hb)
 replace hR2 := hY2
 simp only [List.cons_append, List.nil_append] at hS
 try simp only [opv, n1, n2, n3, n4, Value.cells]
 refine m_store_obj ti41 (hS := hS) (h := fun w3 hS => ?_)
 try simp only [opv, n1, n2, n3, n4, Value.cells, Array.toArray_toList] at hS ⊢
 refine x_nil ?_
 refine hK2 _ _ ?_
 refine x_ret ?_
 refine r_cell_agg rfl Tryz.underlying41 ti41 (hS := hS) (hR := ?_)
 exact ⟨rfl, _, _, by assumption, by assumption, hS.sel (by repeat (first | exact Sel.nil | (refine Sel.cons (by repeat (exact Del.head)) ?_)))⟩
theorem c_cFail (w0 : World) (g : Nat) (e : Int) (A : Option Addr) (c : Nat) (xs : List Int) (hc : xs.length ≤ c) (e' : Int) (hM : St (OwnB [.obj g (.cells #[.int .i64 e, .slice A xs.length c] 189 (0, 0)), .rd A 1 xs.length (xs.map (Value.int .u8))]) w0 w0 [.obj g (.cells #[.int .i64 e, .slice A xs.length c] 189 (0, 0)), .rd A 1 xs.length (xs.map (Value.int .u8))]) :
    CallR Tryz.prog 88 #[.pointer (some ⟨g, 0, none⟩), .int .i64 e'] w0 fun v w' => v = .tuple #[] ∧ CuSt w0 w' [.obj g (.cells #[.int .i64 e, .slice A xs.length c] 189 (0, 0)), .rd A 1 xs.length (xs.map (Value.int .u8))] g (errE e e') (errX e e' xs) [] := by
 have hS := hM
 refine c_enter (l := [.pointer (some ⟨g, 0, none⟩), .int .i64 e', undef, undef, undef, undef, undef, undef, undef]) Tryz.func88 rfl (by simp only [Tryz.ntmps88, List.size_toArray, List.length_cons, List.length_nil, Nat.reduceAdd, Nat.reduceSub, Array.replicate_succ, Array.replicate_zero, List.push_toArray, List.append_toArray, List.nil_append, List.cons_append]) ?_
 refine x_seq fun K1 hK1 => ?_
 refine x_region ?_
 refine s_go (s_move) ?_
 try simp only [opv, n1, n2, n3, n4, Value.cells]
 refine s_go (s_neq_pointer Tryz.underlying130) ?_
 try simp only [opv, n1, n2, n3, n4, Value.cells]
 refine x_nil ?_
 refine hK1 _ _ ?_
 refine x_cond_t (h := ?_)
 refine x_region ?_
 refine s_go (s_move) ?_
 try simp only [opv, n1, n2, n3, n4, Value.cells]
 refine s_go (s_move) ?_
 try simp only [opv, n1, n2, n3, n4, Value.cells]
 refine s_call en154 ?_
 try simp only [opv, n1, n2, n3, n4, Value.cells, List.map_toArray, List.map_cons, List.map_nil, List.append_toArray, List.cons_append, List.nil_append, Array.append_empty]
 refine CallR.mono (c_cerr _ g e A c xs hc e' (hS.owns (by repeat (first | exact Spl.nil | (apply Spl.cons (by repeat (exact Del.head))))))) ?_
 rintro _ w1 ⟨rfl, A1, c1, hcp1, hR1, hC1⟩
 have hY1 := RdIn.trans hM hS (by repeat (first | exact Spl.nil | (apply Spl.cons (by repeat (exact Del.head))))) hR1 (by intro s hs q hb; simp only [List.mem_cons, List.not_mem_nil, or_false] at hs; rcases hs with rfl | rfl <;> first | (simp [Res.reads] at hb; done) | exact .inr ⟨_, List.mem_cons_of_mem _ (List.mem_cons_self ..), .inr hb⟩)
 replace hS := hS.frame (by repeat (first | exact Spl.nil | (apply Spl.cons (by repeat (exact Del.head))))) hC1 (by intro r hr b hb; simp only [List.mem_cons, List.not_mem_nil, or_false] at hr; rcases hr with rfl | rfl <;> first | (simp [Res.reads] at hb; done) | exact hR1 b hb)
 replace hR1 := hY1
 simp only [List.cons_append, List.nil_append] at hS
 try simp only [opv, n1, n2, n3, n4, Value.cells]
 refine x_nil ?_
 refine r_none rfl ?_
 exact ⟨rfl, _, _, by assumption, by assumption, hS.sel (by repeat (first | exact Sel.nil | (refine Sel.cons (by repeat (exact Del.head)) ?_)))⟩
end Go.Proofs.YtffmanidnlbjjaaGreat
namespace Go.Proofs.YtffmanidnlbjjaaGreat
open Go.ChangeShapes Go.WideShapes Go.ChangeAt Go.RowKit
section
variable {H : Type} {enc : TypeId × Value → H} {P : Program}
theorem trodAll_stays {W W' : World} {sp : Nat → Bool} (hl : laidOutB P = true) (hsame : ∀ p : MemPlace, p.block < W.heap.size → W.sameAt W' p) :
    ∀ (ts : List TypeId) (vs : List Value) (ds : List (DataW H)) (ps : List MemPlace), (ts.all fun t => P.readableRec t && decide (t < P.types.size)) = true → (∀ p ∈ ps, p.block < W.heap.size) → (∀ p ∈ ps, sp p.block = true) →
      DataW.TrodAll enc P W 0 (fun _ => true) true ts vs ds ps → DataW.TrodAll enc P W' 0 sp true ts vs ds ps
  | [], [], [], _, _, _, _, h => h
  | t :: ts, v :: vs, d :: ds, ps, hr, hlt, hsp, h => by
    obtain ⟨p, q, h1, h2, rfl⟩ := h
    simp only [List.all_cons, Bool.and_eq_true, decide_eq_true_eq] at hr
    exact ⟨p, q, WideElems.Trod_stays hl hr.1.1 hr.1.2 h1 (fun x hx => hsame x (hlt x (by simp [hx]))) (fun x hx => hsp x (by simp [hx])), trodAll_stays hl hsame ts vs ds q hr.2 (fun x hx => hlt x (by simp [hx])) (fun x hx => hsp x (by simp [hx])) h2, rfl⟩
  | [], _ :: _, _, _, _, _, _, h => by simp [DataW.TrodAll] at h
  | [], [], _ :: _, _, _, _, _, h => by simp [DataW.TrodAll] at h
  | _ :: _, [], _, _, _, _, _, h => by simp [DataW.TrodAll] at h
  | _ :: _, _ :: _, [], _, _, _, _, h => by simp [DataW.TrodAll] at h
theorem trodAll_len {W : World} {b : Nat} {sp : Nat → Bool} {hd : Bool} : ∀ (ts : List TypeId) (vs : List Value) (ds : List (DataW H)) (ps : List MemPlace), DataW.TrodAll enc P W b sp hd ts vs ds ps → ds.length = ts.length
  | [], [], [], _, _ => rfl
  | t :: ts, v :: vs, d :: ds, ps, h => by
    obtain ⟨p, q, h1, h2, rfl⟩ := h
    simp [trodAll_len ts vs ds q h2]
  | [], _ :: _, _, _, h => by simp [DataW.TrodAll] at h
  | [], [], _ :: _, _, h => by simp [DataW.TrodAll] at h
  | _ :: _, [], _, _, h => by simp [DataW.TrodAll] at h
  | _ :: _, _ :: _, [], _, h => by simp [DataW.TrodAll] at h
theorem post_of_below {f : Func} {s : ChangeSpec} {apart fresh handsOn again : Bool} {W W' : World} {args : Array Value} {v : Value} {ds gs : List (DataW H)} {before pa pv : List MemPlace}
    (hW : DataW.Whole enc P f.params.toList s.vars apart W args.toList ds gs before)
    (hres : ∀ (b : Nat) (sp : Nat → Bool) (hd : Bool), DataW.TrodAll enc P W' b sp hd f.resultTypes.toList (v.resultList f.resultTypes.size) (s.fn H (ds ++ gs)).results [])
    (hargs : ∀ sp : Nat → Bool, (∀ p ∈ before, sp p.block = true) → DataW.TrodAll enc P W' 0 sp true f.params.toList args.toList (s.fn H (ds ++ gs)).args pa)
    (hvars : ∀ sp : Nat → Bool, (∀ p ∈ before, sp p.block = true) → DataW.TrodVars enc P W' sp s.vars (s.fn H (ds ++ gs)).vars pv)
    (hps : before = pa ++ pv) (hb : Below W.heap.size W W')
    (hok : ∀ (j : Nat) (t : TypeId) (r : Value), f.resultTypes[j]? = some t → (v.resultList f.resultTypes.size)[j]? = some r → Value.okWide P W' .any 0 t r) :
    s.post enc P f apart fresh handsOn again W args v W' := by
  have hlt : ∀ p ∈ before, p.block < W.heap.size := fun p hp => hW.lt p hp
  have hold : ∀ p ∈ before, (fun b => decide (b < W.heap.size)) p.block = true := fun p hp => by simpa using hlt p hp
  refine ⟨ds, gs, before, [], pa, pv, hW, hres _ _ _, hargs _ hold, hvars _ hold, World.keptBut_mono (fun p hp => ⟨hp, ?_⟩) (hb.frame (· ∈ before)), fun _ => ?_⟩
  · rw [hps, List.mem_append] at hp
    exact Or.inr hp
  · obtain ⟨_, _, _, _, _, hz, hn⟩ := hW
    refine ⟨hok, _, _, ([] ++ pa) ++ pv, ⟨[] ++ pa, pv, trodAll_append (hargs _ (fun _ _ => rfl)) (hres _ _ _), hvars _ (fun _ _ => rfl), rfl, ?_, ?_⟩, ?_⟩
    · intro b off hp
      have hin : MemPlace.cell b off ∈ before := by rw [hps]; simpa using hp
      rw [hb.frozen (hlt _ hin)]
      exact hz b off hin
    · intro ha
      have := hn ha
      rw [hps] at this
      simpa using this
    · intro p hp _
      rw [hps]
      simpa using hp
end
theorem law_lifted {H : Type} {enc : TypeId × Value → H} {C : Checked} {os : Os} {k : FuncId} {fn : Func} {s : ChangeSpec} {conds : List PathCond} {tb : TypeId}
    (own : ownKnob C.prog.godebug = none) (started : os.Started) (noInit : C.prog.inits.idxOf? k = none) (hfn : C.prog.funcs[k]? = some fn)
    (i : Input) (fuel : Nat)
    (hv : (World.plainHolding C.prog os i).variablesB C.prog = true)
    (hr : ((World.plainHolding C.prog os i).heap.toList.drop C.prog.globals.size).take ((begin C.prog (fun _ _ => 0) default).world.heap.size - C.prog.globals.size) =
      (begin C.prog (fun _ _ => 0) default).world.heap.toList.drop C.prog.globals.size)
    (hok : Input.okWideB C.prog (World.plainHolding C.prog os i) k ⟨#[], i.args, []⟩ = true)
    (hpre : s.preB enc C.prog fn conds false (World.plainHolding C.prog os i).memory i.args fuel = true)
    (hsz : s.sizedB enc C.prog fn false (World.plainHolding C.prog os i).memory i.args fuel = true)
    (hl : laidOutB C.prog = true) (hvars : s.vars = []) (hpar : (fn.params.toList.all fun t => C.prog.readableRec t && decide (t < C.prog.types.size)) = true)
    (hspec : ∀ ds : List (DataW H), ds.length = fn.params.size → s.fn H ds = { results := [.lit (.bool true)], args := ds })
    (hres : fn.resultTypes = #[tb]) (hb : C.prog.underlying tb = some .bool)
    (walk : ∀ (W : World) (base : Nat) (args : Array Value) (ds : List (DataW H)) (ps : List MemPlace),
      (∀ (j : Nat) t v, fn.params[j]? = some t → args[j]? = some v → Value.okWide C.prog W .any base t v) →
      DataW.TrodAll enc C.prog W 0 (fun _ => true) true fn.params.toList args.toList ds ps →
      (∀ x ∈ DataW.weightsEach C.prog fn.params.toList ds, x ≤ reachBytes) →
      CallR C.prog k args W fun v W' => v = .bool true ∧ Ext W W') :
    ReturnsInHanded {} C os k .any (s.pre6 enc C.prog fn conds false) (s.post enc C.prog fn false true false false) := by
  refine returnsInHanded_of_change_sized (C := C) own started noInit hfn (ChangeSpec.witness6 (enc := enc) (C := C) false i fuel hv hr hok hpre hsz) ?_
  intro W base args ds gs before hval hW _ hwt _
  have hW' := hW
  obtain ⟨p, q, hA, hV, hpq, hfz, hnd⟩ := hW
  rw [hvars] at hV
  obtain ⟨rfl, rfl⟩ := trodVars_none hV
  have hlen := trodAll_len _ _ _ _ hA
  have hwt' : ∀ x ∈ DataW.weightsEach C.prog fn.params.toList ds, x ≤ reachBytes := by
    have e : s.plain.varTypes C.prog = [] := by simp [ChangeSpec.plain, DataSpec.varTypes, hvars]
    rw [e, List.append_nil, List.append_nil] at hwt
    simpa using hwt
  refine Calls.mono (walk W base args ds p hval hA hwt') fun e W' ⟨v, he, hv, hE⟩ => ⟨v, he, ?_⟩
  subst hv
  have hB := hE.below
  have hs := hspec ds (by simpa using hlen)
  have hlt : ∀ x ∈ before, x.block < W.heap.size := fun x hx => hW'.lt x hx
  have hpb : before = p := by rw [hpq]; simp
  refine post_of_below (pa := p) (pv := []) hW' ?_ ?_ ?_ ?_ hB ?_
  · intro b sp hd
    rw [hres, List.append_nil, hs]
    exact trodAll_mk1 (shut_bool hb true)
  · intro sp hsp
    rw [List.append_nil, hs]
    exact trodAll_stays hl (fun x hx => hB.same hx) _ _ _ _ hpar (fun x hx => hlt x (hpb ▸ hx)) (fun x hx => hsp x (hpb ▸ hx)) hA
  · intro sp _
    rw [List.append_nil, hs, hvars]
    rfl
  · rw [hpb]; simp
  · exact ok_one hres rfl (okWide_bool_mk hb true)
end Go.Proofs.YtffmanidnlbjjaaGreat
namespace Go.Proofs.YtffmanidnlbjjaaGreat
open Go.ChangeShapes Go.WideShapes Go.ChangeAt Go.RowKit
theorem add_at0 (g o k : Nat) : (⟨g, o, none⟩ : Addr).add k = ⟨g, o + k, none⟩ := by unfold Addr.add; split <;> simp_all
/-- what a cell may hold, in a world -/
def LK := World → Value → Prop
def LK.int (k : IntKind) : LK := fun _ v => ∃ n, v = .int k n ∧ (Lit.int k n).wf = true
def LK.bool : LK := fun _ v => ∃ b, v = .bool b
def AllOk (w : World) : List LK → List Value → Prop
  | [], [] => True
  | k :: ks, v :: vs => k w v ∧ AllOk w ks vs
  | _, _ => False
theorem AllOk.len {w : World} : ∀ {ks : List LK} {vs : List Value}, AllOk w ks vs → vs.length = ks.length
  | [], [], _ => rfl
  | _ :: _, _ :: _, h => by simp [AllOk.len h.2]
  | [], _ :: _, h => h.elim
  | _ :: _, [], h => h.elim
theorem AllOk.app {w : World} : ∀ {ks js : List LK} {vs us : List Value}, AllOk w ks vs → AllOk w js us → AllOk w (ks ++ js) (vs ++ us)
  | [], _, [], _, _, h => h
  | _ :: _, _, _ :: _, _, h, h' => ⟨h.1, AllOk.app h.2 h'⟩
  | [], _, _ :: _, _, h, _ => h.elim
  | _ :: _, _, [], _, h, _ => h.elim
/-- the cells of a type that holds no pointer -/
def Flat (P : Program) (t : TypeId) (ks : List LK) : Prop := ∀ {H : Type} (enc : TypeId × Value → H) (w : World) (base : Nat) (sp : Nat → Bool) (held : Bool) (fuel : Nat) (cs : List Value) (x : DataW H × List MemPlace),
  DataW.trod enc P w base sp held fuel t cs = some x → AllOk w ks cs
section
variable {P : Program} {t e : TypeId} {ks : List LK}
theorem flat_int {k : IntKind} (h : P.underlying t = some (.int k)) : Flat P t [.int k] := fun _ _ _ _ _ _ _ _ hx => by
  obtain ⟨n, rfl, _, hw⟩ := DataW.trod_int h hx
  exact ⟨⟨n, rfl, hw⟩, trivial⟩
theorem allOk_rep {w : World} {c : Nat} (hc : ks.length = c) : ∀ (n : Nat) (cs : List Value), cs.length = n * c → (∀ i, i < n → AllOk w ks ((cs.drop (i * c)).take c)) → AllOk w (List.replicate n ks).flatten cs
  | 0, cs, hl, _ => by
    have : cs = [] := List.eq_nil_of_length_eq_zero (by simpa using hl)
    subst this; trivial
  | n + 1, cs, hl, h => by
    rw [List.replicate_succ, List.flatten_cons, ← List.take_append_drop c cs]
    refine AllOk.app (by simpa using h 0 (by omega)) (allOk_rep hc n _ (by simp [hl, Nat.succ_mul]) fun i hi => ?_)
    have := h (i + 1) (by omega)
    rwa [List.drop_drop, Nat.add_comm c, ← Nat.succ_mul]
theorem flat_arr {n c : Nat} (h : P.underlying t = some (.array n e)) (he : Flat P e ks) (hc : ks.length = c) (hce : P.cellsOf e = c) (hct : P.cellsOf t = n * c) : Flat P t (List.replicate n ks).flatten := fun enc w base sp held fuel cs x hx => by
  obtain ⟨xs, m, _, _, hl, hxl, hi⟩ := DataW.trod_array h hx
  refine allOk_rep hc n cs (hl.trans hct) fun i hin => ?_
  have := hi i hin
  rw [hce] at this
  have hlt : i < xs.length := by omega
  rw [List.getElem?_eq_getElem hlt] at this
  exact he enc w base sp held m _ _ this
inductive FlatFs (P : Program) : List Field → Nat → List LK → Prop
  | nil {o : Nat} : FlatFs P [] o []
  | cons {f : Field} {fs : List Field} {o c : Nat} {k1 k2 : List LK} : f.offset = o → Flat P f.type k1 → k1.length = c → P.cellsOf f.type = c → FlatFs P fs (o + c) k2 → FlatFs P (f :: fs) o (k1 ++ k2)
theorem flatFs_run {H : Type} {enc : TypeId × Value → H} {w : World} {base : Nat} {sp : Nat → Bool} {held : Bool} {m : Nat} {fs : List Field} {o : Nat} {ks : List LK} (hf : FlatFs P fs o ks) :
    ∀ (cs : List Value), cs.length = o + ks.length → (∀ f ∈ fs, ∃ y, DataW.trod enc P w base sp held m f.type ((cs.drop f.offset).take (P.cellsOf f.type)) = some y) → AllOk w ks (cs.drop o) := by
  induction hf with
  | nil => intro cs hl _; rw [List.drop_eq_nil_of_le (by simp at hl; omega)]; trivial
  | @cons f fs o c k1 k2 ho hfl hk hc _ ih =>
    intro cs hl h
    have hl' : cs.length = o + c + k2.length := by simp at hl; omega
    rw [← List.take_append_drop c (cs.drop o), List.drop_drop]
    obtain ⟨y, hy⟩ := h f (by simp)
    rw [ho, hc] at hy
    exact AllOk.app (hfl _ _ _ _ _ _ _ _ hy) (ih cs hl' (fun g hg => h g (by simp [hg])))
theorem flat_struct {fs : Array Field} (h : P.underlying t = some (.struct fs)) (hf : FlatFs P fs.toList 0 ks) (hct : P.cellsOf t = ks.length) : Flat P t ks := fun enc w base sp held fuel cs x hx => by
  obtain ⟨xs, m, _, _, hl, hxl, hi⟩ := DataW.trod_struct h hx
  have := flatFs_run (enc := enc) (w := w) (base := base) (sp := sp) (held := held) (m := m) hf cs (by rw [hl, hct]; simp) (fun f hf => by
    obtain ⟨i, hi', e⟩ := List.getElem_of_mem hf
    have h1 := hi i f (by rw [← e]; simp at hi' ⊢)
    have hlt : i < xs.length := by simp at hi'; omega
    rw [List.getElem?_eq_getElem hlt] at h1
    exact ⟨_, h1⟩)
  simpa using this
end
section
variable {H : Type} {enc : TypeId × Value → H} {P : Program} {w : World} {base : Nat} {sp : Nat → Bool} {held : Bool} {t e : TypeId} {r : Reach} {b0 : Nat} {v : Value} {d : DataW H} {ps : List MemPlace} {ks : List LK}
/-- a slice's elements, out of the look at its cells -/
theorem slice_trod {sz : Nat} (hu : P.underlying t = some (.slice e)) (hf : Flat P e ks) (hk : ks.length = sz) (hce : P.cellsOf e = sz) (h0 : 0 < sz) {m : Nat} {cs : List Value} (hm : DataW.trod enc P w base sp held m t cs = some (d, ps)) :
    ∃ A n c xs, cs = [.slice A n c] ∧ n ≤ c ∧ c ≤ maxLen ∧ Rd w A sz n xs ∧ (∀ i, i < n → AllOk w ks ((xs.drop (i * sz)).take sz)) ∧ (n = 0 ∨ ∃ es rs, d = .slice es rs ∧ es.length = n) := by
  rcases DataW.trod_slice hu hm with ⟨e1, _⟩ | ⟨a, len, cap, elems, rest, n, _, e1, hx, hb, hlc, hcm, hel, hcells, _, _⟩
  · exact ⟨none, 0, 0, [], e1, Nat.le_refl _, Nat.zero_le _, ⟨by simp, fun h => absurd h (by omega)⟩, fun i hi => absurd hi (by omega), .inl rfl⟩
  · subst e1
    simp only [Prod.mk.injEq] at hx
    -- the elements' cells, one by one
    have hone : ∀ i, i < len → ∃ cs : List Value, cs.length = sz ∧ AllOk w ks cs ∧ ∀ j, j < sz → w.cell? ((a.add (i * sz)).add j) = cs[j]? := fun i hi => by
      have h1 := hcells i hi
      rw [hce] at h1
      have hlt : i < elems.length := by omega
      rw [List.getElem?_eq_getElem hlt] at h1
      cases hc : w.cells? base (a.add (i * sz)) sz with
      | none => rw [hc] at h1; cases h1
      | some cs =>
        rw [hc] at h1
        obtain ⟨_, hl, hj⟩ := World.cells?_some hc
        exact ⟨cs, hl, hf _ _ _ _ _ _ _ _ h1, hj⟩
    have hrow : ∀ n, n ≤ len → ∃ xs : List Value, xs.length = n * sz ∧ (∀ i, i < n → AllOk w ks ((xs.drop (i * sz)).take sz)) ∧ ∀ i j, i < n → j < sz → w.cell? ((a.add (i * sz)).add j) = xs[i * sz + j]? := by
      intro n
      induction n with
      | zero => exact fun _ => ⟨[], by simp, fun i hi => absurd hi (by omega), fun i j hi => absurd hi (by omega)⟩
      | succ n ih =>
        intro hn
        obtain ⟨xs, hl, hok, hc⟩ := ih (by omega)
        obtain ⟨cs, hcl, hcok, hcc⟩ := hone n (by omega)
        refine ⟨xs ++ cs, by simp [hl, hcl, Nat.succ_mul], fun i hi => ?_, fun i j hi hj => ?_⟩
        · rcases Nat.lt_or_ge i n with h | h
          · have h2 : i * sz + sz ≤ n * sz := by rw [← Nat.succ_mul]; exact Nat.mul_le_mul_right _ h
            rw [List.drop_append_of_le_length (by omega), List.take_append_of_le_length (by simp; omega)]
            exact hok i h
          · obtain rfl : i = n := by omega
            rw [List.drop_append, hl, List.drop_eq_nil_of_le (by omega)]
            simp only [Nat.sub_self, List.drop_zero, List.nil_append]
            rwa [List.take_of_length_le (by omega)]
        · rcases Nat.lt_or_ge i n with h | h
          · have h2 : i * sz + sz ≤ n * sz := by rw [← Nat.succ_mul]; exact Nat.mul_le_mul_right _ h
            rw [List.getElem?_append_left (by omega)]
            exact hc i j h hj
          · obtain rfl : i = n := by omega
            rw [List.getElem?_append_right (by omega), hl, Nat.add_sub_cancel_left]
            exact hcc j hj
    obtain ⟨xs, hl, hok, hc⟩ := hrow len (Nat.le_refl _)
    refine ⟨some a, len, cap, xs, rfl, hlc, hcm, ⟨hl, fun hn => ?_⟩, hok, .inr ⟨_, _, hx.1, by simpa using hel⟩⟩
    -- the address is a plain one
    have h0' := hc 0 0 hn h0
    have hlt : 0 < xs.length := by rw [hl]; exact Nat.mul_pos hn h0
    obtain ⟨b, o, spot⟩ := a
    simp only [Nat.zero_mul, Nat.add_zero, Addr.add, if_true] at h0'
    rw [List.getElem?_eq_getElem hlt] at h0'
    have hsp : spot = none := by
      unfold World.cell? at h0'
      split at h0'
      · split at h0'
        · cases h0'
        · rename_i hs; simpa using hs
      · cases h0'
    subst hsp
    refine ⟨b, o, rfl, World.block_lt_of_cell? _ _ h0', fun j u hu => ?_⟩
    have hj := (List.getElem?_eq_some_iff.1 hu).1
    have hdm := Nat.div_add_mod j sz
    have h3 := hc (j / sz) (j % sz) (by rw [hl] at hj; exact Nat.div_lt_of_lt_mul (by rw [Nat.mul_comm]; exact hj)) (Nat.mod_lt _ h0)
    have hdm' : j / sz * sz + j % sz = j := by rw [Nat.mul_comm]; exact hdm
    rw [add_at0, add_at0, Nat.add_assoc, hdm'] at h3
    rw [← hu, ← h3]
theorem open_slice {sz : Nat} (hu : P.underlying t = some (.slice e)) (hf : Flat P e ks) (hk : ks.length = sz) (hce : P.cellsOf e = sz) (h0 : 0 < sz) (hval : Value.okWide P w r b0 t v) (h : DataW.Trod enc P w base sp held t v d ps) :
    ∃ A n c xs, v = .slice A n c ∧ n ≤ c ∧ c ≤ maxLen ∧ Rd w A sz n xs ∧ (∀ i, i < n → AllOk w ks ((xs.drop (i * sz)).take sz)) ∧ (n = 0 ∨ ∃ es rs, d = .slice es rs ∧ es.length = n) := by
  obtain ⟨A, len, cap, rfl⟩ := okWide_slice hu hval
  obtain ⟨m, hm⟩ := h
  obtain ⟨A', n, c, xs, e1, h⟩ := slice_trod hu hf hk hce h0 hm
  simp [Value.cells] at e1
  obtain ⟨rfl, rfl, rfl⟩ := e1
  exact ⟨_, _, _, xs, rfl, h⟩
/-- a slice of integers -/
theorem allOk_int1 {w : World} {k : IntKind} : ∀ {vs : List Value}, (∀ i, i < vs.length → AllOk w [LK.int k] ((vs.drop (i * 1)).take 1)) → ∃ l : List Int, vs = l.map (Value.int k) ∧ l.length = vs.length ∧ ∀ x ∈ l, (Lit.int k x).wf = true
  | [], _ => ⟨[], rfl, rfl, by simp⟩
  | v :: vs, h => by
    have h0 := h 0 (by simp)
    simp only [Nat.zero_mul, List.drop_zero, List.take_succ_cons, List.take_zero] at h0
    obtain ⟨⟨x, rfl, hx⟩, _⟩ := h0
    obtain ⟨l, rfl, hl, hw⟩ := allOk_int1 (vs := vs) (fun i hi => by have := h (i + 1) (by simpa using hi); simpa using this)
    exact ⟨x :: l, rfl, by simp, by intro y hy; rcases List.mem_cons.1 hy with rfl | hy; exact hx; exact hw y hy⟩
theorem open_ints {k : IntKind} (hu : P.underlying t = some (.slice e)) (he : P.underlying e = some (.int k)) (hce : P.cellsOf e = 1) (hval : Value.okWide P w r b0 t v) (h : DataW.Trod enc P w base sp held t v d ps) :
    ∃ (A : Option Addr) (n c : Nat) (l : List Int), v = .slice A n c ∧ n ≤ c ∧ Rd w A 1 n (l.map (Value.int k)) ∧ l.length = n ∧ (∀ x ∈ l, (Lit.int k x).wf = true) ∧ (n = 0 ∨ ∃ es rs, d = .slice es rs ∧ es.length = n) := by
  obtain ⟨A, n, c, xs, rfl, hnc, _, hr, hok, hd⟩ := open_slice hu (flat_int he) rfl hce Nat.one_pos hval h
  have hl : xs.length = n := by simpa using hr.1
  obtain ⟨l, rfl, hll, hw⟩ := allOk_int1 (vs := xs) (fun i hi => hok i (by omega))
  exact ⟨A, n, c, l, rfl, hnc, hr, by omega, hw, hd⟩
/-- the weight of a slice -/
theorem slice_weight {t e : TypeId} {ts : List TypeId} {d : DataW H} {ds : List (DataW H)} {n by' : Nat} (hu : P.underlying t = some (.slice e)) (hby : P.bytesOf e = by') (h : ∀ x ∈ DataW.weightsEach P (t :: ts) (d :: ds), x ≤ reachBytes) (hd : n = 0 ∨ ∃ es rs, d = .slice es rs ∧ es.length = n) : n * by' ≤ reachBytes := by
  rcases hd with rfl | ⟨es, rs, rfl, rfl⟩
  · simp
  · have := h ((es.length + rs.length) * P.bytesOf e) (by simp [DataW.weightsEach, DataW.weights, hu])
    rw [hby] at this
    exact Nat.le_trans (Nat.mul_le_mul_right _ (by omega)) this
theorem rest_weight {t : TypeId} {ts : List TypeId} {d : DataW H} {ds : List (DataW H)} (h : ∀ x ∈ DataW.weightsEach P (t :: ts) (d :: ds), x ≤ reachBytes) : ∀ x ∈ DataW.weightsEach P ts ds, x ≤ reachBytes := fun x hx => h x (by simp [DataW.weightsEach, hx])
end
end Go.Proofs.YtffmanidnlbjjaaGreat
namespace Go.Proofs.YtffmanidnlbjjaaGreat
theorem allOk_zi {w : World} : ∀ {ks : List IntKind} {cs : List Value}, AllOk w (ks.map LK.int) cs → ∃ xs : List Int, cs = zi ks xs ∧ xs.length = ks.length ∧ ∀ i k, ks[i]? = some k → (Lit.int k (xs.getD i 0)).wf = true
  | [], [], _ => ⟨[], rfl, rfl, fun i k h => by simp at h⟩
  | [], _ :: _, h => h.elim
  | k :: ks, [], h => h.elim
  | k :: ks, v :: vs, ⟨⟨n, hn, hw⟩, h⟩ => by
    obtain ⟨xs, rfl, hl, hx⟩ := allOk_zi h
    refine ⟨n :: xs, by rw [hn]; rfl, by simp [hl], fun i k' hi => ?_⟩
    rcases i with _ | i
    · simp at hi; subst hi; simpa using hw
    · simpa using hx i k' (by simpa using hi)
theorem allOk_of {w : World} : ∀ {ks : List IntKind} {xs : List Int}, xs.length = ks.length → (∀ i k, ks[i]? = some k → (Lit.int k (xs.getD i 0)).wf = true) → AllOk w (ks.map LK.int) (zi ks xs)
  | [], [], _, _ => trivial
  | [], _ :: _, h, _ => by simp at h
  | _ :: _, [], h, _ => by simp at h
  | k :: ks, x :: xs, h, hx => ⟨⟨x, rfl, by simpa using hx 0 k rfl⟩, allOk_of (by simpa using h) fun i k' hi => by simpa using hx (i + 1) k' (by simpa using hi)⟩
theorem zi_inj : ∀ {ks : List IntKind} {xs ys : List Int}, xs.length = ks.length → ys.length = ks.length → zi ks xs = zi ks ys → xs = ys
  | [], [], [], _, _, _ => rfl
  | [], _ :: _, _, h, _, _ => by simp at h
  | [], [], _ :: _, _, h, _ => by simp at h
  | _ :: _, [], _, h, _, _ => by simp at h
  | _ :: _, _ :: _, [], _, h, _ => by simp at h
  | k :: ks, x :: xs, y :: ys, h1, h2, h => by
    simp only [zi, List.zipWith_cons_cons, List.cons.injEq, Value.int.injEq, true_and] at h
    rw [h.1, zi_inj (by simpa using h1) (by simpa using h2) h.2]
theorem wf_u8 {x : Int} (h : (Lit.int .u8 x).wf = true) : x = (x.toNat : Int) ∧ x.toNat < 256 := by have := bounds_u8 h; omega
theorem wf_u16 {x : Int} (h : (Lit.int .u16 x).wf = true) : x = (x.toNat : Int) ∧ x.toNat < 65536 := by have := bounds_u16 h; omega
theorem wf_u32 {x : Int} (h : (Lit.int .u32 x).wf = true) : x = (x.toNat : Int) ∧ x.toNat < 4294967296 := by have := bounds_u32 h; omega
theorem wf_u64 {x : Int} (h : (Lit.int .u64 x).wf = true) : x = (x.toNat : Int) ∧ x.toNat < 18446744073709551616 := by have := bounds_u64 h; omega
theorem key_open {w : World} {cs : List Value} (h : AllOk w (keyKs.map LK.int) cs) : ∃ x, cs = zi keyKs x ∧ KeyOk x := by
  obtain ⟨x, rfl, hl, hx⟩ := allOk_zi h
  refine ⟨x, rfl, hl, (wf_u8 (hx 0 _ rfl)).1, (wf_u8 (hx 0 _ rfl)).2, (wf_u16 (hx 1 _ rfl)).1, (wf_u16 (hx 1 _ rfl)).2, ?_, (wf_u8 (hx 10 _ rfl)).1, (wf_u8 (hx 10 _ rfl)).2, (wf_u32 (hx 11 _ rfl)).1, (wf_u32 (hx 11 _ rfl)).2⟩
  have hl : x.length = 12 := hl
  have hb : ∀ i, 2 ≤ i → i < 10 → 0 ≤ x.getD i 0 ∧ x.getD i 0 ≤ 255 := fun i h1 h2 => by
    have : keyKs[i]? = some .u8 := by
      have : i = 2 ∨ i = 3 ∨ i = 4 ∨ i = 5 ∨ i = 6 ∨ i = 7 ∨ i = 8 ∨ i = 9 := by omega
      rcases this with rfl | rfl | rfl | rfl | rfl | rfl | rfl | rfl <;> rfl
    exact bounds_u8 (hx i _ this)
  intro y hy
  obtain ⟨j, hj, rfl⟩ := List.getElem_of_mem hy
  have hj8 : j < 8 := by rw [kitem_len hl] at hj; exact hj
  have := hb (2 + j) (by omega) (by omega)
  rw [List.getD_eq_getElem?_getD, List.getElem?_eq_getElem (by omega)] at this
  simpa [kitem] using this
end Go.Proofs.YtffmanidnlbjjaaGreat
namespace Go.Proofs.YtffmanidnlbjjaaGreat
theorem val_open {w : World} {cs : List Value} (h : AllOk w (valKs.map LK.int) cs) : ∃ v, cs = zi valKs v ∧ ValOk v := by
  obtain ⟨x, rfl, hl, hx⟩ := allOk_zi h
  have hl : x.length = 9 := hl
  refine ⟨x, rfl, hl, (wf_u64 (hx 0 _ rfl)).1, (wf_u64 (hx 0 _ rfl)).2, ?_⟩
  have hb : ∀ i, 1 ≤ i → i < 9 → 0 ≤ x.getD i 0 ∧ x.getD i 0 ≤ 255 := fun i h1 h2 => by
    have : valKs[i]? = some .u8 := by
      have : i = 1 ∨ i = 2 ∨ i = 3 ∨ i = 4 ∨ i = 5 ∨ i = 6 ∨ i = 7 ∨ i = 8 := by omega
      rcases this with rfl | rfl | rfl | rfl | rfl | rfl | rfl | rfl <;> rfl
    exact bounds_u8 (hx i _ this)
  intro y hy
  obtain ⟨j, hj, rfl⟩ := List.getElem_of_mem hy
  have hj8 : j < 8 := by rw [vtext_len hl] at hj; exact hj
  have := hb (1 + j) (by omega) (by omega)
  rw [List.getD_eq_getElem?_getD, List.getElem?_eq_getElem (by omega)] at this
  simpa [vtext, Nat.add_comm] using this
theorem atom_open {w : World} {cs : List Value} (h : AllOk w (atomKs.map LK.int) cs) : ∃ a, cs = zi atomKs a ∧ AtomOk a := by
  obtain ⟨x, rfl, hl, hx⟩ := allOk_zi h
  have hl : x.length = 21 := hl
  have hk : AllOk w (keyKs.map LK.int) (zi keyKs (akey x)) := allOk_of (by simp [akey, hl]) fun i k hi => by
    have h12 : i < 12 := (List.getElem?_eq_some_iff.1 hi).1
    have e : (akey x).getD i 0 = x.getD i 0 := by simp [akey, List.getD_eq_getElem?_getD, List.getElem?_take_of_lt h12]
    rw [e]
    refine hx i k ?_
    have : atomKs = keyKs ++ valKs := rfl
    rw [this, List.getElem?_append_left h12]; exact hi
  have hv : AllOk w (valKs.map LK.int) (zi valKs (aval x)) := allOk_of (by simp [aval, hl]) fun i k hi => by
    have h9 : i < 9 := (List.getElem?_eq_some_iff.1 hi).1
    have e : (aval x).getD i 0 = x.getD (12 + i) 0 := by simp [aval, List.getD_eq_getElem?_getD]
    rw [e]
    refine hx (12 + i) k ?_
    have : atomKs = keyKs ++ valKs := rfl
    rw [this, List.getElem?_append_right (by simp)]; simpa using hi
  obtain ⟨k, ek, hk'⟩ := key_open hk
  obtain ⟨v, ev, hv'⟩ := val_open hv
  have ek' : akey x = k := zi_inj (ks := keyKs) (by simp [akey, hl]) hk'.len ek
  have ev' : aval x = v := zi_inj (ks := valKs) (by simp [aval, hl]) hv'.len ev
  exact ⟨x, rfl, hl, by rw [ek']; exact hk', by rw [ev']; exact hv'⟩
end Go.Proofs.YtffmanidnlbjjaaGreat
namespace Go.Proofs.YtffmanidnlbjjaaGreat
/-- the cells of a row of things -/
def rowsOf {α : Type} (cells : α → List Value) (l : List α) : List Value := (l.map cells).flatten
section
variable {α : Type} {cells : α → List Value} {sz : Nat}
theorem rowsOf_cons (a : α) (l : List α) : rowsOf cells (a :: l) = cells a ++ rowsOf cells l := rfl
theorem rowsOf_app (l m : List α) : rowsOf cells (l ++ m) = rowsOf cells l ++ rowsOf cells m := by simp [rowsOf]
theorem rows_len (h : ∀ a, (cells a).length = sz) : ∀ l : List α, (rowsOf cells l).length = l.length * sz
  | [] => by simp [rowsOf]
  | a :: l => by rw [rowsOf_cons, List.length_append, rows_len h l, h a, List.length_cons, Nat.succ_mul, Nat.add_comm]
theorem rows_drop (h : ∀ a, (cells a).length = sz) (l : List α) (k : Nat) : (rowsOf cells l).drop (k * sz) = rowsOf cells (l.drop k) := by
  rcases Nat.lt_or_ge l.length k with hk | hk
  · have h1 : l.length * sz ≤ k * sz := Nat.mul_le_mul_right _ (by omega)
    rw [List.drop_eq_nil_of_le (by rw [rows_len h]; exact h1), List.drop_eq_nil_of_le (by omega)]; rfl
  · conv => lhs; rw [← List.take_append_drop k l, rowsOf_app]
    exact List.drop_left' (by rw [rows_len h, List.length_take, Nat.min_eq_left hk])
theorem rows_get (h : ∀ a, (cells a).length = sz) (d : α) {l : List α} {k : Nat} (hk : k < l.length) : ((rowsOf cells l).drop (k * sz)).take sz = cells (l.getD k d) := by
  rw [rows_drop h, List.drop_eq_getElem_cons hk, rowsOf_cons, List.take_left' (h _)]
  simp [List.getD_eq_getElem?_getD, List.getElem?_eq_getElem hk]
theorem rows_at (h : ∀ a, (cells a).length = sz) (d : α) {l : List α} {k j : Nat} (hk : k < l.length) (hj : j < sz) : (rowsOf cells l)[k * sz + j]? = (cells (l.getD k d))[j]? := by
  rw [← rows_get h d hk, List.getElem?_take_of_lt hj, List.getElem?_drop]
theorem rows_open {w : World} {ks : List LK} {ok : α → Prop} (hsz : ∀ cs, AllOk w ks cs → ∃ a, cs = cells a ∧ ok a) : ∀ (n : Nat) (xs : List Value), xs.length = n * sz → (∀ i, i < n → AllOk w ks ((xs.drop (i * sz)).take sz)) → ∃ l : List α, l.length = n ∧ xs = rowsOf cells l ∧ ∀ a ∈ l, ok a
  | 0, xs, hl, _ => ⟨[], rfl, List.eq_nil_of_length_eq_zero (by simpa using hl), by simp⟩
  | n + 1, xs, hl, h => by
    obtain ⟨a, ha, hok⟩ := hsz _ (by simpa using h 0 (by omega))
    obtain ⟨l, hll, hx, hl2⟩ := rows_open hsz n (xs.drop sz) (by simp [hl, Nat.succ_mul]) fun i hi => by
      have := h (i + 1) (by omega)
      rwa [List.drop_drop, Nat.add_comm sz, ← Nat.succ_mul]
    refine ⟨a :: l, by simp [hll], ?_, by intro b hb; rcases List.mem_cons.1 hb with rfl | hb; exact hok; exact hl2 b hb⟩
    rw [rowsOf_cons, ← ha, ← hx, List.take_append_drop]
end
structure Pc where
  d : Int
  x : Nat
  c : Int
  nm : List Int
  A : Option Addr
  cap : Nat
  b : List Int
  n : Int
structure PcOk (w : World) (p : Pc) : Prop where
  d : -9223372036854775808 ≤ p.d ∧ p.d ≤ 9223372036854775807
  x : p.x < 18446744073709551616
  c : 0 ≤ p.c ∧ p.c ≤ 255
  nl : p.nm.length = 8
  nb : Byt p.nm
  rd : Rd w p.A 1 p.b.length (p.b.map (Value.int .u8))
  bb : Byt p.b
  bc : p.b.length ≤ p.cap
  bm : p.cap ≤ maxLen
  n : -9223372036854775808 ≤ p.n ∧ p.n ≤ 9223372036854775807
end Go.Proofs.YtffmanidnlbjjaaGreat
set_option linter.unusedSimpArgs false
set_option linter.unusedVariables false
set_option maxHeartbeats 800000
set_option maxRecDepth 100000
namespace Go.Proofs.YtffmanidnlbjjaaGreat
open Go.RowKit

theorem PcOk.ext {w w' : World} {p : Pc} (h : PcOk w p) (hE : Ext w w') : PcOk w' p := ⟨h.d, h.x, h.c, h.nl, h.nb, Res.holds_ext (r := .rd p.A 1 p.b.length (p.b.map (Value.int .u8))) h.rd hE, h.bb, h.bc, h.bm, h.n⟩
end Go.Proofs.YtffmanidnlbjjaaGreat
namespace Go.Proofs.YtffmanidnlbjjaaGreat
/-- what was read may be wrong -/
def askS (bad : Bool) (w : Int) (s : Int × List Int) : Int × List Int := if s.1 = 0 ∧ bad = true then (w, []) else s
theorem askS_err {b : Bool} {w : Int} {s : Int × List Int} (h : ¬ s.1 = 0) : askS b w s = s := if_neg fun h1 => h h1.1
theorem askS_bad {b : Bool} {w : Int} {s : Int × List Int} (h : s.1 = 0) (hb : b = true) : askS b w s = (w, []) := if_pos ⟨h, hb⟩
theorem askS_good {b : Bool} {w : Int} {s : Int × List Int} (hb : b = false) : askS b w s = s := if_neg fun h1 => by rw [hb] at h1; exact absurd h1.2 (by decide)
theorem askS_zero {b : Bool} {w : Int} {s : Int × List Int} (hw : ¬ w = 0) (h : (askS b w s).1 = 0) : s.1 = 0 ∧ b = false ∧ askS b w s = s := by
  unfold askS at h ⊢
  split at h
  · exact absurd h hw
  · next h1 =>
    refine ⟨h, ?_, if_neg h1⟩
    cases b
    · rfl
    · exact absurd ⟨h, rfl⟩ h1
theorem askS_ok {b : Bool} {w : Int} {s : Int × List Int} (h : ErrOk s.1 s.2) : ErrOk (askS b w s).1 (askS b w s).2 := by
  unfold askS
  split
  · exact fun _ => rfl
  · exact h
theorem askS_byt {b : Bool} {w : Int} {s : Int × List Int} (h : Byt s.2) : Byt (askS b w s).2 := by
  unfold askS
  split
  · intro y hy; cases hy
  · exact h
theorem askS_len (b : Bool) (w : Int) (s : Int × List Int) : (askS b w s).2.length ≤ s.2.length := by
  unfold askS
  split
  · simp
  · exact Nat.le_refl _
section
variable (e : Int) (xs : List Int)
abbrev kA : Int := (oneS e xs).1
def kS1 : Int × List Int := askS (!decide (1 ≤ kA e xs ∧ kA e xs ≤ 4)) 3 (oneS e xs).2
abbrev kC : Nat := (numS 65535 (kS1 e xs).1 (kS1 e xs).2).1
def kS2 : Int × List Int := (numS 65535 (kS1 e xs).1 (kS1 e xs).2).2
abbrev kN : List Int := (namS (kS2 e xs).1 (kS2 e xs).2).1
def kS3 : Int × List Int := askS (decide (kN e xs = nm0)) 3 (namS (kS2 e xs).1 (kS2 e xs).2).2
abbrev kR : Int := (oneS (kS3 e xs).1 (kS3 e xs).2).1
def kS4 : Int × List Int := askS (!decide (kR e xs < 16)) 2 (oneS (kS3 e xs).1 (kS3 e xs).2).2
abbrev kQ : Nat := (numS 4294967295 (kS4 e xs).1 (kS4 e xs).2).1
def kS5 : Int × List Int := askS (decide (kQ e xs = 0)) 3 (numS 4294967295 (kS4 e xs).1 (kS4 e xs).2).2
end
section
variable {e : Int} {xs : List Int}
theorem kS1_zero (h : (kS1 e xs).1 = 0) : (oneS e xs).2.1 = 0 ∧ (1 ≤ kA e xs ∧ kA e xs ≤ 4) ∧ kS1 e xs = (oneS e xs).2 := by
  obtain ⟨h1, h2, h3⟩ := askS_zero (by decide) h
  exact ⟨h1, by simpa using h2, h3⟩
theorem kS3_zero (h : (kS3 e xs).1 = 0) : (namS (kS2 e xs).1 (kS2 e xs).2).2.1 = 0 ∧ ¬ kN e xs = nm0 ∧ kS3 e xs = (namS (kS2 e xs).1 (kS2 e xs).2).2 := by
  obtain ⟨h1, h2, h3⟩ := askS_zero (by decide) h
  exact ⟨h1, by simpa using h2, h3⟩
theorem kS4_zero (h : (kS4 e xs).1 = 0) : (oneS (kS3 e xs).1 (kS3 e xs).2).2.1 = 0 ∧ kR e xs < 16 ∧ kS4 e xs = (oneS (kS3 e xs).1 (kS3 e xs).2).2 := by
  obtain ⟨h1, h2, h3⟩ := askS_zero (by decide) h
  exact ⟨h1, by simpa using h2, h3⟩
theorem kS5_zero (h : (kS5 e xs).1 = 0) : (numS 4294967295 (kS4 e xs).1 (kS4 e xs).2).2.1 = 0 ∧ ¬ kQ e xs = 0 ∧ kS5 e xs = (numS 4294967295 (kS4 e xs).1 (kS4 e xs).2).2 := by
  obtain ⟨h1, h2, h3⟩ := askS_zero (by decide) h
  exact ⟨h1, by simpa using h2, h3⟩
theorem kS2_err (h : ¬ (kS1 e xs).1 = 0) : kS2 e xs = kS1 e xs := by rw [kS2, numS_err h]
theorem kS4_err (h : ¬ (kS3 e xs).1 = 0) : kS4 e xs = kS3 e xs := by rw [kS4, oneS_err h, askS_err h]
theorem keyS_1 (h : ¬ (kS1 e xs).1 = 0) : keyS e xs = (key0, kS1 e xs) := by
  unfold keyS
  by_cases h1 : (oneS e xs).2.1 = 0
  · rw [if_pos h1]
    by_cases h2 : 1 ≤ (oneS e xs).1 ∧ (oneS e xs).1 ≤ 4
    · exact absurd (by rw [kS1, askS_good (by rw [decide_eq_true h2]; rfl)]; exact h1) h
    · rw [if_neg h2, kS1, askS_bad h1 (by rw [decide_eq_false h2]; rfl)]
  · rw [if_neg h1, kS1, askS_err h1]
theorem keyS_at2 (h1 : (kS1 e xs).1 = 0) : keyS e xs = (if (kS2 e xs).1 = 0 then (if kA e xs = 4 then (mkKey 4 (kC e xs) nm0 0 0, kS2 e xs) else keyS.keyT (kA e xs) (kC e xs) (kS2 e xs).1 (kS2 e xs).2) else (key0, kS2 e xs)) := by
  obtain ⟨h2, h3, h4⟩ := kS1_zero h1
  unfold keyS
  rw [if_pos h2, if_pos h3]
  rw [kS2, kC, h4]
theorem keyS_2 (h1 : (kS1 e xs).1 = 0) (h2 : ¬ (kS2 e xs).1 = 0) : keyS e xs = (key0, kS2 e xs) := by rw [keyS_at2 h1, if_neg h2]
theorem keyS_3 (h1 : (kS1 e xs).1 = 0) (h2 : (kS2 e xs).1 = 0) (h4 : kA e xs = 4) : keyS e xs = (mkKey 4 (kC e xs) nm0 0 0, kS2 e xs) := by rw [keyS_at2 h1, if_pos h2, if_pos h4]
theorem keyT_at {s : Int} {c : Nat} : keyS.keyT s c (kS2 e xs).1 (kS2 e xs).2 = (if (kS4 e xs).1 = 0 then (if s = 1 then keyS.keyQ c (kN e xs) (kR e xs) (kS4 e xs).1 (kS4 e xs).2 else (mkKey s.toNat c (kN e xs) (kR e xs).toNat 0, kS4 e xs)) else (key0, kS4 e xs)) := by
  unfold keyS.keyT
  by_cases h1 : (namS (kS2 e xs).1 (kS2 e xs).2).2.1 = 0
  · rw [if_pos h1]
    by_cases h2 : kN e xs = nm0
    · have h3 : kS3 e xs = (3, []) := by rw [kS3, askS_bad h1 (by simpa using h2)]
      have h4 : ¬ (kS3 e xs).1 = 0 := by rw [h3]; decide
      rw [if_pos h2, kS4_err h4, if_neg h4, h3]
    · have h3 : kS3 e xs = (namS (kS2 e xs).1 (kS2 e xs).2).2 := by rw [kS3, askS_good (by simpa using h2)]
      rw [if_neg h2, ← h3]
      by_cases h5 : (oneS (kS3 e xs).1 (kS3 e xs).2).2.1 = 0
      · rw [if_pos h5]
        by_cases h6 : 16 ≤ kR e xs
        · have h7 : kS4 e xs = (2, []) := by rw [kS4, askS_bad h5 (by simp; omega)]
          rw [if_pos h6, h7, if_neg (by decide)]
        · have h7 : kS4 e xs = (oneS (kS3 e xs).1 (kS3 e xs).2).2 := by rw [kS4, askS_good (by simp; omega)]
          rw [if_neg h6, h7, if_pos h5]
      · have h7 : kS4 e xs = (oneS (kS3 e xs).1 (kS3 e xs).2).2 := by rw [kS4, askS_err h5]
        rw [if_neg h5, h7, if_neg h5]
  · have h3 : kS3 e xs = (namS (kS2 e xs).1 (kS2 e xs).2).2 := by rw [kS3, askS_err h1]
    have h4 : ¬ (kS3 e xs).1 = 0 := by rw [h3]; exact h1
    rw [if_neg h1, kS4_err h4, if_neg h4, h3]
theorem keyS_4 (h1 : (kS1 e xs).1 = 0) (h2 : (kS2 e xs).1 = 0) (h4 : ¬ kA e xs = 4) (h5 : ¬ (kS4 e xs).1 = 0) : keyS e xs = (key0, kS4 e xs) := by rw [keyS_at2 h1, if_pos h2, if_neg h4, keyT_at, if_neg h5]
theorem keyS_5 (h1 : (kS1 e xs).1 = 0) (h2 : (kS2 e xs).1 = 0) (h4 : ¬ kA e xs = 4) (h5 : (kS4 e xs).1 = 0) (h6 : ¬ kA e xs = 1) : keyS e xs = (mkKey (kA e xs).toNat (kC e xs) (kN e xs) (kR e xs).toNat 0, kS4 e xs) := by rw [keyS_at2 h1, if_pos h2, if_neg h4, keyT_at, if_pos h5, if_neg h6]
theorem keyS_at6 (h1 : (kS1 e xs).1 = 0) (h2 : (kS2 e xs).1 = 0) (h5 : (kS4 e xs).1 = 0) (h6 : kA e xs = 1) : keyS e xs = (if (kS5 e xs).1 = 0 then (mkKey 1 (kC e xs) (kN e xs) (kR e xs).toNat (kQ e xs), kS5 e xs) else (key0, kS5 e xs)) := by
  rw [keyS_at2 h1, if_pos h2, if_neg (by omega), keyT_at, if_pos h5, if_pos h6]
  unfold keyS.keyQ
  by_cases h7 : (numS 4294967295 (kS4 e xs).1 (kS4 e xs).2).2.1 = 0
  · rw [if_pos h7]
    by_cases h8 : kQ e xs = 0
    · have h9 : kS5 e xs = (3, []) := by rw [kS5, askS_bad h7 (by simpa using h8)]
      rw [if_pos h8, h9, if_neg (by decide)]
    · have h9 : kS5 e xs = (numS 4294967295 (kS4 e xs).1 (kS4 e xs).2).2 := by rw [kS5, askS_good (by simpa using h8)]
      rw [if_neg h8, h9, if_pos h7]
  · have h9 : kS5 e xs = (numS 4294967295 (kS4 e xs).1 (kS4 e xs).2).2 := by rw [kS5, askS_err h7]
    rw [if_neg h7, h9, if_neg h7]
theorem keyS_6 (h1 : (kS1 e xs).1 = 0) (h2 : (kS2 e xs).1 = 0) (h5 : (kS4 e xs).1 = 0) (h6 : kA e xs = 1) (h7 : ¬ (kS5 e xs).1 = 0) : keyS e xs = (key0, kS5 e xs) := by rw [keyS_at6 h1 h2 h5 h6, if_neg h7]
theorem keyS_7 (h1 : (kS1 e xs).1 = 0) (h2 : (kS2 e xs).1 = 0) (h5 : (kS4 e xs).1 = 0) (h6 : kA e xs = 1) (h7 : (kS5 e xs).1 = 0) : keyS e xs = (mkKey 1 (kC e xs) (kN e xs) (kR e xs).toNat (kQ e xs), kS5 e xs) := by rw [keyS_at6 h1 h2 h5 h6, if_pos h7]
theorem namS_zero {e : Int} {xs : List Int} (h : (namS e xs).2.1 = 0) : e = 0 := Decidable.byContradiction fun he => by rw [namS_err he] at h; exact he h
theorem kS1_byt (h : Byt xs) : Byt (kS1 e xs).2 := askS_byt (oneS_byt h)
theorem kS2_byt (h : Byt xs) : Byt (kS2 e xs).2 := numS_byt (kS1_byt h)
theorem kS3_byt (h : Byt xs) : Byt (kS3 e xs).2 := askS_byt (namS_byt' (kS2_byt h))
theorem kS4_byt (h : Byt xs) : Byt (kS4 e xs).2 := askS_byt (oneS_byt (kS3_byt h))
theorem kS5_byt (h : Byt xs) : Byt (kS5 e xs).2 := askS_byt (numS_byt (kS4_byt h))
theorem kS1_len : (kS1 e xs).2.length ≤ xs.length := Nat.le_trans (askS_len _ _ _) (oneS_len _ _)
theorem kS2_len : (kS2 e xs).2.length ≤ xs.length := Nat.le_trans (numS_len _ _ _) kS1_len
theorem kS3_len : (kS3 e xs).2.length ≤ xs.length := Nat.le_trans (askS_len _ _ _) (Nat.le_trans (namS_len' _ _) kS2_len)
theorem kS4_len : (kS4 e xs).2.length ≤ xs.length := Nat.le_trans (askS_len _ _ _) (Nat.le_trans (oneS_len _ _) kS3_len)
theorem kS5_len : (kS5 e xs).2.length ≤ xs.length := Nat.le_trans (askS_len _ _ _) (Nat.le_trans (numS_len _ _ _) kS4_len)
theorem keyS_ok (h : ErrOk e xs) : ErrOk (keyS e xs).2.1 (keyS e xs).2.2 := by
  have o1 : ErrOk (kS1 e xs).1 (kS1 e xs).2 := askS_ok (oneS_ok h)
  have o2 : ErrOk (kS2 e xs).1 (kS2 e xs).2 := numS_ok o1
  have o3 : ErrOk (kS3 e xs).1 (kS3 e xs).2 := askS_ok (namS_ok o2)
  have o4 : ErrOk (kS4 e xs).1 (kS4 e xs).2 := askS_ok (oneS_ok o3)
  have o5 : ErrOk (kS5 e xs).1 (kS5 e xs).2 := askS_ok (numS_ok o4)
  by_cases h1 : (kS1 e xs).1 = 0
  · by_cases h2 : (kS2 e xs).1 = 0
    · by_cases h4 : kA e xs = 4
      · rw [keyS_3 h1 h2 h4]; exact o2
      · by_cases h5 : (kS4 e xs).1 = 0
        · by_cases h6 : kA e xs = 1
          · by_cases h7 : (kS5 e xs).1 = 0
            · rw [keyS_7 h1 h2 h5 h6 h7]; exact o5
            · rw [keyS_6 h1 h2 h5 h6 h7]; exact o5
          · rw [keyS_5 h1 h2 h4 h5 h6]; exact o4
        · rw [keyS_4 h1 h2 h4 h5]; exact o4
    · rw [keyS_2 h1 h2]; exact o2
  · rw [keyS_1 h1]; exact o1
theorem keyS_byt (h : Byt xs) : Byt (keyS e xs).2.2 := by
  by_cases h1 : (kS1 e xs).1 = 0
  · by_cases h2 : (kS2 e xs).1 = 0
    · by_cases h4 : kA e xs = 4
      · rw [keyS_3 h1 h2 h4]; exact kS2_byt h
      · by_cases h5 : (kS4 e xs).1 = 0
        · by_cases h6 : kA e xs = 1
          · by_cases h7 : (kS5 e xs).1 = 0
            · rw [keyS_7 h1 h2 h5 h6 h7]; exact kS5_byt h
            · rw [keyS_6 h1 h2 h5 h6 h7]; exact kS5_byt h
          · rw [keyS_5 h1 h2 h4 h5 h6]; exact kS4_byt h
        · rw [keyS_4 h1 h2 h4 h5]; exact kS4_byt h
    · rw [keyS_2 h1 h2]; exact kS2_byt h
  · rw [keyS_1 h1]; exact kS1_byt h
theorem keyS_len : (keyS e xs).2.2.length ≤ xs.length := by
  by_cases h1 : (kS1 e xs).1 = 0
  · by_cases h2 : (kS2 e xs).1 = 0
    · by_cases h4 : kA e xs = 4
      · rw [keyS_3 h1 h2 h4]; exact kS2_len
      · by_cases h5 : (kS4 e xs).1 = 0
        · by_cases h6 : kA e xs = 1
          · by_cases h7 : (kS5 e xs).1 = 0
            · rw [keyS_7 h1 h2 h5 h6 h7]; exact kS5_len
            · rw [keyS_6 h1 h2 h5 h6 h7]; exact kS5_len
          · rw [keyS_5 h1 h2 h4 h5 h6]; exact kS4_len
        · rw [keyS_4 h1 h2 h4 h5]; exact kS4_len
    · rw [keyS_2 h1 h2]; exact kS2_len
  · rw [keyS_1 h1]; exact kS1_len
end
end Go.Proofs.YtffmanidnlbjjaaGreat
set_option linter.unusedSimpArgs false
set_option linter.unusedVariables false
set_option maxHeartbeats 800000
set_option maxRecDepth 100000
namespace Go.Proofs.YtffmanidnlbjjaaGreat
open Go.RowKit
theorem c_keyDot (x : List Int) (hk : KeyOk x)  (w0 : World) :
    CallR Tryz.prog 53 #[.agg (KA x)] w0 fun v w' => v = .int .u64 (dotN x : Int) ∧ Ext w0 w' := by
 have hS : St NoB w0 w0 [] := St.start w0
 refine c_enter (l := [.agg (KA x), undef, undef, undef, undef, undef, undef, undef, undef, undef, undef]) Tryz.func53 rfl (by simp only [Tryz.ntmps53, List.size_toArray, List.length_cons, List.length_nil, Nat.reduceAdd, Nat.reduceSub, Array.replicate_succ, Array.replicate_zero, List.push_toArray, List.append_toArray, List.nil_append, List.cons_append]) ?_
 refine x_seq fun K1 hK1 => ?_
 refine x_region ?_
 refine m_box hS (fun w1 g1 hS => ?_)
 try simp only [opv, n1, n2, n3, n4, Value.cells, Array.toArray_toList] at hS ⊢
 refine s_go (s_assign) ?_
 try simp only [opv, n1, n2, n3, n4, Value.cells]
 refine x_nil ?_
 refine hK1 _ _ ?_
 refine x_seq fun K2 hK2 => ?_
 refine x_region ?_
 have hkl := hk.len
 have hb10 := hk.b10
 have hb11 := hk.b11
 refine s_go (m_fieldAddr Tryz.underlying83 (hi := ti5)) ?_
 try simp only [opv, n1, n2, n3, n4, Value.cells, Nat.zero_add, Nat.add_zero, List.getElem_toArray, List.getElem_cons_zero, List.getElem_cons_succ]
 refine s_go (m_load_obj Tryz.underlying5 (hS := hS) (hv := by exact zi_get rfl (by omega))) ?_
 try simp only [opv, n1, n2, n3, n4, Value.cells, List.getElem_toArray, List.getElem_cons_zero, List.getElem_cons_succ]
 rw [hk.e10]
 refine s_go (s_conv Tryz.underlying5 Tryz.underlying84 (hc := by exact wr_u64 (by omega) (by omega))) ?_
 try simp only [opv, n1, n2, n3, n4, Value.cells]
 refine s_go (s_shl (hc := shl_lt64 (r := kn x 10) (n := 32) rfl (by omega))) ?_
 try simp only [opv, n1, n2, n3, n4, Value.cells]
 refine s_go (m_fieldAddr Tryz.underlying83 (hi := ti24)) ?_
 try simp only [opv, n1, n2, n3, n4, Value.cells, Nat.zero_add, Nat.add_zero, List.getElem_toArray, List.getElem_cons_zero, List.getElem_cons_succ]
 refine s_go (m_load_obj Tryz.underlying24 (hS := hS) (hv := by exact zi_get rfl (by omega))) ?_
 try simp only [opv, n1, n2, n3, n4, Value.cells, List.getElem_toArray, List.getElem_cons_zero, List.getElem_cons_succ]
 rw [hk.e11]
 refine s_go (s_conv Tryz.underlying24 Tryz.underlying84 (hc := by exact wr_u64 (by omega) (by omega))) ?_
 try simp only [opv, n1, n2, n3, n4, Value.cells]
 refine s_go (s_bits (by simp) (hc := or_hi64 (n := 32) hb11 (by omega))) ?_
 try simp only [opv, n1, n2, n3, n4, Value.cells]
 refine s_go (s_assign) ?_
 try simp only [opv, n1, n2, n3, n4, Value.cells]
 refine x_nil ?_
 refine hK2 _ _ ?_
 refine x_ret ?_
 refine r_tmp rfl ?_
 exact ⟨rfl, hS.ext_of⟩
end Go.Proofs.YtffmanidnlbjjaaGreat
set_option linter.unusedSimpArgs false
set_option linter.unusedVariables false
set_option maxHeartbeats 800000
set_option maxRecDepth 100000
namespace Go.Proofs.YtffmanidnlbjjaaGreat
open Go.RowKit
theorem c_keyWords (x : List Int) (hk : KeyOk x)  (w0 : World) :
    CallR Tryz.prog 147 #[.agg (KA x)] w0 fun v w' => v = .agg (ic .u64 (wordsL x)) ∧ Ext w0 w' := by
 have hS : St NoB w0 w0 [] := St.start w0
 refine c_enter (l := [.agg (KA x), undef, undef, undef, undef, undef, undef, undef, undef, undef, undef, undef, undef, undef, undef, undef, undef]) Tryz.func147 rfl (by simp only [Tryz.ntmps147, List.size_toArray, List.length_cons, List.length_nil, Nat.reduceAdd, Nat.reduceSub, Array.replicate_succ, Array.replicate_zero, List.push_toArray, List.append_toArray, List.nil_append, List.cons_append]) ?_
 refine x_seq fun K1 hK1 => ?_
 refine x_region ?_
 have hkl := hk.len
 have hb0 := hk.b0
 have hb1 := hk.b1
 have hb10 := hk.b10
 have hb11 := hk.b11
 have hil := kitem_len hk.len
 have hib := hk.item
 refine m_box hS (fun w1 g1 hS => ?_)
 try simp only [opv, n1, n2, n3, n4, Value.cells, Array.toArray_toList] at hS ⊢
 refine m_alloc ti98 hS (fun w2 g2 hS => ?_)
 try simp only [opv, n1, n2, n3, n4, Value.cells, Array.toArray_toList] at hS ⊢
 have hS : St NoB w0 w2 [.obj g2 (.cells (ic .u64 [0, 0, 0]) 98 (0, 0)), .obj g1 (.cells (KA x) 83 (0, 0))] := hS
 refine x_nil ?_
 refine hK1 _ _ ?_
 refine x_seq fun K2 hK2 => ?_
 refine x_mixed_f [14] 0 [3, 4, 5, 6, 7, 8, 9, 10, 11, 12, 13, 14, 15, 16] (fun f w => St NoB w0 w [.obj g2 (.cells (ic .u64 (wordsL x)) 98 (0, 0)), .obj g1 (.cells (KA x) 83 (0, 0))]) (by kernel_rfl) (by kernel_rfl) (by kernel_rfl) (by decide) hS (fun w3 hS => ?mixpre101) ?mixrest101
 case mixpre101 =>
  refine p_nil ?_
  simp only [List.length_cons, List.length_nil, Nat.reduceAdd, Nat.reduceSub]
  refine any_go (i := 0) (by rfl) (by decide +kernel) (by decide +kernel) (by unfold noLate; decide) (go_yields w_none (fun w hS => m_fieldAddr Tryz.underlying83 (hi := ti5))) ?_
  try simp only [opv, n1, n2, n3, n4, Value.cells, Nat.zero_add, Nat.add_zero, List.getElem_toArray, List.getElem_cons_zero, List.getElem_cons_succ]
  refine any_go (i := 1) (by rfl) (by decide +kernel) (by decide +kernel) (by unfold noLate; decide) (go_yields w_none (fun w hS => m_load_obj Tryz.underlying5 (hS := hS) (hv := by exact zi_get rfl (by omega)))) ?_
  try simp only [opv, n1, n2, n3, n4, Value.cells, List.getElem_toArray, List.getElem_cons_zero, List.getElem_cons_succ]
  rw [hk.e0]
  refine any_go (i := 2) (by rfl) (by decide +kernel) (by decide +kernel) (by unfold noLate; decide) (go_yields w_none (fun w hS => s_conv Tryz.underlying5 Tryz.underlying84 (hc := by exact wr_u64 (by omega) (by omega)))) ?_
  try simp only [opv, n1, n2, n3, n4, Value.cells]
  refine any_go (i := 3) (by rfl) (by decide +kernel) (by decide +kernel) (by unfold noLate; decide) (go_yields w_none (fun w hS => s_shl (hc := shl_lt64 (r := kn x 0) (n := 16) rfl (by omega)))) ?_
  try simp only [opv, n1, n2, n3, n4, Value.cells]
  refine any_go (i := 4) (by rfl) (by decide +kernel) (by decide +kernel) (by unfold noLate; decide) (go_yields w_none (fun w hS => m_fieldAddr Tryz.underlying83 (hi := ti39))) ?_
  try simp only [opv, n1, n2, n3, n4, Value.cells, Nat.zero_add, Nat.add_zero, List.getElem_toArray, List.getElem_cons_zero, List.getElem_cons_succ]
  refine any_go (i := 5) (by rfl) (by decide +kernel) (by decide +kernel) (by unfold noLate; decide) (go_yields w_none (fun w hS => m_load_obj Tryz.underlying39 (hS := hS) (hv := by exact zi_get rfl (by omega)))) ?_
  try simp only [opv, n1, n2, n3, n4, Value.cells, List.getElem_toArray, List.getElem_cons_zero, List.getElem_cons_succ]
  rw [hk.e1]
  refine any_go (i := 6) (by rfl) (by decide +kernel) (by decide +kernel) (by unfold noLate; decide) (go_yields w_none (fun w hS => s_conv Tryz.underlying39 Tryz.underlying84 (hc := by exact wr_u64 (by omega) (by omega)))) ?_
  try simp only [opv, n1, n2, n3, n4, Value.cells]
  refine any_go (i := 7) (by rfl) (by decide +kernel) (by decide +kernel) (by unfold noLate; decide) (go_yields w_none (fun w hS => s_bits (by simp) (hc := or_hi64 (n := 16) (show kn x 1 < 2 ^ 16 from hb1) (by omega)))) ?_
  try simp only [opv, n1, n2, n3, n4, Value.cells]
  refine any_go (i := 8) (by rfl) (by decide +kernel) (by decide +kernel) (by unfold noLate; decide) (go_yields w_none (fun w hS => m_fieldAddr Tryz.underlying83 (hi := ti41))) ?_
  try simp only [opv, n1, n2, n3, n4, Value.cells, Nat.zero_add, Nat.add_zero, List.getElem_toArray, List.getElem_cons_zero, List.getElem_cons_succ]
  refine any_go (i := 9) (by rfl) (by decide +kernel) (by decide +kernel) (by unfold noLate; decide) (go_yields w_none (fun w hS => m_loada_obj Tryz.underlying41 (hi := ti41) (hS := hS) (hfit := by (rw [zi_size (by omega)]; decide)))) ?_
  try simp only [opv, n1, n2, n3, n4, Value.cells, List.getElem_toArray, List.getElem_cons_zero, List.getElem_cons_succ]
  rw [key_item hkl]
  apply any_go (i := 10) (by rfl) (by decide +kernel) (by decide +kernel) (by unfold noLate; decide) (call_yields w_none en189 ?H1) ?K1
  case H1 =>
    intro w hS
    try simp only [opv, n1, n2, n3, n4, List.map_toArray, List.map_cons, List.map_nil, List.append_toArray, List.cons_append, List.nil_append, Array.append_empty]
    refine CallR.mono (c_nameNumber _ hil hib _) ?_
    rintro _ w1 ⟨rfl, hE⟩; exact ⟨rfl, hE⟩
  try simp only [opv, n1, n2, n3, n4, Value.cells]
  refine any_go (i := 11) (by rfl) (by decide +kernel) (by decide +kernel) (by unfold noLate; decide) (go_yields w_none (fun w hS => m_load_row Tryz.underlying83 (hi := ti83) (hS := hS) (hfit := by (rw [zi_size (by omega)]; rfl)))) ?_
  try simp only [opv, n1, n2, n3, n4, Value.cells, List.getElem_toArray, List.getElem_cons_zero, List.getElem_cons_succ]
  apply any_go (i := 12) (by rfl) (by decide +kernel) (by decide +kernel) (by unfold noLate; decide) (call_yields w_none en53 ?H2) ?K2
  case H2 =>
    intro w hS
    try simp only [opv, n1, n2, n3, n4, List.map_toArray, List.map_cons, List.map_nil, List.append_toArray, List.cons_append, List.nil_append, Array.append_empty]
    refine CallR.mono (c_keyDot x hk _) ?_
    rintro _ w1 ⟨rfl, hE⟩; exact ⟨rfl, hE⟩
  try simp only [opv, n1, n2, n3, n4, Value.cells]
  refine any_go (i := 13) (by rfl) (by decide +kernel) (by decide +kernel) (by unfold noLate; decide) (go_yields w_none (fun w hS => s_build_arr (cells := #[_, _, _]) Tryz.underlying98 ti98 ti84 (hc := by simp only [List.map_toArray, List.map_cons, List.map_nil, opv, n1, n2, n3, n4, Value.cells, List.toList_toArray]; (repeat (refine fill_cons rfl rfl (Nat.le_of_ble_eq_true rfl) ?_)); rfl))) ?_
  try simp only [opv, n1, n2, n3, n4, Value.cells]
  rw [show (#[.int .u64 ((2 ^ 16 * kn x 0 + kn x 1 : Nat) : Int), .int .u64 (numN (kitem x) : Int), .int .u64 (dotN x : Int)] : Array Value) = ic .u64 (wordsL x) from rfl]
  refine any_step [14] (by kernel_rfl) (by decide) (fun w4 hE => ⟨fun _ => (hS.ext hE).sel (by repeat (first | exact Sel.nil | (refine Sel.cons (by repeat (exact Del.head)) ?_))), ?_⟩)
  replace hS := hS.ext hE
  intro i hi
  simp only [List.mem_cons, List.not_mem_nil, or_false] at hi
  subst hi
  ·
   refine any_op (by rfl) ?_
   refine m_store_obj ti98 (hS := hS) (hc := by (exact splice_whole (by rfl))) (hv := by rfl) (hfit := by (simp only [ic_size, List.length_map, List.size_toArray]; decide)) (h1 := by exact ic_one _ _) (h := fun w5 hS => ?_)
   try simp only [opv, n1, n2, n3, n4, Value.cells, Array.toArray_toList] at hS ⊢
   refine x_nil ?_
   refine any_nil (by kernel_rfl) (fun w6 hE => ?_)
   replace hS := hS.ext hE
   refine ⟨fun hl => absurd (hl 14 (by decide)) (by decide +kernel), ?_⟩
   refine mix_leaf (by simp only [clob, List.foldl, n1, n2, n3, n4]) ?_
   try simp only [n1, n2]
   exact hS.sel (by repeat (first | exact Sel.nil | (refine Sel.cons (by repeat (exact Del.head)) ?_)))
 intro fm1 w7 hM
 replace hS := hM
 simp only [clob, List.foldl, n3, n4]
 refine hK2 _ _ ?_
 refine x_ret ?_
 refine r_cell_agg rfl Tryz.underlying98 ti98 (hS := hS) (hfit := by rfl) (hR := ?_)
 exact ⟨rfl, hS.ext_of⟩
theorem c_ref08Words (x : List Int) (hk : KeyOk x)  (w0 : World) :
    CallR Tryz.prog 55 #[.agg (KA x)] w0 fun v w' => v = .agg (ic .u64 (wordsL x)) ∧ Ext w0 w' := by
 have hS : St NoB w0 w0 [] := St.start w0
 refine c_enter (l := [.agg (KA x), undef, undef, undef, undef, undef, undef, undef, undef, undef, undef, undef, undef, undef, undef, undef, undef, undef, undef, undef, undef, undef, undef]) Tryz.func55 rfl (by simp only [Tryz.ntmps55, List.size_toArray, List.length_cons, List.length_nil, Nat.reduceAdd, Nat.reduceSub, Array.replicate_succ, Array.replicate_zero, List.push_toArray, List.append_toArray, List.nil_append, List.cons_append]) ?_
 refine x_seq fun K1 hK1 => ?_
 refine x_region ?_
 have hkl := hk.len
 have hb0 := hk.b0
 have hb1 := hk.b1
 have hb10 := hk.b10
 have hb11 := hk.b11
 have hil := kitem_len hk.len
 have hib := hk.item
 refine m_box hS (fun w1 g1 hS => ?_)
 try simp only [opv, n1, n2, n3, n4, Value.cells, Array.toArray_toList] at hS ⊢
 refine m_alloc ti98 hS (fun w2 g2 hS => ?_)
 try simp only [opv, n1, n2, n3, n4, Value.cells, Array.toArray_toList] at hS ⊢
 have hS : St NoB w0 w2 [.obj g2 (.cells (ic .u64 [0, 0, 0]) 98 (0, 0)), .obj g1 (.cells (KA x) 83 (0, 0))] := hS
 refine x_nil ?_
 refine hK1 _ _ ?_
 refine x_seq fun K2 hK2 => ?_
 refine x_mixed_f [20] 0 [3, 4, 5, 6, 7, 8, 9, 10, 11, 12, 13, 14, 15, 16, 17, 18, 19, 20, 21, 22] (fun f w => St NoB w0 w [.obj g2 (.cells (ic .u64 (wordsL x)) 98 (0, 0)), .obj g1 (.cells (KA x) 83 (0, 0))]) (by kernel_rfl) (by kernel_rfl) (by kernel_rfl) (by decide) hS (fun w3 hS => ?mixpre101) ?mixrest101
 case mixpre101 =>
  refine p_nil ?_
  simp only [List.length_cons, List.length_nil, Nat.reduceAdd, Nat.reduceSub]
  refine any_go (i := 0) (by rfl) (by decide +kernel) (by decide +kernel) (by unfold noLate; decide) (go_yields w_none (fun w hS => m_fieldAddr Tryz.underlying83 (hi := ti5))) ?_
  try simp only [opv, n1, n2, n3, n4, Value.cells, Nat.zero_add, Nat.add_zero, List.getElem_toArray, List.getElem_cons_zero, List.getElem_cons_succ]
  refine any_go (i := 1) (by rfl) (by decide +kernel) (by decide +kernel) (by unfold noLate; decide) (go_yields w_none (fun w hS => m_load_obj Tryz.underlying5 (hS := hS) (hv := by exact zi_get rfl (by omega)))) ?_
  try simp only [opv, n1, n2, n3, n4, Value.cells, List.getElem_toArray, List.getElem_cons_zero, List.getElem_cons_succ]
  rw [hk.e0]
  refine any_go (i := 2) (by rfl) (by decide +kernel) (by decide +kernel) (by unfold noLate; decide) (go_yields w_none (fun w hS => s_conv Tryz.underlying5 Tryz.underlying84 (hc := by exact wr_u64 (by omega) (by omega)))) ?_
  try simp only [opv, n1, n2, n3, n4, Value.cells]
  refine any_go (i := 3) (by rfl) (by decide +kernel) (by decide +kernel) (by unfold noLate; decide) (go_yields w_none (fun w hS => s_mul (hc := by exact wr_u64 (by omega) (by omega)))) ?_
  try simp only [opv, n1, n2, n3, n4, Value.cells]
  refine any_go (i := 4) (by rfl) (by decide +kernel) (by decide +kernel) (by unfold noLate; decide) (go_yields w_none (fun w hS => m_fieldAddr Tryz.underlying83 (hi := ti39))) ?_
  try simp only [opv, n1, n2, n3, n4, Value.cells, Nat.zero_add, Nat.add_zero, List.getElem_toArray, List.getElem_cons_zero, List.getElem_cons_succ]
  refine any_go (i := 5) (by rfl) (by decide +kernel) (by decide +kernel) (by unfold noLate; decide) (go_yields w_none (fun w hS => m_load_obj Tryz.underlying39 (hS := hS) (hv := by exact zi_get rfl (by omega)))) ?_
  try simp only [opv, n1, n2, n3, n4, Value.cells, List.getElem_toArray, List.getElem_cons_zero, List.getElem_cons_succ]
  rw [hk.e1]
  refine any_go (i := 6) (by rfl) (by decide +kernel) (by decide +kernel) (by unfold noLate; decide) (go_yields w_none (fun w hS => s_conv Tryz.underlying39 Tryz.underlying84 (hc := by exact wr_u64 (by omega) (by omega)))) ?_
  try simp only [opv, n1, n2, n3, n4, Value.cells]
  refine any_go (i := 7) (by rfl) (by decide +kernel) (by decide +kernel) (by unfold noLate; decide) (go_yields w_none (fun w hS => s_add (hc := by exact wr_u64 (by omega) (by omega)))) ?_
  try simp only [opv, n1, n2, n3, n4, Value.cells]
  rw [show (kn x 0 : Int) * 65536 + (kn x 1 : Int) = (headN x : Int) by unfold headN; omega]
  refine any_go (i := 8) (by rfl) (by decide +kernel) (by decide +kernel) (by unfold noLate; decide) (go_yields w_none (fun w hS => m_fieldAddr Tryz.underlying83 (hi := ti41))) ?_
  try simp only [opv, n1, n2, n3, n4, Value.cells, Nat.zero_add, Nat.add_zero, List.getElem_toArray, List.getElem_cons_zero, List.getElem_cons_succ]
  refine any_go (i := 9) (by rfl) (by decide +kernel) (by decide +kernel) (by unfold noLate; decide) (go_yields w_none (fun w hS => m_loada_obj Tryz.underlying41 (hi := ti41) (hS := hS) (hfit := by (rw [zi_size (by omega)]; decide)))) ?_
  try simp only [opv, n1, n2, n3, n4, Value.cells, List.getElem_toArray, List.getElem_cons_zero, List.getElem_cons_succ]
  rw [key_item hkl]
  apply any_go (i := 10) (by rfl) (by decide +kernel) (by decide +kernel) (by unfold noLate; decide) (call_yields w_none en110 ?H1) ?K1
  case H1 =>
    intro w hS
    try simp only [opv, n1, n2, n3, n4, List.map_toArray, List.map_cons, List.map_nil, List.append_toArray, List.cons_append, List.nil_append, Array.append_empty]
    refine CallR.mono (c_ref06Number _ hil hib _) ?_
    rintro _ w1 ⟨rfl, hE⟩; exact ⟨rfl, hE⟩
  try simp only [opv, n1, n2, n3, n4, Value.cells]
  refine any_go (i := 11) (by rfl) (by decide +kernel) (by decide +kernel) (by unfold noLate; decide) (go_yields w_none (fun w hS => m_fieldAddr Tryz.underlying83 (hi := ti5))) ?_
  try simp only [opv, n1, n2, n3, n4, Value.cells, Nat.zero_add, Nat.add_zero, List.getElem_toArray, List.getElem_cons_zero, List.getElem_cons_succ]
  refine any_go (i := 12) (by rfl) (by decide +kernel) (by decide +kernel) (by unfold noLate; decide) (go_yields w_none (fun w hS => m_load_obj Tryz.underlying5 (hS := hS) (hv := by exact zi_get rfl (by omega)))) ?_
  try simp only [opv, n1, n2, n3, n4, Value.cells, List.getElem_toArray, List.getElem_cons_zero, List.getElem_cons_succ]
  rw [hk.e10]
  refine any_go (i := 13) (by rfl) (by decide +kernel) (by decide +kernel) (by unfold noLate; decide) (go_yields w_none (fun w hS => s_conv Tryz.underlying5 Tryz.underlying84 (hc := by exact wr_u64 (by omega) (by omega)))) ?_
  try simp only [opv, n1, n2, n3, n4, Value.cells]
  refine any_go (i := 14) (by rfl) (by decide +kernel) (by decide +kernel) (by unfold noLate; decide) (go_yields w_none (fun w hS => s_mul (hc := by exact wr_u64 (by omega) (by omega)))) ?_
  try simp only [opv, n1, n2, n3, n4, Value.cells]
  refine any_go (i := 15) (by rfl) (by decide +kernel) (by decide +kernel) (by unfold noLate; decide) (go_yields w_none (fun w hS => m_fieldAddr Tryz.underlying83 (hi := ti24))) ?_
  try simp only [opv, n1, n2, n3, n4, Value.cells, Nat.zero_add, Nat.add_zero, List.getElem_toArray, List.getElem_cons_zero, List.getElem_cons_succ]
  refine any_go (i := 16) (by rfl) (by decide +kernel) (by decide +kernel) (by unfold noLate; decide) (go_yields w_none (fun w hS => m_load_obj Tryz.underlying24 (hS := hS) (hv := by exact zi_get rfl (by omega)))) ?_
  try simp only [opv, n1, n2, n3, n4, Value.cells, List.getElem_toArray, List.getElem_cons_zero, List.getElem_cons_succ]
  rw [hk.e11]
  refine any_go (i := 17) (by rfl) (by decide +kernel) (by decide +kernel) (by unfold noLate; decide) (go_yields w_none (fun w hS => s_conv Tryz.underlying24 Tryz.underlying84 (hc := by exact wr_u64 (by omega) (by omega)))) ?_
  try simp only [opv, n1, n2, n3, n4, Value.cells]
  refine any_go (i := 18) (by rfl) (by decide +kernel) (by decide +kernel) (by unfold noLate; decide) (go_yields w_none (fun w hS => s_add (hc := by exact wr_u64 (by omega) (by omega)))) ?_
  try simp only [opv, n1, n2, n3, n4, Value.cells]
  rw [show (kn x 10 : Int) * 4294967296 + (kn x 11 : Int) = (dotN x : Int) by unfold dotN; omega]
  refine any_go (i := 19) (by rfl) (by decide +kernel) (by decide +kernel) (by unfold noLate; decide) (go_yields w_none (fun w hS => s_build_arr (cells := #[_, _, _]) Tryz.underlying98 ti98 ti84 (hc := by simp only [List.map_toArray, List.map_cons, List.map_nil, opv, n1, n2, n3, n4, Value.cells, List.toList_toArray]; (repeat (refine fill_cons rfl rfl (Nat.le_of_ble_eq_true rfl) ?_)); rfl))) ?_
  try simp only [opv, n1, n2, n3, n4, Value.cells]
  rw [show (#[.int .u64 (headN x : Int), .int .u64 (numN (kitem x) : Int), .int .u64 (dotN x : Int)] : Array Value) = ic .u64 (wordsL x) from rfl]
  refine any_step [20] (by kernel_rfl) (by decide) (fun w4 hE => ⟨fun _ => (hS.ext hE).sel (by repeat (first | exact Sel.nil | (refine Sel.cons (by repeat (exact Del.head)) ?_))), ?_⟩)
  replace hS := hS.ext hE
  intro i hi
  simp only [List.mem_cons, List.not_mem_nil, or_false] at hi
  subst hi
  ·
   refine any_op (by rfl) ?_
   refine m_store_obj ti98 (hS := hS) (hc := by (exact splice_whole (by rfl))) (hv := by rfl) (hfit := by (simp only [ic_size, List.length_map, List.size_toArray]; decide)) (h1 := by exact ic_one _ _) (h := fun w5 hS => ?_)
   try simp only [opv, n1, n2, n3, n4, Value.cells, Array.toArray_toList] at hS ⊢
   refine x_nil ?_
   refine any_nil (by kernel_rfl) (fun w6 hE => ?_)
   replace hS := hS.ext hE
   refine ⟨fun hl => absurd (hl 20 (by decide)) (by decide +kernel), ?_⟩
   refine mix_leaf (by simp only [clob, List.foldl, n1, n2, n3, n4]) ?_
   try simp only [n1, n2]
   exact hS.sel (by repeat (first | exact Sel.nil | (refine Sel.cons (by repeat (exact Del.head)) ?_)))
 intro fm1 w7 hM
 replace hS := hM
 simp only [clob, List.foldl, n3, n4]
 refine hK2 _ _ ?_
 refine x_ret ?_
 refine r_cell_agg rfl Tryz.underlying98 ti98 (hS := hS) (hfit := by rfl) (hR := ?_)
 exact ⟨rfl, hS.ext_of⟩

theorem rgt_a {p q : Prop} [Decidable p] [Decidable q] {b : Bool} (h : ¬ p) : false = (decide p && b && decide q) := by simp [h]
theorem rgt_b {p q : Prop} [Decidable p] [Decidable q] {b : Bool} (h : b = false) : false = (decide p && b && decide q) := by simp [h]
theorem rgt_c {p q q' : Prop} [Decidable p] [Decidable q] [Decidable q'] {b : Bool} (h : p) (hb : b = true) (hq : q' ↔ q) : decide q' = (decide p && b && decide q) := by simp [h, hb, hq]
theorem rgt_d {p p' q : Prop} [Decidable p] [Decidable p'] [Decidable q] {b : Bool} (h : q) (hb : b = true) (hq : p' ↔ p) : decide p' = (decide p && b && decide q) := by simp [h, hb, hq]
theorem rgt_e {p q : Prop} [Decidable p] [Decidable q] {b : Bool} (h : ¬ q) : false = (decide p && b && decide q) := by simp [h]
theorem c_keyRight (x : List Int) (hk : KeyOk x)  (w0 : World) :
    CallR Tryz.prog 200 #[.agg (KA x)] w0 fun v w' => v = .bool (keyR x) ∧ Ext w0 w' := by
 have hS : St NoB w0 w0 [] := St.start w0
 refine c_enter (l := [.agg (KA x), undef, undef, undef, undef, undef, undef, undef, undef, undef, undef, undef, undef, undef, undef, undef, undef, undef, undef, undef, undef, undef, undef, undef, undef, undef, undef, undef, undef, undef, undef, undef, undef, undef, undef, undef, undef, undef, undef, undef, undef, undef, undef, undef, undef, undef, undef]) Tryz.func200 rfl (by simp only [Tryz.ntmps200, List.size_toArray, List.length_cons, List.length_nil, Nat.reduceAdd, Nat.reduceSub, Array.replicate_succ, Array.replicate_zero, List.push_toArray, List.append_toArray, List.nil_append, List.cons_append]) ?_
 refine x_seq fun K1 hK1 => ?_
 refine x_region ?_
 have hkl := hk.len
 have hb0 := hk.b0
 have hb1 := hk.b1
 have hb10 := hk.b10
 have hb11 := hk.b11
 have hil := kitem_len hk.len
 have hib := hk.item
 refine m_box hS (fun w1 g1 hS => ?_)
 try simp only [opv, n1, n2, n3, n4, Value.cells, Array.toArray_toList] at hS ⊢
 refine s_go (s_assign) ?_
 try simp only [opv, n1, n2, n3, n4, Value.cells]
 refine x_nil ?_
 refine hK1 _ _ ?_
 refine x_seq fun K2 hK2 => ?_
 refine x_region ?_
 refine s_go (m_fieldAddr Tryz.underlying83 (hi := ti5)) ?_
 try simp only [opv, n1, n2, n3, n4, Value.cells, Nat.zero_add, Nat.add_zero, List.getElem_toArray, List.getElem_cons_zero, List.getElem_cons_succ]
 refine s_go (m_load_obj Tryz.underlying5 (hS := hS) (hv := by exact zi_get rfl (by omega))) ?_
 try simp only [opv, n1, n2, n3, n4, Value.cells, List.getElem_toArray, List.getElem_cons_zero, List.getElem_cons_succ]
 rw [hk.e0]
 refine s_go (m_fieldAddr Tryz.underlying83 (hi := ti39)) ?_
 try simp only [opv, n1, n2, n3, n4, Value.cells, Nat.zero_add, Nat.add_zero, List.getElem_toArray, List.getElem_cons_zero, List.getElem_cons_succ]
 refine s_go (m_load_obj Tryz.underlying39 (hS := hS) (hv := by exact zi_get rfl (by omega))) ?_
 try simp only [opv, n1, n2, n3, n4, Value.cells, List.getElem_toArray, List.getElem_cons_zero, List.getElem_cons_succ]
 rw [hk.e1]
 refine s_go (s_build_struct (cells := #[_, _, .int .u8 0, .int .u8 0, .int .u8 0, .int .u8 0, .int .u8 0, .int .u8 0, .int .u8 0, .int .u8 0, .int .u8 0, .int .u32 0]) Tryz.underlying83 ti83 bp83 (hc := by simp only [List.map_toArray, List.map_cons, List.map_nil, opv, n1, n2, n3, n4, Value.cells, List.toList_toArray]; (repeat (refine fill_cons rfl rfl (Nat.le_of_ble_eq_true rfl) ?_)); rfl)) ?_
 try simp only [opv, n1, n2, n3, n4, Value.cells]
 rw [show (#[.int .u8 (kn x 0 : Int), .int .u16 (kn x 1 : Int), .int .u8 0, .int .u8 0, .int .u8 0, .int .u8 0, .int .u8 0, .int .u8 0, .int .u8 0, .int .u8 0, .int .u8 0, .int .u32 0] : Array Value) = KA (bareK x) from rfl]
 have hbl : (bareK x).length = 12 := rfl
 refine m_alloc ti83 hS (fun w2 g2 hS => ?_)
 try simp only [opv, n1, n2, n3, n4, Value.cells, Array.toArray_toList] at hS ⊢
 refine m_store_obj ti83 (hS := hS) (hc := by (exact splice_whole (by rfl))) (hv := by rfl) (hfit := by (simp only [ic_size, List.length_map, List.size_toArray]; decide)) (h1 := by exact zi_one _ _) (h := fun w3 hS => ?_)
 try simp only [opv, n1, n2, n3, n4, Value.cells, Array.toArray_toList] at hS ⊢
 have hS : St NoB w0 w3 [.obj g2 (.cells (KA (bareK x)) 83 (0, 0)), .obj g1 (.cells (KA x) 83 (0, 0))] := hS
 refine x_nil ?_
 refine hK2 _ _ ?_
 refine x_seq fun K3 hK3 => ?_
 refine x_seq fun K4 hK4 => ?_
 refine x_region ?_
 refine s_go (m_fieldAddr Tryz.underlying83 (hi := ti5)) ?_
 try simp only [opv, n1, n2, n3, n4, Value.cells, Nat.zero_add, Nat.add_zero, List.getElem_toArray, List.getElem_cons_zero, List.getElem_cons_succ]
 refine s_go (m_load_obj Tryz.underlying5 (hS := hS) (hv := by exact zi_get rfl (by omega))) ?_
 try simp only [opv, n1, n2, n3, n4, Value.cells, List.getElem_toArray, List.getElem_cons_zero, List.getElem_cons_succ]
 rw [hk.e0]
 refine x_nil ?_
 refine hK4 _ _ ?_
 refine x_block ?_
 refine x_seq fun K5 hK5 => ?_
 refine x_region ?_
 refine s_go (s_eql) ?_
 try simp only [opv, n1, n2, n3, n4, Value.cells]
 refine s_go (s_assign) ?_
 try simp only [opv, n1, n2, n3, n4, Value.cells]
 refine x_nil ?_
 refine hK5 _ _ ?_
 refine x_cond (ht := fun hc1 => ?_) (hf := fun hc1 => ?_)
 ·
  try simp only [decide_eq_true_eq, decide_eq_false_iff_not, Bool.not_eq_true', Bool.not_eq_false', Int.not_lt, Int.not_le, ne_eq, Decidable.not_not, bne_iff_ne, beq_iff_eq, not_true_eq_false, not_false_eq_true] at hc1
  have hR : keyR x = decide (x = bareK x) := by rw [keyR, if_pos (by omega)]
  refine x_seq fun K6 hK6 => ?_
  refine x_region ?_
  refine s_go (m_load_row Tryz.underlying83 (hi := ti83) (hS := hS) (hfit := by (rw [zi_size (by omega)]; rfl))) ?_
  try simp only [opv, n1, n2, n3, n4, Value.cells, List.getElem_toArray, List.getElem_cons_zero, List.getElem_cons_succ]
  refine s_go (m_load_row Tryz.underlying83 (hi := ti83) (hS := hS) (hfit := by (rw [zi_size (by omega)]; rfl))) ?_
  try simp only [opv, n1, n2, n3, n4, Value.cells, List.getElem_toArray, List.getElem_cons_zero, List.getElem_cons_succ]
  refine s_go (s_eql_agg eqv83 (hg := eg83) (hX := rfl) (hY := rfl) (h1 := by assumption) (h2 := by assumption)) ?_
  try simp only [opv, n1, n2, n3, n4, Value.cells]
  refine s_go (s_assign) ?_
  try simp only [opv, n1, n2, n3, n4, Value.cells]
  refine x_nil ?_
  refine hK6 _ _ ?_
  refine x_ret ?_
  refine r_tmp rfl ?_
  exact ⟨by rw [hR]; rfl, hS.ext_of⟩
 ·
  try simp only [decide_eq_true_eq, decide_eq_false_iff_not, Bool.not_eq_true', Bool.not_eq_false', Int.not_lt, Int.not_le, ne_eq, Decidable.not_not, bne_iff_ne, beq_iff_eq, not_true_eq_false, not_false_eq_true] at hc1
  refine x_seq fun K7 hK7 => ?_
  refine x_region ?_
  refine s_go (s_eql) ?_
  try simp only [opv, n1, n2, n3, n4, Value.cells]
  refine s_go (s_assign) ?_
  try simp only [opv, n1, n2, n3, n4, Value.cells]
  refine x_nil ?_
  refine hK7 _ _ ?_
  refine x_cond (ht := fun hc2 => ?_) (hf := fun hc2 => ?_)
  ·
   try simp only [decide_eq_true_eq, decide_eq_false_iff_not, Bool.not_eq_true', Bool.not_eq_false', Int.not_lt, Int.not_le, ne_eq, Decidable.not_not, bne_iff_ne, beq_iff_eq, not_true_eq_false, not_false_eq_true] at hc2
   have hR : keyR x = (decide (kn x 11 ≠ 0) && nright (kitem x) && decide (kn x 10 < 16)) := by rw [keyR, if_neg (by omega), if_pos (by omega)]
   refine x_seq fun K8 hK8 => ?_
   refine x_region ?_
   refine s_go (m_fieldAddr Tryz.underlying83 (hi := ti24)) ?_
   try simp only [opv, n1, n2, n3, n4, Value.cells, Nat.zero_add, Nat.add_zero, List.getElem_toArray, List.getElem_cons_zero, List.getElem_cons_succ]
   refine s_go (m_load_obj Tryz.underlying24 (hS := hS) (hv := by exact zi_get rfl (by omega))) ?_
   try simp only [opv, n1, n2, n3, n4, Value.cells, List.getElem_toArray, List.getElem_cons_zero, List.getElem_cons_succ]
   rw [hk.e11]
   refine s_go (s_neq) ?_
   try simp only [opv, n1, n2, n3, n4, Value.cells]
   refine s_go (s_move) ?_
   try simp only [opv, n1, n2, n3, n4, Value.cells]
   refine s_part 21 rfl (fun hp1 => ?_) (fun hp1 => ?_)
   ·
    try simp only [n3, n4]
    try simp only [decide_eq_true_eq, decide_eq_false_iff_not, Bool.not_eq_true', Bool.not_eq_false', Int.not_lt, Int.not_le, ne_eq, Decidable.not_not] at hp1
    refine g_on (yi (t := 21) rfl rfl) ?_
    refine s_go (m_fieldAddr Tryz.underlying83 (hi := ti41)) ?_
    try simp only [opv, n1, n2, n3, n4, Value.cells, Nat.zero_add, Nat.add_zero, List.getElem_toArray, List.getElem_cons_zero, List.getElem_cons_succ]
    refine g_on (yi (t := 21) rfl rfl) ?_
    refine s_go (m_loada_obj Tryz.underlying41 (hi := ti41) (hS := hS) (hfit := by (rw [zi_size (by omega)]; decide))) ?_
    try simp only [opv, n1, n2, n3, n4, Value.cells, List.getElem_toArray, List.getElem_cons_zero, List.getElem_cons_succ]
    rw [key_item hkl]
    refine g_on (yi (t := 21) rfl rfl) ?_
    refine s_call en72 ?_
    try simp only [opv, n1, n2, n3, n4, Value.cells, List.map_toArray, List.map_cons, List.map_nil, List.append_toArray, List.cons_append, List.nil_append, Array.append_empty]
    refine CallR.mono (c_nameRight _ hil hib _) ?_
    rintro _ w4 ⟨rfl, hE4⟩
    replace hS := hS.ext hE4
    try simp only [opv, n1, n2, n3, n4, Value.cells]
    refine s_go (s_pick_t) ?_
    try simp only [opv, n1, n2, n3, n4, Value.cells]
    refine s_go (s_move) ?_
    try simp only [opv, n1, n2, n3, n4, Value.cells]
    refine s_part 26 rfl (fun hp2 => ?_) (fun hp2 => ?_)
    ·
     try simp only [n3, n4]
     try simp only [decide_eq_true_eq, decide_eq_false_iff_not, Bool.not_eq_true', Bool.not_eq_false', Int.not_lt, Int.not_le, ne_eq, Decidable.not_not] at hp2
     refine g_on (yi (t := 26) rfl rfl) ?_
     refine s_go (m_fieldAddr Tryz.underlying83 (hi := ti5)) ?_
     try simp only [opv, n1, n2, n3, n4, Value.cells, Nat.zero_add, Nat.add_zero, List.getElem_toArray, List.getElem_cons_zero, List.getElem_cons_succ]
     refine g_on (yi (t := 26) rfl rfl) ?_
     refine s_go (m_load_obj Tryz.underlying5 (hS := hS) (hv := by exact zi_get rfl (by omega))) ?_
     try simp only [opv, n1, n2, n3, n4, Value.cells, List.getElem_toArray, List.getElem_cons_zero, List.getElem_cons_succ]
     rw [hk.e10]
     refine g_on (yi (t := 26) rfl rfl) ?_
     refine s_go (s_lss) ?_
     try simp only [opv, n1, n2, n3, n4, Value.cells]
     refine s_go (s_pick_t) ?_
     try simp only [opv, n1, n2, n3, n4, Value.cells]
     refine s_go (s_assign) ?_
     try simp only [opv, n1, n2, n3, n4, Value.cells]
     refine x_nil ?_
     refine hK8 _ _ ?_
     refine x_ret ?_
     refine r_tmp rfl ?_
     exact ⟨congrArg Value.bool (by rw [hR]; exact rgt_c (by omega) (by assumption) (by omega)), hS.ext_of⟩
    ·
     try simp only [n3, n4]
     try simp only [decide_eq_true_eq, decide_eq_false_iff_not, Bool.not_eq_true', Bool.not_eq_false', Int.not_lt, Int.not_le, ne_eq, Decidable.not_not] at hp2
     refine g_off (yi (t := 26) rfl rfl) ?_
     try simp only [opv, n1, n2, n3, n4, Value.cells]
     refine g_off (yi (t := 26) rfl rfl) ?_
     try simp only [opv, n1, n2, n3, n4, Value.cells]
     refine g_off (yi (t := 26) rfl rfl) ?_
     try simp only [opv, n1, n2, n3, n4, Value.cells]
     refine s_go (s_pick_f) ?_
     try simp only [opv, n1, n2, n3, n4, Value.cells]
     refine s_go (s_assign) ?_
     try simp only [opv, n1, n2, n3, n4, Value.cells]
     refine x_nil ?_
     refine hK8 _ _ ?_
     refine x_ret ?_
     refine r_tmp rfl ?_
     exact ⟨congrArg Value.bool (by rw [hR]; exact rgt_b (by assumption)), hS.ext_of⟩
   ·
    try simp only [n3, n4]
    try simp only [decide_eq_true_eq, decide_eq_false_iff_not, Bool.not_eq_true', Bool.not_eq_false', Int.not_lt, Int.not_le, ne_eq, Decidable.not_not] at hp1
    refine g_off (yi (t := 21) rfl rfl) ?_
    try simp only [opv, n1, n2, n3, n4, Value.cells]
    refine g_off (yi (t := 21) rfl rfl) ?_
    try simp only [opv, n1, n2, n3, n4, Value.cells]
    refine g_off (yi (t := 21) rfl rfl) ?_
    try simp only [opv, n1, n2, n3, n4, Value.cells]
    refine s_go (s_pick_f) ?_
    try simp only [opv, n1, n2, n3, n4, Value.cells]
    refine s_go (s_move) ?_
    try simp only [opv, n1, n2, n3, n4, Value.cells]
    refine g_off (yi (t := 26) rfl rfl) ?_
    try simp only [opv, n1, n2, n3, n4, Value.cells]
    refine g_off (yi (t := 26) rfl rfl) ?_
    try simp only [opv, n1, n2, n3, n4, Value.cells]
    refine g_off (yi (t := 26) rfl rfl) ?_
    try simp only [opv, n1, n2, n3, n4, Value.cells]
    refine s_go (s_pick_f) ?_
    try simp only [opv, n1, n2, n3, n4, Value.cells]
    refine s_go (s_assign) ?_
    try simp only [opv, n1, n2, n3, n4, Value.cells]
    refine x_nil ?_
    refine hK8 _ _ ?_
    refine x_ret ?_
    refine r_tmp rfl ?_
    exact ⟨congrArg Value.bool (by rw [hR]; exact rgt_a (by omega)), hS.ext_of⟩
  ·
   try simp only [decide_eq_true_eq, decide_eq_false_iff_not, Bool.not_eq_true', Bool.not_eq_false', Int.not_lt, Int.not_le, ne_eq, Decidable.not_not, bne_iff_ne, beq_iff_eq, not_true_eq_false, not_false_eq_true] at hc2
   refine x_seq fun K9 hK9 => ?_
   refine x_seq fun K10 hK10 => ?_
   refine x_region ?_
   refine s_go (s_eql) ?_
   try simp only [opv, n1, n2, n3, n4, Value.cells]
   refine s_go (s_assign) ?_
   try simp only [opv, n1, n2, n3, n4, Value.cells]
   refine x_nil ?_
   refine hK10 _ _ ?_
   refine x_cond (ht := fun hc3 => ?_) (hf := fun hc3 => ?_)
   ·
    try simp only [decide_eq_true_eq, decide_eq_false_iff_not, Bool.not_eq_true', Bool.not_eq_false', Int.not_lt, Int.not_le, ne_eq, Decidable.not_not, bne_iff_ne, beq_iff_eq, not_true_eq_false, not_false_eq_true] at hc3
    try have hR : keyR x = (decide (kn x 11 = 0) && nright (kitem x) && decide (kn x 10 < 16)) := by rw [keyR, if_neg (by omega), if_neg (by omega), if_pos (by omega)]
    refine x_skip ?_
    refine hK9 _ _ ?_
    refine x_cond (ht := fun hc4 => ?_) (hf := fun hc4 => ?_)
    ·
     try simp only [decide_eq_true_eq, decide_eq_false_iff_not, Bool.not_eq_true', Bool.not_eq_false', Int.not_lt, Int.not_le, ne_eq, Decidable.not_not, bne_iff_ne, beq_iff_eq, not_true_eq_false, not_false_eq_true] at hc4
     try have hR : keyR x = (decide (kn x 11 = 0) && nright (kitem x) && decide (kn x 10 < 16)) := by rw [keyR, if_neg (by omega), if_neg (by omega), if_pos (by omega)]
     refine x_seq fun K11 hK11 => ?_
     refine x_region ?_
     refine s_go (m_fieldAddr Tryz.underlying83 (hi := ti24)) ?_
     try simp only [opv, n1, n2, n3, n4, Value.cells, Nat.zero_add, Nat.add_zero, List.getElem_toArray, List.getElem_cons_zero, List.getElem_cons_succ]
     refine s_go (m_load_obj Tryz.underlying24 (hS := hS) (hv := by exact zi_get rfl (by omega))) ?_
     try simp only [opv, n1, n2, n3, n4, Value.cells, List.getElem_toArray, List.getElem_cons_zero, List.getElem_cons_succ]
     rw [hk.e11]
     refine s_go (s_eql) ?_
     try simp only [opv, n1, n2, n3, n4, Value.cells]
     refine s_go (s_move) ?_
     try simp only [opv, n1, n2, n3, n4, Value.cells]
     refine s_part 37 rfl (fun hp3 => ?_) (fun hp3 => ?_)
     ·
      try simp only [n3, n4]
      try simp only [decide_eq_true_eq, decide_eq_false_iff_not, Bool.not_eq_true', Bool.not_eq_false', Int.not_lt, Int.not_le, ne_eq, Decidable.not_not] at hp3
      refine g_on (yi (t := 37) rfl rfl) ?_
      refine s_go (m_fieldAddr Tryz.underlying83 (hi := ti41)) ?_
      try simp only [opv, n1, n2, n3, n4, Value.cells, Nat.zero_add, Nat.add_zero, List.getElem_toArray, List.getElem_cons_zero, List.getElem_cons_succ]
      refine g_on (yi (t := 37) rfl rfl) ?_
      refine s_go (m_loada_obj Tryz.underlying41 (hi := ti41) (hS := hS) (hfit := by (rw [zi_size (by omega)]; decide))) ?_
      try simp only [opv, n1, n2, n3, n4, Value.cells, List.getElem_toArray, List.getElem_cons_zero, List.getElem_cons_succ]
      rw [key_item hkl]
      refine g_on (yi (t := 37) rfl rfl) ?_
      refine s_call en72 ?_
      try simp only [opv, n1, n2, n3, n4, Value.cells, List.map_toArray, List.map_cons, List.map_nil, List.append_toArray, List.cons_append, List.nil_append, Array.append_empty]
      refine CallR.mono (c_nameRight _ hil hib _) ?_
      rintro _ w5 ⟨rfl, hE5⟩
      replace hS := hS.ext hE5
      try simp only [opv, n1, n2, n3, n4, Value.cells]
      refine s_go (s_pick_t) ?_
      try simp only [opv, n1, n2, n3, n4, Value.cells]
      refine s_go (s_move) ?_
      try simp only [opv, n1, n2, n3, n4, Value.cells]
      refine s_part 42 rfl (fun hp4 => ?_) (fun hp4 => ?_)
      ·
       try simp only [n3, n4]
       try simp only [decide_eq_true_eq, decide_eq_false_iff_not, Bool.not_eq_true', Bool.not_eq_false', Int.not_lt, Int.not_le, ne_eq, Decidable.not_not] at hp4
       refine g_on (yi (t := 42) rfl rfl) ?_
       refine s_go (m_fieldAddr Tryz.underlying83 (hi := ti5)) ?_
       try simp only [opv, n1, n2, n3, n4, Value.cells, Nat.zero_add, Nat.add_zero, List.getElem_toArray, List.getElem_cons_zero, List.getElem_cons_succ]
       refine g_on (yi (t := 42) rfl rfl) ?_
       refine s_go (m_load_obj Tryz.underlying5 (hS := hS) (hv := by exact zi_get rfl (by omega))) ?_
       try simp only [opv, n1, n2, n3, n4, Value.cells, List.getElem_toArray, List.getElem_cons_zero, List.getElem_cons_succ]
       rw [hk.e10]
       refine g_on (yi (t := 42) rfl rfl) ?_
       refine s_go (s_lss) ?_
       try simp only [opv, n1, n2, n3, n4, Value.cells]
       refine s_go (s_pick_t) ?_
       try simp only [opv, n1, n2, n3, n4, Value.cells]
       refine s_go (s_assign) ?_
       try simp only [opv, n1, n2, n3, n4, Value.cells]
       refine x_nil ?_
       refine hK11 _ _ ?_
       refine x_ret ?_
       refine r_tmp rfl ?_
       exact ⟨congrArg Value.bool (by rw [hR]; exact rgt_c (by omega) (by assumption) (by omega)), hS.ext_of⟩
      ·
       try simp only [n3, n4]
       try simp only [decide_eq_true_eq, decide_eq_false_iff_not, Bool.not_eq_true', Bool.not_eq_false', Int.not_lt, Int.not_le, ne_eq, Decidable.not_not] at hp4
       refine g_off (yi (t := 42) rfl rfl) ?_
       try simp only [opv, n1, n2, n3, n4, Value.cells]
       refine g_off (yi (t := 42) rfl rfl) ?_
       try simp only [opv, n1, n2, n3, n4, Value.cells]
       refine g_off (yi (t := 42) rfl rfl) ?_
       try simp only [opv, n1, n2, n3, n4, Value.cells]
       refine s_go (s_pick_f) ?_
       try simp only [opv, n1, n2, n3, n4, Value.cells]
       refine s_go (s_assign) ?_
       try simp only [opv, n1, n2, n3, n4, Value.cells]
       refine x_nil ?_
       refine hK11 _ _ ?_
       refine x_ret ?_
       refine r_tmp rfl ?_
       exact ⟨congrArg Value.bool (by rw [hR]; exact rgt_b (by assumption)), hS.ext_of⟩
     ·
      try simp only [n3, n4]
      try simp only [decide_eq_true_eq, decide_eq_false_iff_not, Bool.not_eq_true', Bool.not_eq_false', Int.not_lt, Int.not_le, ne_eq, Decidable.not_not] at hp3
      refine g_off (yi (t := 37) rfl rfl) ?_
      try simp only [opv, n1, n2, n3, n4, Value.cells]
      refine g_off (yi (t := 37) rfl rfl) ?_
      try simp only [opv, n1, n2, n3, n4, Value.cells]
      refine g_off (yi (t := 37) rfl rfl) ?_
      try simp only [opv, n1, n2, n3, n4, Value.cells]
      refine s_go (s_pick_f) ?_
      try simp only [opv, n1, n2, n3, n4, Value.cells]
      refine s_go (s_move) ?_
      try simp only [opv, n1, n2, n3, n4, Value.cells]
      refine g_off (yi (t := 42) rfl rfl) ?_
      try simp only [opv, n1, n2, n3, n4, Value.cells]
      refine g_off (yi (t := 42) rfl rfl) ?_
      try simp only [opv, n1, n2, n3, n4, Value.cells]
      refine g_off (yi (t := 42) rfl rfl) ?_
      try simp only [opv, n1, n2, n3, n4, Value.cells]
      refine s_go (s_pick_f) ?_
      try simp only [opv, n1, n2, n3, n4, Value.cells]
      refine s_go (s_assign) ?_
      try simp only [opv, n1, n2, n3, n4, Value.cells]
      refine x_nil ?_
      refine hK11 _ _ ?_
      refine x_ret ?_
      refine r_tmp rfl ?_
      exact ⟨congrArg Value.bool (by rw [hR]; exact rgt_a (by omega)), hS.ext_of⟩
    ·
     try simp only [decide_eq_true_eq, decide_eq_false_iff_not, Bool.not_eq_true', Bool.not_eq_false', Int.not_lt, Int.not_le, ne_eq, Decidable.not_not, bne_iff_ne, beq_iff_eq, not_true_eq_false, not_false_eq_true] at hc4
     (exfalso; omega)
   ·
    try simp only [decide_eq_true_eq, decide_eq_false_iff_not, Bool.not_eq_true', Bool.not_eq_false', Int.not_lt, Int.not_le, ne_eq, Decidable.not_not, bne_iff_ne, beq_iff_eq, not_true_eq_false, not_false_eq_true] at hc3
    try have hR : keyR x = false := by rw [keyR, if_neg (by omega), if_neg (by omega), if_neg (by omega)]
    refine x_region ?_
    refine s_go (s_eql) ?_
    try simp only [opv, n1, n2, n3, n4, Value.cells]
    refine s_go (s_assign) ?_
    try simp only [opv, n1, n2, n3, n4, Value.cells]
    refine x_nil ?_
    refine hK9 _ _ ?_
    refine x_cond (ht := fun hc5 => ?_) (hf := fun hc5 => ?_)
    ·
     try simp only [decide_eq_true_eq, decide_eq_false_iff_not, Bool.not_eq_true', Bool.not_eq_false', Int.not_lt, Int.not_le, ne_eq, Decidable.not_not, bne_iff_ne, beq_iff_eq, not_true_eq_false, not_false_eq_true] at hc5
     try have hR : keyR x = (decide (kn x 11 = 0) && nright (kitem x) && decide (kn x 10 < 16)) := by rw [keyR, if_neg (by omega), if_neg (by omega), if_pos (by omega)]
     refine x_seq fun K13 hK13 => ?_
     refine x_region ?_
     refine s_go (m_fieldAddr Tryz.underlying83 (hi := ti24)) ?_
     try simp only [opv, n1, n2, n3, n4, Value.cells, Nat.zero_add, Nat.add_zero, List.getElem_toArray, List.getElem_cons_zero, List.getElem_cons_succ]
     refine s_go (m_load_obj Tryz.underlying24 (hS := hS) (hv := by exact zi_get rfl (by omega))) ?_
     try simp only [opv, n1, n2, n3, n4, Value.cells, List.getElem_toArray, List.getElem_cons_zero, List.getElem_cons_succ]
     rw [hk.e11]
     refine s_go (s_eql) ?_
     try simp only [opv, n1, n2, n3, n4, Value.cells]
     refine s_go (s_move) ?_
     try simp only [opv, n1, n2, n3, n4, Value.cells]
     refine s_part 37 rfl (fun hp5 => ?_) (fun hp5 => ?_)
     ·
      try simp only [n3, n4]
      try simp only [decide_eq_true_eq, decide_eq_false_iff_not, Bool.not_eq_true', Bool.not_eq_false', Int.not_lt, Int.not_le, ne_eq, Decidable.not_not] at hp5
      refine g_on (yi (t := 37) rfl rfl) ?_
      refine s_go (m_fieldAddr Tryz.underlying83 (hi := ti41)) ?_
      try simp only [opv, n1, n2, n3, n4, Value.cells, Nat.zero_add, Nat.add_zero, List.getElem_toArray, List.getElem_cons_zero, List.getElem_cons_succ]
      refine g_on (yi (t := 37) rfl rfl) ?_
      refine s_go (m_loada_obj Tryz.underlying41 (hi := ti41) (hS := hS) (hfit := by (rw [zi_size (by omega)]; decide))) ?_
      try simp only [opv, n1, n2, n3, n4, Value.cells, List.getElem_toArray, List.getElem_cons_zero, List.getElem_cons_succ]
      rw [key_item hkl]
      refine g_on (yi (t := 37) rfl rfl) ?_
      refine s_call en72 ?_
      try simp only [opv, n1, n2, n3, n4, Value.cells, List.map_toArray, List.map_cons, List.map_nil, List.append_toArray, List.cons_append, List.nil_append, Array.append_empty]
      refine CallR.mono (c_nameRight _ hil hib _) ?_
      rintro _ w6 ⟨rfl, hE6⟩
      replace hS := hS.ext hE6
      try simp only [opv, n1, n2, n3, n4, Value.cells]
      refine s_go (s_pick_t) ?_
      try simp only [opv, n1, n2, n3, n4, Value.cells]
      refine s_go (s_move) ?_
      try simp only [opv, n1, n2, n3, n4, Value.cells]
      refine s_part 42 rfl (fun hp6 => ?_) (fun hp6 => ?_)
      ·
       try simp only [n3, n4]
       try simp only [decide_eq_true_eq, decide_eq_false_iff_not, Bool.not_eq_true', Bool.not_eq_false', Int.not_lt, Int.not_le, ne_eq, Decidable.not_not] at hp6
       refine g_on (yi (t := 42) rfl rfl) ?_
       refine s_go (m_fieldAddr Tryz.underlying83 (hi := ti5)) ?_
       try simp only [opv, n1, n2, n3, n4, Value.cells, Nat.zero_add, Nat.add_zero, List.getElem_toArray, List.getElem_cons_zero, List.getElem_cons_succ]
       refine g_on (yi (t := 42) rfl rfl) ?_
       refine s_go (m_load_obj Tryz.underlying5 (hS := hS) (hv := by exact zi_get rfl (by omega))) ?_
       try simp only [opv, n1, n2, n3, n4, Value.cells, List.getElem_toArray, List.getElem_cons_zero, List.getElem_cons_succ]
       rw [hk.e10]
       refine g_on (yi (t := 42) rfl rfl) ?_
       refine s_go (s_lss) ?_
       try simp only [opv, n1, n2, n3, n4, Value.cells]
       refine s_go (s_pick_t) ?_
       try simp only [opv, n1, n2, n3, n4, Value.cells]
       refine s_go (s_assign) ?_
       try simp only [opv, n1, n2, n3, n4, Value.cells]
       refine x_nil ?_
       refine hK13 _ _ ?_
       refine x_ret ?_
       refine r_tmp rfl ?_
       exact ⟨congrArg Value.bool (by rw [hR]; exact rgt_c (by omega) (by assumption) (by omega)), hS.ext_of⟩
      ·
       try simp only [n3, n4]
       try simp only [decide_eq_true_eq, decide_eq_false_iff_not, Bool.not_eq_true', Bool.not_eq_false', Int.not_lt, Int.not_le, ne_eq, Decidable.not_not] at hp6
       refine g_off (yi (t := 42) rfl rfl) ?_
       try simp only [opv, n1, n2, n3, n4, Value.cells]
       refine g_off (yi (t := 42) rfl rfl) ?_
       try simp only [opv, n1, n2, n3, n4, Value.cells]
       refine g_off (yi (t := 42) rfl rfl) ?_
       try simp only [opv, n1, n2, n3, n4, Value.cells]
       refine s_go (s_pick_f) ?_
       try simp only [opv, n1, n2, n3, n4, Value.cells]
       refine s_go (s_assign) ?_
       try simp only [opv, n1, n2, n3, n4, Value.cells]
       refine x_nil ?_
       refine hK13 _ _ ?_
       refine x_ret ?_
       refine r_tmp rfl ?_
       exact ⟨congrArg Value.bool (by rw [hR]; exact rgt_b (by assumption)), hS.ext_of⟩
     ·
      try simp only [n3, n4]
      try simp only [decide_eq_true_eq, decide_eq_false_iff_not, Bool.not_eq_true', Bool.not_eq_false', Int.not_lt, Int.not_le, ne_eq, Decidable.not_not] at hp5
      refine g_off (yi (t := 37) rfl rfl) ?_
      try simp only [opv, n1, n2, n3, n4, Value.cells]
      refine g_off (yi (t := 37) rfl rfl) ?_
      try simp only [opv, n1, n2, n3, n4, Value.cells]
      refine g_off (yi (t := 37) rfl rfl) ?_
      try simp only [opv, n1, n2, n3, n4, Value.cells]
      refine s_go (s_pick_f) ?_
      try simp only [opv, n1, n2, n3, n4, Value.cells]
      refine s_go (s_move) ?_
      try simp only [opv, n1, n2, n3, n4, Value.cells]
      refine g_off (yi (t := 42) rfl rfl) ?_
      try simp only [opv, n1, n2, n3, n4, Value.cells]
      refine g_off (yi (t := 42) rfl rfl) ?_
      try simp only [opv, n1, n2, n3, n4, Value.cells]
      refine g_off (yi (t := 42) rfl rfl) ?_
      try simp only [opv, n1, n2, n3, n4, Value.cells]
      refine s_go (s_pick_f) ?_
      try simp only [opv, n1, n2, n3, n4, Value.cells]
      refine s_go (s_assign) ?_
      try simp only [opv, n1, n2, n3, n4, Value.cells]
      refine x_nil ?_
      refine hK13 _ _ ?_
      refine x_ret ?_
      refine r_tmp rfl ?_
      exact ⟨congrArg Value.bool (by rw [hR]; exact rgt_a (by omega)), hS.ext_of⟩
    ·
     try simp only [decide_eq_true_eq, decide_eq_false_iff_not, Bool.not_eq_true', Bool.not_eq_false', Int.not_lt, Int.not_le, ne_eq, Decidable.not_not, bne_iff_ne, beq_iff_eq, not_true_eq_false, not_false_eq_true] at hc5
     try have hR : keyR x = false := by rw [keyR, if_neg (by omega), if_neg (by omega), if_neg (by omega)]
     refine x_skip ?_
     refine hK3 _ _ ?_
     refine x_seq fun K14 hK14 => ?_
     refine x_region ?_
     refine s_go (s_assign) ?_
     try simp only [opv, n1, n2, n3, n4, Value.cells]
     refine x_nil ?_
     refine hK14 _ _ ?_
     refine x_ret ?_
     refine r_tmp rfl ?_
     exact ⟨by rw [hR]; rfl, hS.ext_of⟩
theorem c_ref08Right (x : List Int) (hk : KeyOk x)  (w0 : World) :
    CallR Tryz.prog 116 #[.agg (KA x)] w0 fun v w' => v = .bool (keyR x) ∧ Ext w0 w' := by
 have hS : St NoB w0 w0 [] := St.start w0
 refine c_enter (l := [.agg (KA x), undef, undef, undef, undef, undef, undef, undef, undef, undef, undef, undef, undef, undef, undef, undef, undef, undef, undef, undef, undef, undef, undef, undef, undef, undef, undef, undef, undef, undef, undef, undef, undef, undef, undef, undef, undef, undef, undef, undef, undef, undef, undef]) Tryz.func116 rfl (by simp only [Tryz.ntmps116, List.size_toArray, List.length_cons, List.length_nil, Nat.reduceAdd, Nat.reduceSub, Array.replicate_succ, Array.replicate_zero, List.push_toArray, List.append_toArray, List.nil_append, List.cons_append]) ?_
 refine x_seq fun K1 hK1 => ?_
 refine x_region ?_
 have hkl := hk.len
 have hb0 := hk.b0
 have hb1 := hk.b1
 have hb10 := hk.b10
 have hb11 := hk.b11
 have hil := kitem_len hk.len
 have hib := hk.item
 refine m_box hS (fun w1 g1 hS => ?_)
 try simp only [opv, n1, n2, n3, n4, Value.cells, Array.toArray_toList] at hS ⊢
 refine s_go (s_assign) ?_
 try simp only [opv, n1, n2, n3, n4, Value.cells]
 refine x_nil ?_
 refine hK1 _ _ ?_
 refine x_seq fun K2 hK2 => ?_
 refine x_seq fun K3 hK3 => ?_
 refine x_region ?_
 refine s_go (m_fieldAddr Tryz.underlying83 (hi := ti5)) ?_
 try simp only [opv, n1, n2, n3, n4, Value.cells, Nat.zero_add, Nat.add_zero, List.getElem_toArray, List.getElem_cons_zero, List.getElem_cons_succ]
 refine s_go (m_load_obj Tryz.underlying5 (hS := hS) (hv := by exact zi_get rfl (by omega))) ?_
 try simp only [opv, n1, n2, n3, n4, Value.cells, List.getElem_toArray, List.getElem_cons_zero, List.getElem_cons_succ]
 rw [hk.e0]
 refine x_nil ?_
 refine hK3 _ _ ?_
 refine x_block ?_
 refine x_seq fun K4 hK4 => ?_
 refine x_region ?_
 refine s_go (s_eql) ?_
 try simp only [opv, n1, n2, n3, n4, Value.cells]
 refine s_go (s_assign) ?_
 try simp only [opv, n1, n2, n3, n4, Value.cells]
 refine x_nil ?_
 refine hK4 _ _ ?_
 refine x_cond (ht := fun hc1 => ?_) (hf := fun hc1 => ?_)
 ·
  try simp only [decide_eq_true_eq, decide_eq_false_iff_not, Bool.not_eq_true', Bool.not_eq_false', Int.not_lt, Int.not_le, ne_eq, Decidable.not_not, bne_iff_ne, beq_iff_eq, not_true_eq_false, not_false_eq_true] at hc1
  have hR : keyR x = (decide (kn x 11 ≠ 0) && nright (kitem x) && decide (kn x 10 < 16)) := by rw [keyR, if_neg (by omega), if_pos (by omega)]
  refine x_seq fun K5 hK5 => ?_
  refine x_region ?_
  refine s_go (m_fieldAddr Tryz.underlying83 (hi := ti41)) ?_
  try simp only [opv, n1, n2, n3, n4, Value.cells, Nat.zero_add, Nat.add_zero, List.getElem_toArray, List.getElem_cons_zero, List.getElem_cons_succ]
  refine s_go (m_loada_obj Tryz.underlying41 (hi := ti41) (hS := hS) (hfit := by (rw [zi_size (by omega)]; decide))) ?_
  try simp only [opv, n1, n2, n3, n4, Value.cells, List.getElem_toArray, List.getElem_cons_zero, List.getElem_cons_succ]
  rw [key_item hkl]
  refine s_call en74 ?_
  try simp only [opv, n1, n2, n3, n4, Value.cells, List.map_toArray, List.map_cons, List.map_nil, List.append_toArray, List.cons_append, List.nil_append, Array.append_empty]
  refine CallR.mono (c_ref06Right _ hil hib _) ?_
  rintro _ w2 ⟨rfl, hE2⟩
  replace hS := hS.ext hE2
  try simp only [opv, n1, n2, n3, n4, Value.cells]
  refine s_go (s_move) ?_
  try simp only [opv, n1, n2, n3, n4, Value.cells]
  refine s_part 10 rfl (fun hp1 => ?_) (fun hp1 => ?_)
  ·
   try simp only [n3, n4]
   try simp only [decide_eq_true_eq, decide_eq_false_iff_not, Bool.not_eq_true', Bool.not_eq_false', Int.not_lt, Int.not_le, ne_eq, Decidable.not_not] at hp1
   refine g_on (yi (t := 10) rfl rfl) ?_
   refine s_go (m_fieldAddr Tryz.underlying83 (hi := ti5)) ?_
   try simp only [opv, n1, n2, n3, n4, Value.cells, Nat.zero_add, Nat.add_zero, List.getElem_toArray, List.getElem_cons_zero, List.getElem_cons_succ]
   refine g_on (yi (t := 10) rfl rfl) ?_
   refine s_go (m_load_obj Tryz.underlying5 (hS := hS) (hv := by exact zi_get rfl (by omega))) ?_
   try simp only [opv, n1, n2, n3, n4, Value.cells, List.getElem_toArray, List.getElem_cons_zero, List.getElem_cons_succ]
   rw [hk.e10]
   refine g_on (yi (t := 10) rfl rfl) ?_
   refine s_go (s_lss) ?_
   try simp only [opv, n1, n2, n3, n4, Value.cells]
   refine s_go (s_pick_t) ?_
   try simp only [opv, n1, n2, n3, n4, Value.cells]
   refine s_go (s_move) ?_
   try simp only [opv, n1, n2, n3, n4, Value.cells]
   refine s_part 15 rfl (fun hp2 => ?_) (fun hp2 => ?_)
   ·
    try simp only [n3, n4]
    try simp only [decide_eq_true_eq, decide_eq_false_iff_not, Bool.not_eq_true', Bool.not_eq_false', Int.not_lt, Int.not_le, ne_eq, Decidable.not_not] at hp2
    refine g_on (yi (t := 15) rfl rfl) ?_
    refine s_go (m_fieldAddr Tryz.underlying83 (hi := ti24)) ?_
    try simp only [opv, n1, n2, n3, n4, Value.cells, Nat.zero_add, Nat.add_zero, List.getElem_toArray, List.getElem_cons_zero, List.getElem_cons_succ]
    refine g_on (yi (t := 15) rfl rfl) ?_
    refine s_go (m_load_obj Tryz.underlying24 (hS := hS) (hv := by exact zi_get rfl (by omega))) ?_
    try simp only [opv, n1, n2, n3, n4, Value.cells, List.getElem_toArray, List.getElem_cons_zero, List.getElem_cons_succ]
    rw [hk.e11]
    refine g_on (yi (t := 15) rfl rfl) ?_
    refine s_go (s_gtr) ?_
    try simp only [opv, n1, n2, n3, n4, Value.cells]
    refine s_go (s_pick_t) ?_
    try simp only [opv, n1, n2, n3, n4, Value.cells]
    refine s_go (s_assign) ?_
    try simp only [opv, n1, n2, n3, n4, Value.cells]
    refine x_nil ?_
    refine hK5 _ _ ?_
    refine x_ret ?_
    refine r_tmp rfl ?_
    exact ⟨congrArg Value.bool (by rw [hR]; exact rgt_d (by omega) (by assumption) (by omega)), hS.ext_of⟩
   ·
    try simp only [n3, n4]
    try simp only [decide_eq_true_eq, decide_eq_false_iff_not, Bool.not_eq_true', Bool.not_eq_false', Int.not_lt, Int.not_le, ne_eq, Decidable.not_not] at hp2
    refine g_off (yi (t := 15) rfl rfl) ?_
    try simp only [opv, n1, n2, n3, n4, Value.cells]
    refine g_off (yi (t := 15) rfl rfl) ?_
    try simp only [opv, n1, n2, n3, n4, Value.cells]
    refine g_off (yi (t := 15) rfl rfl) ?_
    try simp only [opv, n1, n2, n3, n4, Value.cells]
    refine s_go (s_pick_f) ?_
    try simp only [opv, n1, n2, n3, n4, Value.cells]
    refine s_go (s_assign) ?_
    try simp only [opv, n1, n2, n3, n4, Value.cells]
    refine x_nil ?_
    refine hK5 _ _ ?_
    refine x_ret ?_
    refine r_tmp rfl ?_
    exact ⟨congrArg Value.bool (by rw [hR]; exact rgt_e (by omega)), hS.ext_of⟩
  ·
   try simp only [n3, n4]
   try simp only [decide_eq_true_eq, decide_eq_false_iff_not, Bool.not_eq_true', Bool.not_eq_false', Int.not_lt, Int.not_le, ne_eq, Decidable.not_not] at hp1
   refine g_off (yi (t := 10) rfl rfl) ?_
   try simp only [opv, n1, n2, n3, n4, Value.cells]
   refine g_off (yi (t := 10) rfl rfl) ?_
   try simp only [opv, n1, n2, n3, n4, Value.cells]
   refine g_off (yi (t := 10) rfl rfl) ?_
   try simp only [opv, n1, n2, n3, n4, Value.cells]
   refine s_go (s_pick_f) ?_
   try simp only [opv, n1, n2, n3, n4, Value.cells]
   refine s_go (s_move) ?_
   try simp only [opv, n1, n2, n3, n4, Value.cells]
   refine g_off (yi (t := 15) rfl rfl) ?_
   try simp only [opv, n1, n2, n3, n4, Value.cells]
   refine g_off (yi (t := 15) rfl rfl) ?_
   try simp only [opv, n1, n2, n3, n4, Value.cells]
   refine g_off (yi (t := 15) rfl rfl) ?_
   try simp only [opv, n1, n2, n3, n4, Value.cells]
   refine s_go (s_pick_f) ?_
   try simp only [opv, n1, n2, n3, n4, Value.cells]
   refine s_go (s_assign) ?_
   try simp only [opv, n1, n2, n3, n4, Value.cells]
   refine x_nil ?_
   refine hK5 _ _ ?_
   refine x_ret ?_
   refine r_tmp rfl ?_
   exact ⟨congrArg Value.bool (by rw [hR]; exact rgt_b (by assumption)), hS.ext_of⟩
 ·
  try simp only [decide_eq_true_eq, decide_eq_false_iff_not, Bool.not_eq_true', Bool.not_eq_false', Int.not_lt, Int.not_le, ne_eq, Decidable.not_not, bne_iff_ne, beq_iff_eq, not_true_eq_false, not_false_eq_true] at hc1
  refine x_seq fun K6 hK6 => ?_
  refine x_seq fun K7 hK7 => ?_
  refine x_region ?_
  refine s_go (s_eql) ?_
  try simp only [opv, n1, n2, n3, n4, Value.cells]
  refine s_go (s_assign) ?_
  try simp only [opv, n1, n2, n3, n4, Value.cells]
  refine x_nil ?_
  refine hK7 _ _ ?_
  refine x_cond (ht := fun hc2 => ?_) (hf := fun hc2 => ?_)
  ·
   try simp only [decide_eq_true_eq, decide_eq_false_iff_not, Bool.not_eq_true', Bool.not_eq_false', Int.not_lt, Int.not_le, ne_eq, Decidable.not_not, bne_iff_ne, beq_iff_eq, not_true_eq_false, not_false_eq_true] at hc2
   try have hR : keyR x = (decide (kn x 11 = 0) && nright (kitem x) && decide (kn x 10 < 16)) := by rw [keyR, if_neg (by omega), if_neg (by omega), if_pos (by omega)]
   refine x_skip ?_
   refine hK6 _ _ ?_
   refine x_cond (ht := fun hc3 => ?_) (hf := fun hc3 => ?_)
   ·
    try simp only [decide_eq_true_eq, decide_eq_false_iff_not, Bool.not_eq_true', Bool.not_eq_false', Int.not_lt, Int.not_le, ne_eq, Decidable.not_not, bne_iff_ne, beq_iff_eq, not_true_eq_false, not_false_eq_true] at hc3
    try have hR : keyR x = (decide (kn x 11 = 0) && nright (kitem x) && decide (kn x 10 < 16)) := by rw [keyR, if_neg (by omega), if_neg (by omega), if_pos (by omega)]
    refine x_seq fun K8 hK8 => ?_
    refine x_region ?_
    refine s_go (m_fieldAddr Tryz.underlying83 (hi := ti41)) ?_
    try simp only [opv, n1, n2, n3, n4, Value.cells, Nat.zero_add, Nat.add_zero, List.getElem_toArray, List.getElem_cons_zero, List.getElem_cons_succ]
    refine s_go (m_loada_obj Tryz.underlying41 (hi := ti41) (hS := hS) (hfit := by (rw [zi_size (by omega)]; decide))) ?_
    try simp only [opv, n1, n2, n3, n4, Value.cells, List.getElem_toArray, List.getElem_cons_zero, List.getElem_cons_succ]
    rw [key_item hkl]
    refine s_call en74 ?_
    try simp only [opv, n1, n2, n3, n4, Value.cells, List.map_toArray, List.map_cons, List.map_nil, List.append_toArray, List.cons_append, List.nil_append, Array.append_empty]
    refine CallR.mono (c_ref06Right _ hil hib _) ?_
    rintro _ w3 ⟨rfl, hE3⟩
    replace hS := hS.ext hE3
    try simp only [opv, n1, n2, n3, n4, Value.cells]
    refine s_go (s_move) ?_
    try simp only [opv, n1, n2, n3, n4, Value.cells]
    refine s_part 26 rfl (fun hp3 => ?_) (fun hp3 => ?_)
    ·
     try simp only [n3, n4]
     try simp only [decide_eq_true_eq, decide_eq_false_iff_not, Bool.not_eq_true', Bool.not_eq_false', Int.not_lt, Int.not_le, ne_eq, Decidable.not_not] at hp3
     refine g_on (yi (t := 26) rfl rfl) ?_
     refine s_go (m_fieldAddr Tryz.underlying83 (hi := ti5)) ?_
     try simp only [opv, n1, n2, n3, n4, Value.cells, Nat.zero_add, Nat.add_zero, List.getElem_toArray, List.getElem_cons_zero, List.getElem_cons_succ]
     refine g_on (yi (t := 26) rfl rfl) ?_
     refine s_go (m_load_obj Tryz.underlying5 (hS := hS) (hv := by exact zi_get rfl (by omega))) ?_
     try simp only [opv, n1, n2, n3, n4, Value.cells, List.getElem_toArray, List.getElem_cons_zero, List.getElem_cons_succ]
     rw [hk.e10]
     refine g_on (yi (t := 26) rfl rfl) ?_
     refine s_go (s_lss) ?_
     try simp only [opv, n1, n2, n3, n4, Value.cells]
     refine s_go (s_pick_t) ?_
     try simp only [opv, n1, n2, n3, n4, Value.cells]
     refine s_go (s_move) ?_
     try simp only [opv, n1, n2, n3, n4, Value.cells]
     refine s_part 31 rfl (fun hp4 => ?_) (fun hp4 => ?_)
     ·
      try simp only [n3, n4]
      try simp only [decide_eq_true_eq, decide_eq_false_iff_not, Bool.not_eq_true', Bool.not_eq_false', Int.not_lt, Int.not_le, ne_eq, Decidable.not_not] at hp4
      refine g_on (yi (t := 31) rfl rfl) ?_
      refine s_go (m_fieldAddr Tryz.underlying83 (hi := ti24)) ?_
      try simp only [opv, n1, n2, n3, n4, Value.cells, Nat.zero_add, Nat.add_zero, List.getElem_toArray, List.getElem_cons_zero, List.getElem_cons_succ]
      refine g_on (yi (t := 31) rfl rfl) ?_
      refine s_go (m_load_obj Tryz.underlying24 (hS := hS) (hv := by exact zi_get rfl (by omega))) ?_
      try simp only [opv, n1, n2, n3, n4, Value.cells, List.getElem_toArray, List.getElem_cons_zero, List.getElem_cons_succ]
      rw [hk.e11]
      refine g_on (yi (t := 31) rfl rfl) ?_
      refine s_go (s_eql) ?_
      try simp only [opv, n1, n2, n3, n4, Value.cells]
      refine s_go (s_pick_t) ?_
      try simp only [opv, n1, n2, n3, n4, Value.cells]
      refine s_go (s_assign) ?_
      try simp only [opv, n1, n2, n3, n4, Value.cells]
      refine x_nil ?_
      refine hK8 _ _ ?_
      refine x_ret ?_
      refine r_tmp rfl ?_
      exact ⟨congrArg Value.bool (by rw [hR]; exact rgt_d (by omega) (by assumption) (by omega)), hS.ext_of⟩
     ·
      try simp only [n3, n4]
      try simp only [decide_eq_true_eq, decide_eq_false_iff_not, Bool.not_eq_true', Bool.not_eq_false', Int.not_lt, Int.not_le, ne_eq, Decidable.not_not] at hp4
      refine g_off (yi (t := 31) rfl rfl) ?_
      try simp only [opv, n1, n2, n3, n4, Value.cells]
      refine g_off (yi (t := 31) rfl rfl) ?_
      try simp only [opv, n1, n2, n3, n4, Value.cells]
      refine g_off (yi (t := 31) rfl rfl) ?_
      try simp only [opv, n1, n2, n3, n4, Value.cells]
      refine s_go (s_pick_f) ?_
      try simp only [opv, n1, n2, n3, n4, Value.cells]
      refine s_go (s_assign) ?_
      try simp only [opv, n1, n2, n3, n4, Value.cells]
      refine x_nil ?_
      refine hK8 _ _ ?_
      refine x_ret ?_
      refine r_tmp rfl ?_
      exact ⟨congrArg Value.bool (by rw [hR]; exact rgt_e (by omega)), hS.ext_of⟩
    ·
     try simp only [n3, n4]
     try simp only [decide_eq_true_eq, decide_eq_false_iff_not, Bool.not_eq_true', Bool.not_eq_false', Int.not_lt, Int.not_le, ne_eq, Decidable.not_not] at hp3
     refine g_off (yi (t := 26) rfl rfl) ?_
     try simp only [opv, n1, n2, n3, n4, Value.cells]
     refine g_off (yi (t := 26) rfl rfl) ?_
     try simp only [opv, n1, n2, n3, n4, Value.cells]
     refine g_off (yi (t := 26) rfl rfl) ?_
     try simp only [opv, n1, n2, n3, n4, Value.cells]
     refine s_go (s_pick_f) ?_
     try simp only [opv, n1, n2, n3, n4, Value.cells]
     refine s_go (s_move) ?_
     try simp only [opv, n1, n2, n3, n4, Value.cells]
     refine g_off (yi (t := 31) rfl rfl) ?_
     try simp only [opv, n1, n2, n3, n4, Value.cells]
     refine g_off (yi (t := 31) rfl rfl) ?_
     try simp only [opv, n1, n2, n3, n4, Value.cells]
     refine g_off (yi (t := 31) rfl rfl) ?_
     try simp only [opv, n1, n2, n3, n4, Value.cells]
     refine s_go (s_pick_f) ?_
     try simp only [opv, n1, n2, n3, n4, Value.cells]
     refine s_go (s_assign) ?_
     try simp only [opv, n1, n2, n3, n4, Value.cells]
     refine x_nil ?_
     refine hK8 _ _ ?_
     refine x_ret ?_
     refine r_tmp rfl ?_
     exact ⟨congrArg Value.bool (by rw [hR]; exact rgt_b (by assumption)), hS.ext_of⟩
   ·
    try simp only [decide_eq_true_eq, decide_eq_false_iff_not, Bool.not_eq_true', Bool.not_eq_false', Int.not_lt, Int.not_le, ne_eq, Decidable.not_not, bne_iff_ne, beq_iff_eq, not_true_eq_false, not_false_eq_true] at hc3
    (exfalso; omega)
  ·
   try simp only [decide_eq_true_eq, decide_eq_false_iff_not, Bool.not_eq_true', Bool.not_eq_false', Int.not_lt, Int.not_le, ne_eq, Decidable.not_not, bne_iff_ne, beq_iff_eq, not_true_eq_false, not_false_eq_true] at hc2
   refine x_region ?_
   refine s_go (s_eql) ?_
   try simp only [opv, n1, n2, n3, n4, Value.cells]
   refine s_go (s_assign) ?_
   try simp only [opv, n1, n2, n3, n4, Value.cells]
   refine x_nil ?_
   refine hK6 _ _ ?_
   refine x_cond (ht := fun hc5 => ?_) (hf := fun hc5 => ?_)
   ·
    try simp only [decide_eq_true_eq, decide_eq_false_iff_not, Bool.not_eq_true', Bool.not_eq_false', Int.not_lt, Int.not_le, ne_eq, Decidable.not_not, bne_iff_ne, beq_iff_eq, not_true_eq_false, not_false_eq_true] at hc5
    try have hR : keyR x = (decide (kn x 11 = 0) && nright (kitem x) && decide (kn x 10 < 16)) := by rw [keyR, if_neg (by omega), if_neg (by omega), if_pos (by omega)]
    refine x_seq fun K12 hK12 => ?_
    refine x_region ?_
    refine s_go (m_fieldAddr Tryz.underlying83 (hi := ti41)) ?_
    try simp only [opv, n1, n2, n3, n4, Value.cells, Nat.zero_add, Nat.add_zero, List.getElem_toArray, List.getElem_cons_zero, List.getElem_cons_succ]
    refine s_go (m_loada_obj Tryz.underlying41 (hi := ti41) (hS := hS) (hfit := by (rw [zi_size (by omega)]; decide))) ?_
    try simp only [opv, n1, n2, n3, n4, Value.cells, List.getElem_toArray, List.getElem_cons_zero, List.getElem_cons_succ]
    rw [key_item hkl]
    refine s_call en74 ?_
    try simp only [opv, n1, n2, n3, n4, Value.cells, List.map_toArray, List.map_cons, List.map_nil, List.append_toArray, List.cons_append, List.nil_append, Array.append_empty]
    refine CallR.mono (c_ref06Right _ hil hib _) ?_
    rintro _ w4 ⟨rfl, hE4⟩
    replace hS := hS.ext hE4
    try simp only [opv, n1, n2, n3, n4, Value.cells]
    refine s_go (s_move) ?_
    try simp only [opv, n1, n2, n3, n4, Value.cells]
    refine s_part 26 rfl (fun hp5 => ?_) (fun hp5 => ?_)
    ·
     try simp only [n3, n4]
     try simp only [decide_eq_true_eq, decide_eq_false_iff_not, Bool.not_eq_true', Bool.not_eq_false', Int.not_lt, Int.not_le, ne_eq, Decidable.not_not] at hp5
     refine g_on (yi (t := 26) rfl rfl) ?_
     refine s_go (m_fieldAddr Tryz.underlying83 (hi := ti5)) ?_
     try simp only [opv, n1, n2, n3, n4, Value.cells, Nat.zero_add, Nat.add_zero, List.getElem_toArray, List.getElem_cons_zero, List.getElem_cons_succ]
     refine g_on (yi (t := 26) rfl rfl) ?_
     refine s_go (m_load_obj Tryz.underlying5 (hS := hS) (hv := by exact zi_get rfl (by omega))) ?_
     try simp only [opv, n1, n2, n3, n4, Value.cells, List.getElem_toArray, List.getElem_cons_zero, List.getElem_cons_succ]
     rw [hk.e10]
     refine g_on (yi (t := 26) rfl rfl) ?_
     refine s_go (s_lss) ?_
     try simp only [opv, n1, n2, n3, n4, Value.cells]
     refine s_go (s_pick_t) ?_
     try simp only [opv, n1, n2, n3, n4, Value.cells]
     refine s_go (s_move) ?_
     try simp only [opv, n1, n2, n3, n4, Value.cells]
     refine s_part 31 rfl (fun hp6 => ?_) (fun hp6 => ?_)
     ·
      try simp only [n3, n4]
      try simp only [decide_eq_true_eq, decide_eq_false_iff_not, Bool.not_eq_true', Bool.not_eq_false', Int.not_lt, Int.not_le, ne_eq, Decidable.not_not] at hp6
      refine g_on (yi (t := 31) rfl rfl) ?_
      refine s_go (m_fieldAddr Tryz.underlying83 (hi := ti24)) ?_
      try simp only [opv, n1, n2, n3, n4, Value.cells, Nat.zero_add, Nat.add_zero, List.getElem_toArray, List.getElem_cons_zero, List.getElem_cons_succ]
      refine g_on (yi (t := 31) rfl rfl) ?_
      refine s_go (m_load_obj Tryz.underlying24 (hS := hS) (hv := by exact zi_get rfl (by omega))) ?_
      try simp only [opv, n1, n2, n3, n4, Value.cells, List.getElem_toArray, List.getElem_cons_zero, List.getElem_cons_succ]
      rw [hk.e11]
      refine g_on (yi (t := 31) rfl rfl) ?_
      refine s_go (s_eql) ?_
      try simp only [opv, n1, n2, n3, n4, Value.cells]
      refine s_go (s_pick_t) ?_
      try simp only [opv, n1, n2, n3, n4, Value.cells]
      refine s_go (s_assign) ?_
      try simp only [opv, n1, n2, n3, n4, Value.cells]
      refine x_nil ?_
      refine hK12 _ _ ?_
      refine x_ret ?_
      refine r_tmp rfl ?_
      exact ⟨congrArg Value.bool (by rw [hR]; exact rgt_d (by omega) (by assumption) (by omega)), hS.ext_of⟩
     ·
      try simp only [n3, n4]
      try simp only [decide_eq_true_eq, decide_eq_false_iff_not, Bool.not_eq_true', Bool.not_eq_false', Int.not_lt, Int.not_le, ne_eq, Decidable.not_not] at hp6
      refine g_off (yi (t := 31) rfl rfl) ?_
      try simp only [opv, n1, n2, n3, n4, Value.cells]
      refine g_off (yi (t := 31) rfl rfl) ?_
      try simp only [opv, n1, n2, n3, n4, Value.cells]
      refine g_off (yi (t := 31) rfl rfl) ?_
      try simp only [opv, n1, n2, n3, n4, Value.cells]
      refine s_go (s_pick_f) ?_
      try simp only [opv, n1, n2, n3, n4, Value.cells]
      refine s_go (s_assign) ?_
      try simp only [opv, n1, n2, n3, n4, Value.cells]
      refine x_nil ?_
      refine hK12 _ _ ?_
      refine x_ret ?_
      refine r_tmp rfl ?_
      exact ⟨congrArg Value.bool (by rw [hR]; exact rgt_e (by omega)), hS.ext_of⟩
    ·
     try simp only [n3, n4]
     try simp only [decide_eq_true_eq, decide_eq_false_iff_not, Bool.not_eq_true', Bool.not_eq_false', Int.not_lt, Int.not_le, ne_eq, Decidable.not_not] at hp5
     refine g_off (yi (t := 26) rfl rfl) ?_
     try simp only [opv, n1, n2, n3, n4, Value.cells]
     refine g_off (yi (t := 26) rfl rfl) ?_
     try simp only [opv, n1, n2, n3, n4, Value.cells]
     refine g_off (yi (t := 26) rfl rfl) ?_
     try simp only [opv, n1, n2, n3, n4, Value.cells]
     refine s_go (s_pick_f) ?_
     try simp only [opv, n1, n2, n3, n4, Value.cells]
     refine s_go (s_move) ?_
     try simp only [opv, n1, n2, n3, n4, Value.cells]
     refine g_off (yi (t := 31) rfl rfl) ?_
     try simp only [opv, n1, n2, n3, n4, Value.cells]
     refine g_off (yi (t := 31) rfl rfl) ?_
     try simp only [opv, n1, n2, n3, n4, Value.cells]
     refine g_off (yi (t := 31) rfl rfl) ?_
     try simp only [opv, n1, n2, n3, n4, Value.cells]
     refine s_go (s_pick_f) ?_
     try simp only [opv, n1, n2, n3, n4, Value.cells]
     refine s_go (s_assign) ?_
     try simp only [opv, n1, n2, n3, n4, Value.cells]
     refine x_nil ?_
     refine hK12 _ _ ?_
     refine x_ret ?_
     refine r_tmp rfl ?_
     exact ⟨congrArg Value.bool (by rw [hR]; exact rgt_b (by assumption)), hS.ext_of⟩
   ·
    try simp only [decide_eq_true_eq, decide_eq_false_iff_not, Bool.not_eq_true', Bool.not_eq_false', Int.not_lt, Int.not_le, ne_eq, Decidable.not_not, bne_iff_ne, beq_iff_eq, not_true_eq_false, not_false_eq_true] at hc5
    refine x_seq fun K13 hK13 => ?_
    refine x_region ?_
    refine s_go (s_eql) ?_
    try simp only [opv, n1, n2, n3, n4, Value.cells]
    refine s_go (s_assign) ?_
    try simp only [opv, n1, n2, n3, n4, Value.cells]
    refine x_nil ?_
    refine hK13 _ _ ?_
    refine x_cond (ht := fun hc6 => ?_) (hf := fun hc6 => ?_)
    ·
     try simp only [decide_eq_true_eq, decide_eq_false_iff_not, Bool.not_eq_true', Bool.not_eq_false', Int.not_lt, Int.not_le, ne_eq, Decidable.not_not, bne_iff_ne, beq_iff_eq, not_true_eq_false, not_false_eq_true] at hc6
     have hR : keyR x = decide (x = bareK x) := by rw [keyR, if_pos (by omega)]
     refine x_seq fun K14 hK14 => ?_
     refine x_region ?_
     refine s_go (m_load_row Tryz.underlying83 (hi := ti83) (hS := hS) (hfit := by (rw [zi_size (by omega)]; rfl))) ?_
     try simp only [opv, n1, n2, n3, n4, Value.cells, List.getElem_toArray, List.getElem_cons_zero, List.getElem_cons_succ]
     refine s_go (m_fieldAddr Tryz.underlying83 (hi := ti39)) ?_
     try simp only [opv, n1, n2, n3, n4, Value.cells, Nat.zero_add, Nat.add_zero, List.getElem_toArray, List.getElem_cons_zero, List.getElem_cons_succ]
     refine s_go (m_load_obj Tryz.underlying39 (hS := hS) (hv := by exact zi_get rfl (by omega))) ?_
     try simp only [opv, n1, n2, n3, n4, Value.cells, List.getElem_toArray, List.getElem_cons_zero, List.getElem_cons_succ]
     rw [hk.e1]
     have hbl : (bareK x).length = 12 := rfl
     refine s_go (s_build_struct (cells := #[_, _, .int .u8 0, .int .u8 0, .int .u8 0, .int .u8 0, .int .u8 0, .int .u8 0, .int .u8 0, .int .u8 0, .int .u8 0, .int .u32 0]) Tryz.underlying83 ti83 bp83 (hc := by simp only [List.map_toArray, List.map_cons, List.map_nil, opv, n1, n2, n3, n4, Value.cells, List.toList_toArray]; (repeat (refine fill_cons rfl rfl (Nat.le_of_ble_eq_true rfl) ?_)); rfl)) ?_
     try simp only [opv, n1, n2, n3, n4, Value.cells]
     rw [show (#[.int .u8 4, .int .u16 (kn x 1 : Int), .int .u8 0, .int .u8 0, .int .u8 0, .int .u8 0, .int .u8 0, .int .u8 0, .int .u8 0, .int .u8 0, .int .u8 0, .int .u32 0] : Array Value) = KA (bareK x) by rw [bareK, show kn x 0 = 4 by omega]; rfl]
     refine s_go (s_eql_agg eqv83 (hg := eg83) (hX := rfl) (hY := rfl) (h1 := by assumption) (h2 := by assumption)) ?_
     try simp only [opv, n1, n2, n3, n4, Value.cells]
     refine s_go (s_assign) ?_
     try simp only [opv, n1, n2, n3, n4, Value.cells]
     refine x_nil ?_
     refine hK14 _ _ ?_
     refine x_ret ?_
     refine r_tmp rfl ?_
     exact ⟨by rw [hR]; rfl, hS.ext_of⟩
    ·
     try simp only [decide_eq_true_eq, decide_eq_false_iff_not, Bool.not_eq_true', Bool.not_eq_false', Int.not_lt, Int.not_le, ne_eq, Decidable.not_not, bne_iff_ne, beq_iff_eq, not_true_eq_false, not_false_eq_true] at hc6
     have hR : keyR x = false := by rw [keyR, if_neg (by omega), if_neg (by omega), if_neg (by omega)]
     refine x_skip ?_
     refine hK2 _ _ ?_
     refine x_seq fun K15 hK15 => ?_
     refine x_region ?_
     refine s_go (s_assign) ?_
     try simp only [opv, n1, n2, n3, n4, Value.cells]
     refine x_nil ?_
     refine hK15 _ _ ?_
     refine x_ret ?_
     refine r_tmp rfl ?_
     exact ⟨by rw [hR]; rfl, hS.ext_of⟩
end Go.Proofs.YtffmanidnlbjjaaGreat
set_option linter.unusedSimpArgs false
set_option linter.unusedVariables false
set_option maxHeartbeats 800000
set_option maxRecDepth 100000
namespace Go.Proofs.YtffmanidnlbjjaaGreat
open Go.RowKit
theorem c_keyWrite (w0 : World) (g : Nat) (A : Option Addr) (c : Nat) (xs : List Int) (hx : xs.length ≤ 10000000) (y : List Int) (hy : KeyOk y) (hM : St (OwnB [.obj g (.cells #[.slice A xs.length c] 201 (0, 0)), .vec A c 5 1 xs.length (xs.map (Value.int .u8))]) w0 w0 [.obj g (.cells #[.slice A xs.length c] 201 (0, 0)), .vec A c 5 1 xs.length (xs.map (Value.int .u8))]) :
    CallR Tryz.prog 162 #[.pointer (some ⟨g, 0, none⟩), .agg (KA y)] w0 fun v w' => v = .tuple #[] ∧ WrSt w0 w' [.obj g (.cells #[.slice A xs.length c] 201 (0, 0)), .vec A c 5 1 xs.length (xs.map (Value.int .u8))] g (xs ++ keyOut y) [] := by
 have hS := hM
 refine c_enter (l := [.pointer (some ⟨g, 0, none⟩), .agg (KA y), undef, undef, undef, undef, undef, undef, undef, undef, undef, undef, undef, undef, undef, undef, undef, undef, undef, undef, undef, undef, undef, undef, undef, undef, undef, undef, undef, undef, undef, undef]) Tryz.func162 rfl (by simp only [Tryz.ntmps162, List.size_toArray, List.length_cons, List.length_nil, Nat.reduceAdd, Nat.reduceSub, Array.replicate_succ, Array.replicate_zero, List.push_toArray, List.append_toArray, List.nil_append, List.cons_append]) ?_
 refine x_seq fun K1 hK1 => ?_
 refine x_region ?_
 have hyl := hy.len
 have hb0 := hy.b0
 have hb1 := hy.b1
 have hb10 := hy.b10
 have hb11 := hy.b11
 have hil := kitem_len hy.len
 have hib := hy.item
 have hv1 := vari_len10 (x := kn y 1) (by omega)
 have hno := nmOut_len (kitem y)
 have hns := nsz_le (kitem y)
 refine m_box hS (fun w1 g1 hS => ?_)
 try simp only [opv, n1, n2, n3, n4, Value.cells, Array.toArray_toList] at hS ⊢
 refine x_nil ?_
 refine hK1 _ _ ?_
 refine x_seq fun K2 hK2 => ?_
 refine x_region ?_
 refine s_go (s_move) ?_
 try simp only [opv, n1, n2, n3, n4, Value.cells]
 refine s_go (m_fieldAddr Tryz.underlying83 (hi := ti5)) ?_
 try simp only [opv, n1, n2, n3, n4, Value.cells, Nat.zero_add, Nat.add_zero, List.getElem_toArray, List.getElem_cons_zero, List.getElem_cons_succ]
 refine s_go (m_load_obj Tryz.underlying5 (hS := hS) (hv := by exact zi_get rfl (by omega))) ?_
 try simp only [opv, n1, n2, n3, n4, Value.cells, List.getElem_toArray, List.getElem_cons_zero, List.getElem_cons_succ]
 rw [hy.e0]
 refine s_call en163 ?_
 try simp only [opv, n1, n2, n3, n4, Value.cells, List.map_toArray, List.map_cons, List.map_nil, List.append_toArray, List.cons_append, List.nil_append, Array.append_empty]
 refine CallR.mono (c_wbyte _ g A c xs (by omega) _ (hS.owns (by repeat (first | exact Spl.nil | (apply Spl.cons (by repeat (first | exact Del.head | apply Del.tail))))))) ?_
 rintro _ w2 ⟨rfl, A2, c2, hC2⟩
 replace hS := hS.frame (by repeat (first | exact Spl.nil | (apply Spl.cons (by repeat (first | exact Del.head | apply Del.tail))))) hC2 (by intro r hr g hg; simp only [List.mem_cons, List.not_mem_nil, or_false] at hr; rcases hr with rfl | rfl | rfl <;> (simp [Res.reads] at hg; done))
 simp only [List.cons_append, List.nil_append] at hS
 try simp only [opv, n1, n2, n3, n4, Value.cells]
 refine x_nil ?_
 refine hK2 _ _ ?_
 refine x_seq fun K3 hK3 => ?_
 refine x_region ?_
 refine s_go (s_move) ?_
 try simp only [opv, n1, n2, n3, n4, Value.cells]
 refine s_go (m_fieldAddr Tryz.underlying83 (hi := ti39)) ?_
 try simp only [opv, n1, n2, n3, n4, Value.cells, Nat.zero_add, Nat.add_zero, List.getElem_toArray, List.getElem_cons_zero, List.getElem_cons_succ]
 refine s_go (m_load_obj Tryz.underlying39 (hS := hS) (hv := by exact zi_get rfl (by omega))) ?_
 try simp only [opv, n1, n2, n3, n4, Value.cells, List.getElem_toArray, List.getElem_cons_zero, List.getElem_cons_succ]
 rw [hy.e1]
 refine s_go (s_conv Tryz.underlying39 Tryz.underlying84 (hc := by exact wr_u64 (by omega) (by omega))) ?_
 try simp only [opv, n1, n2, n3, n4, Value.cells]
 refine s_call en95 ?_
 try simp only [opv, n1, n2, n3, n4, Value.cells, List.map_toArray, List.map_cons, List.map_nil, List.append_toArray, List.cons_append, List.nil_append, Array.append_empty]
 refine CallR.mono (c_wnum _ g _ _ (xs ++ [(kn y 0 : Int)]) (by simp only [List.length_append, List.length_cons, List.length_nil]; omega) (kn y 1) (by omega) (hS.owns (by repeat (first | exact Spl.nil | (apply Spl.cons (by repeat (exact Del.head))))))) ?_
 rintro _ w3 ⟨rfl, A3, c3, hC3⟩
 replace hS := hS.frame (by repeat (first | exact Spl.nil | (apply Spl.cons (by repeat (exact Del.head))))) hC3 (by intro r hr g hg; simp only [List.mem_cons, List.not_mem_nil, or_false] at hr; rcases hr with rfl | rfl | rfl <;> (simp [Res.reads] at hg; done))
 simp only [List.cons_append, List.nil_append] at hS
 try simp only [opv, n1, n2, n3, n4, Value.cells]
 refine x_nil ?_
 refine hK3 _ _ ?_
 refine x_seq fun K4 hK4 => ?_
 refine x_seq fun K5 hK5 => ?_
 refine x_region ?_
 refine s_go (m_fieldAddr Tryz.underlying83 (hi := ti5)) ?_
 try simp only [opv, n1, n2, n3, n4, Value.cells, Nat.zero_add, Nat.add_zero, List.getElem_toArray, List.getElem_cons_zero, List.getElem_cons_succ]
 refine s_go (m_load_obj Tryz.underlying5 (hS := hS) (hv := by exact zi_get rfl (by omega))) ?_
 try simp only [opv, n1, n2, n3, n4, Value.cells, List.getElem_toArray, List.getElem_cons_zero, List.getElem_cons_succ]
 rw [hy.e0]
 refine s_go (s_eql) ?_
 try simp only [opv, n1, n2, n3, n4, Value.cells]
 refine x_nil ?_
 refine hK5 _ _ ?_
 refine x_cond (ht := fun hc1 => ?_) (hf := fun hc1 => ?_)
 ·
  try simp only [decide_eq_true_eq, decide_eq_false_iff_not, Bool.not_eq_true', Bool.not_eq_false', Int.not_lt, Int.not_le, ne_eq, Decidable.not_not, bne_iff_ne, beq_iff_eq, not_true_eq_false, not_false_eq_true] at hc1
  have hO : xs ++ keyOut y = xs ++ [(kn y 0 : Int)] ++ vari (kn y 1) := by simp [keyOut, show kn y 0 = 4 by omega]
  refine x_ret ?_
  refine r_none rfl ?_
  rw [← hO] at hS
  exact ⟨rfl, _, _, hS.sel (by repeat (first | exact Sel.nil | (refine Sel.cons (by repeat (exact Del.head)) ?_)))⟩
 ·
  try simp only [decide_eq_true_eq, decide_eq_false_iff_not, Bool.not_eq_true', Bool.not_eq_false', Int.not_lt, Int.not_le, ne_eq, Decidable.not_not, bne_iff_ne, beq_iff_eq, not_true_eq_false, not_false_eq_true] at hc1
  refine x_skip ?_
  refine hK4 _ _ ?_
  refine x_seq fun K6 hK6 => ?_
  refine x_region ?_
  refine s_go (s_move) ?_
  try simp only [opv, n1, n2, n3, n4, Value.cells]
  refine s_go (m_fieldAddr Tryz.underlying83 (hi := ti41)) ?_
  try simp only [opv, n1, n2, n3, n4, Value.cells, Nat.zero_add, Nat.add_zero, List.getElem_toArray, List.getElem_cons_zero, List.getElem_cons_succ]
  refine s_go (m_loada_obj Tryz.underlying41 (hi := ti41) (hS := hS) (hfit := by (rw [zi_size (by omega)]; decide))) ?_
  try simp only [opv, n1, n2, n3, n4, Value.cells, List.getElem_toArray, List.getElem_cons_zero, List.getElem_cons_succ]
  rw [key_item hyl]
  refine s_call en164 ?_
  try simp only [opv, n1, n2, n3, n4, Value.cells, List.map_toArray, List.map_cons, List.map_nil, List.append_toArray, List.cons_append, List.nil_append, Array.append_empty]
  refine CallR.mono (c_wname _ g _ _ (xs ++ [(kn y 0 : Int)] ++ vari (kn y 1)) (by simp only [List.length_append, List.length_cons, List.length_nil]; omega) (kitem y) hil hib (hS.owns (by repeat (first | exact Spl.nil | (apply Spl.cons (by repeat (exact Del.head))))))) ?_
  rintro _ w4 ⟨rfl, A4, c4, hC4⟩
  replace hS := hS.frame (by repeat (first | exact Spl.nil | (apply Spl.cons (by repeat (exact Del.head))))) hC4 (by intro r hr g hg; simp only [List.mem_cons, List.not_mem_nil, or_false] at hr; rcases hr with rfl | rfl | rfl <;> (simp [Res.reads] at hg; done))
  simp only [List.cons_append, List.nil_append] at hS
  try simp only [opv, n1, n2, n3, n4, Value.cells]
  refine x_nil ?_
  refine hK6 _ _ ?_
  refine x_seq fun K7 hK7 => ?_
  refine x_region ?_
  refine s_go (s_move) ?_
  try simp only [opv, n1, n2, n3, n4, Value.cells]
  refine s_go (m_fieldAddr Tryz.underlying83 (hi := ti5)) ?_
  try simp only [opv, n1, n2, n3, n4, Value.cells, Nat.zero_add, Nat.add_zero, List.getElem_toArray, List.getElem_cons_zero, List.getElem_cons_succ]
  refine s_go (m_load_obj Tryz.underlying5 (hS := hS) (hv := by exact zi_get rfl (by omega))) ?_
  try simp only [opv, n1, n2, n3, n4, Value.cells, List.getElem_toArray, List.getElem_cons_zero, List.getElem_cons_succ]
  rw [hy.e10]
  refine s_call en163 ?_
  try simp only [opv, n1, n2, n3, n4, Value.cells, List.map_toArray, List.map_cons, List.map_nil, List.append_toArray, List.cons_append, List.nil_append, Array.append_empty]
  refine CallR.mono (c_wbyte _ g _ _ (xs ++ [(kn y 0 : Int)] ++ vari (kn y 1) ++ nmOut (kitem y)) (by simp only [List.length_append, List.length_cons, List.length_nil]; omega) _ (hS.owns (by repeat (first | exact Spl.nil | (apply Spl.cons (by repeat (exact Del.head))))))) ?_
  rintro _ w5 ⟨rfl, A5, c5, hC5⟩
  replace hS := hS.frame (by repeat (first | exact Spl.nil | (apply Spl.cons (by repeat (exact Del.head))))) hC5 (by intro r hr g hg; simp only [List.mem_cons, List.not_mem_nil, or_false] at hr; rcases hr with rfl | rfl | rfl <;> (simp [Res.reads] at hg; done))
  simp only [List.cons_append, List.nil_append] at hS
  try simp only [opv, n1, n2, n3, n4, Value.cells]
  refine x_nil ?_
  refine hK7 _ _ ?_
  refine x_seq fun K8 hK8 => ?_
  refine x_region ?_
  refine s_go (m_fieldAddr Tryz.underlying83 (hi := ti5)) ?_
  try simp only [opv, n1, n2, n3, n4, Value.cells, Nat.zero_add, Nat.add_zero, List.getElem_toArray, List.getElem_cons_zero, List.getElem_cons_succ]
  refine s_go (m_load_obj Tryz.underlying5 (hS := hS) (hv := by exact zi_get rfl (by omega))) ?_
  try simp only [opv, n1, n2, n3, n4, Value.cells, List.getElem_toArray, List.getElem_cons_zero, List.getElem_cons_succ]
  rw [hy.e0]
  refine s_go (s_eql) ?_
  try simp only [opv, n1, n2, n3, n4, Value.cells]
  refine x_nil ?_
  refine hK8 _ _ ?_
  refine x_cond (ht := fun hc2 => ?_) (hf := fun hc2 => ?_)
  ·
   try simp only [decide_eq_true_eq, decide_eq_false_iff_not, Bool.not_eq_true', Bool.not_eq_false', Int.not_lt, Int.not_le, ne_eq, Decidable.not_not, bne_iff_ne, beq_iff_eq, not_true_eq_false, not_false_eq_true] at hc2
   have hO : xs ++ keyOut y = xs ++ [(kn y 0 : Int)] ++ vari (kn y 1) ++ nmOut (kitem y) ++ [(kn y 10 : Int)] ++ vari (kn y 11) := by simp [keyOut, show kn y 0 = 1 by omega]
   refine x_region ?_
   refine s_go (s_move) ?_
   try simp only [opv, n1, n2, n3, n4, Value.cells]
   refine s_go (m_fieldAddr Tryz.underlying83 (hi := ti24)) ?_
   try simp only [opv, n1, n2, n3, n4, Value.cells, Nat.zero_add, Nat.add_zero, List.getElem_toArray, List.getElem_cons_zero, List.getElem_cons_succ]
   refine s_go (m_load_obj Tryz.underlying24 (hS := hS) (hv := by exact zi_get rfl (by omega))) ?_
   try simp only [opv, n1, n2, n3, n4, Value.cells, List.getElem_toArray, List.getElem_cons_zero, List.getElem_cons_succ]
   rw [hy.e11]
   refine s_go (s_conv Tryz.underlying24 Tryz.underlying84 (hc := by exact wr_u64 (by omega) (by omega))) ?_
   try simp only [opv, n1, n2, n3, n4, Value.cells]
   refine s_call en95 ?_
   try simp only [opv, n1, n2, n3, n4, Value.cells, List.map_toArray, List.map_cons, List.map_nil, List.append_toArray, List.cons_append, List.nil_append, Array.append_empty]
   refine CallR.mono (c_wnum _ g _ _ (xs ++ [(kn y 0 : Int)] ++ vari (kn y 1) ++ nmOut (kitem y) ++ [(kn y 10 : Int)]) (by simp only [List.length_append, List.length_cons, List.length_nil]; omega) (kn y 11) (by omega) (hS.owns (by repeat (first | exact Spl.nil | (apply Spl.cons (by repeat (exact Del.head))))))) ?_
   rintro _ w6 ⟨rfl, A6, c6, hC6⟩
   replace hS := hS.frame (by repeat (first | exact Spl.nil | (apply Spl.cons (by repeat (exact Del.head))))) hC6 (by intro r hr g hg; simp only [List.mem_cons, List.not_mem_nil, or_false] at hr; rcases hr with rfl | rfl | rfl <;> (simp [Res.reads] at hg; done))
   simp only [List.cons_append, List.nil_append] at hS
   try simp only [opv, n1, n2, n3, n4, Value.cells]
   refine x_nil ?_
   refine r_none rfl ?_
   rw [← hO] at hS
   exact ⟨rfl, _, _, hS.sel (by repeat (first | exact Sel.nil | (refine Sel.cons (by repeat (exact Del.head)) ?_)))⟩
  ·
   try simp only [decide_eq_true_eq, decide_eq_false_iff_not, Bool.not_eq_true', Bool.not_eq_false', Int.not_lt, Int.not_le, ne_eq, Decidable.not_not, bne_iff_ne, beq_iff_eq, not_true_eq_false, not_false_eq_true] at hc2
   have hO : xs ++ keyOut y = xs ++ [(kn y 0 : Int)] ++ vari (kn y 1) ++ nmOut (kitem y) ++ [(kn y 10 : Int)] := by simp [keyOut, show ¬ kn y 0 = 4 by omega, show ¬ kn y 0 = 1 by omega]
   refine x_skip ?_
   refine r_none rfl ?_
   rw [← hO] at hS
   exact ⟨rfl, _, _, hS.sel (by repeat (first | exact Sel.nil | (refine Sel.cons (by repeat (exact Del.head)) ?_)))⟩
end Go.Proofs.YtffmanidnlbjjaaGreat
set_option linter.unusedSimpArgs false
set_option linter.unusedVariables false
set_option maxHeartbeats 2000000
set_option maxRecDepth 100000
namespace Go.Proofs.YtffmanidnlbjjaaGreat
open Go.RowKit

theorem errE_of {e x : Int} (h : e = 0) : errE e x = x := if_pos h
theorem errX_of {e x : Int} {xs : List Int} (h : e = 0) (h2 : ¬ x = 0) : errX e x xs = [] := by rw [errX, errE_of h, if_neg h2]
theorem c_cErr2 {w0 : World} {g : Nat} {e : Int} {A : Option Addr} {c : Nat} {xs : List Int} (hM : St (OwnB [.obj g (.cells #[.int .i64 e, .slice A xs.length c] 189 (0, 0)), .rd A 1 xs.length (xs.map (Value.int .u8))]) w0 w0 [.obj g (.cells #[.int .i64 e, .slice A xs.length c] 189 (0, 0)), .rd A 1 xs.length (xs.map (Value.int .u8))]) (hc : xs.length ≤ c) : CallR Tryz.prog 150 #[.pointer (some ⟨g, 0, none⟩)] w0 fun v w' => v = .int .i64 e ∧ St (OwnB [.obj g (.cells #[.int .i64 e, .slice A xs.length c] 189 (0, 0)), .rd A 1 xs.length (xs.map (Value.int .u8))]) w0 w' [.obj g (.cells #[.int .i64 e, .slice A xs.length c] 189 (0, 0)), .rd A 1 xs.length (xs.map (Value.int .u8))] := c_cErr w0 g e A c xs hc hM

theorem c_keyRead1 (b : Int) (hb : 0 ≤ b ∧ b ≤ 255)  (w0 : World) :
    CallR Tryz.prog 217 #[.int .u8 b] w0 fun v w' => v = .bool (decide (1 ≤ b ∧ b ≤ 4)) ∧ Ext w0 w' := by
 have hS : St NoB w0 w0 [] := St.start w0
 refine c_enter (l := [.int .u8 b, undef, undef, undef, undef, undef, undef, undef, undef]) Tryz.func217 rfl (by simp only [Tryz.ntmps217, List.size_toArray, List.length_cons, List.length_nil, Nat.reduceAdd, Nat.reduceSub, Array.replicate_succ, Array.replicate_zero, List.push_toArray, List.append_toArray, List.nil_append, List.cons_append]) ?_
 refine x_seq fun K1 hK1 => ?_
 refine x_region ?_
 refine s_go (s_assign) ?_
 try simp only [opv, n1, n2, n3, n4, Value.cells]
 refine x_nil ?_
 refine hK1 _ _ ?_
 refine x_seq fun K2 hK2 => ?_
 refine x_region ?_
 refine s_go (s_move) ?_
 try simp only [opv, n1, n2, n3, n4, Value.cells]
 refine s_go (s_geq) ?_
 try simp only [opv, n1, n2, n3, n4, Value.cells]
 refine s_go (s_move) ?_
 try simp only [opv, n1, n2, n3, n4, Value.cells]
 refine s_part 5 rfl (fun hp1 => ?_) (fun hp1 => ?_)
 ·
  try simp only [n3, n4]
  try simp only [decide_eq_true_eq, decide_eq_false_iff_not, Bool.not_eq_true', Bool.not_eq_false', Int.not_lt, Int.not_le, ne_eq, Decidable.not_not] at hp1
  refine g_on (yi (t := 5) rfl rfl) ?_
  refine s_go (s_move) ?_
  try simp only [opv, n1, n2, n3, n4, Value.cells]
  refine g_on (yi (t := 5) rfl rfl) ?_
  refine s_go (s_leq) ?_
  try simp only [opv, n1, n2, n3, n4, Value.cells]
  refine s_go (s_pick_t) ?_
  try simp only [opv, n1, n2, n3, n4, Value.cells]
  refine s_go (s_assign) ?_
  try simp only [opv, n1, n2, n3, n4, Value.cells]
  refine x_nil ?_
  refine hK2 _ _ ?_
  refine x_ret ?_
  refine r_tmp rfl ?_
  exact ⟨congrArg Value.bool (by (simp [*]; done)), hS.ext_of⟩
 ·
  try simp only [n3, n4]
  try simp only [decide_eq_true_eq, decide_eq_false_iff_not, Bool.not_eq_true', Bool.not_eq_false', Int.not_lt, Int.not_le, ne_eq, Decidable.not_not] at hp1
  refine g_off (yi (t := 5) rfl rfl) ?_
  try simp only [opv, n1, n2, n3, n4, Value.cells]
  refine g_off (yi (t := 5) rfl rfl) ?_
  try simp only [opv, n1, n2, n3, n4, Value.cells]
  refine s_go (s_pick_f) ?_
  try simp only [opv, n1, n2, n3, n4, Value.cells]
  refine s_go (s_assign) ?_
  try simp only [opv, n1, n2, n3, n4, Value.cells]
  refine x_nil ?_
  refine hK2 _ _ ?_
  refine x_ret ?_
  refine r_tmp rfl ?_
  exact ⟨congrArg Value.bool (by (simp; omega)), hS.ext_of⟩
theorem c_keyRead2 (b : Int) (hb : 0 ≤ b ∧ b ≤ 255)  (w0 : World) :
    CallR Tryz.prog 220 #[.int .u8 b] w0 fun v w' => v = .bool (decide (b < 16)) ∧ Ext w0 w' := by
 have hS : St NoB w0 w0 [] := St.start w0
 refine c_enter (l := [.int .u8 b, undef, undef, undef, undef]) Tryz.func220 rfl (by simp only [Tryz.ntmps220, List.size_toArray, List.length_cons, List.length_nil, Nat.reduceAdd, Nat.reduceSub, Array.replicate_succ, Array.replicate_zero, List.push_toArray, List.append_toArray, List.nil_append, List.cons_append]) ?_
 refine x_seq fun K1 hK1 => ?_
 refine x_region ?_
 refine s_go (s_assign) ?_
 try simp only [opv, n1, n2, n3, n4, Value.cells]
 refine x_nil ?_
 refine hK1 _ _ ?_
 refine x_seq fun K2 hK2 => ?_
 refine x_region ?_
 refine s_go (s_move) ?_
 try simp only [opv, n1, n2, n3, n4, Value.cells]
 refine s_go (s_lss) ?_
 try simp only [opv, n1, n2, n3, n4, Value.cells]
 refine s_go (s_assign) ?_
 try simp only [opv, n1, n2, n3, n4, Value.cells]
 refine x_nil ?_
 refine hK2 _ _ ?_
 refine x_ret ?_
 refine r_tmp rfl ?_
 exact ⟨rfl, hS.ext_of⟩
theorem c_keyRead4 (x : Nat)  (w0 : World) :
    CallR Tryz.prog 223 #[.int .u64 (x : Int)] w0 fun v w' => v = .bool (!decide (x = 0)) ∧ Ext w0 w' := by
 have hS : St NoB w0 w0 [] := St.start w0
 refine c_enter (l := [.int .u64 (x : Int), undef, undef, undef, undef]) Tryz.func223 rfl (by simp only [Tryz.ntmps223, List.size_toArray, List.length_cons, List.length_nil, Nat.reduceAdd, Nat.reduceSub, Array.replicate_succ, Array.replicate_zero, List.push_toArray, List.append_toArray, List.nil_append, List.cons_append]) ?_
 refine x_seq fun K1 hK1 => ?_
 refine x_region ?_
 refine s_go (s_assign) ?_
 try simp only [opv, n1, n2, n3, n4, Value.cells]
 refine x_nil ?_
 refine hK1 _ _ ?_
 refine x_seq fun K2 hK2 => ?_
 refine x_region ?_
 refine s_go (s_move) ?_
 try simp only [opv, n1, n2, n3, n4, Value.cells]
 refine s_go (s_gtr) ?_
 try simp only [opv, n1, n2, n3, n4, Value.cells]
 refine s_go (s_assign) ?_
 try simp only [opv, n1, n2, n3, n4, Value.cells]
 refine x_nil ?_
 refine hK2 _ _ ?_
 refine x_ret ?_
 refine r_tmp rfl ?_
 exact ⟨congrArg Value.bool (by rw [Bool.eq_iff_iff]; simp; omega), hS.ext_of⟩
theorem c_keyRead3 (w0 : World) (g : Nat) (e : Int) (A : Option Addr) (c : Nat) (xs : List Int) (hc : xs.length ≤ c) (hw : Byt xs) (hn : xs.length ≤ 1000000000) (b : Nat) (hM : St (OwnB [.obj g (.cells #[.int .i64 e, .slice A xs.length c] 189 (0, 0)), .rd A 1 xs.length (xs.map (Value.int .u8)), .obj b (.cells #[.pointer (some ⟨g, 0, none⟩)] 130 (0, 0))]) w0 w0 [.obj g (.cells #[.int .i64 e, .slice A xs.length c] 189 (0, 0)), .rd A 1 xs.length (xs.map (Value.int .u8)), .obj b (.cells #[.pointer (some ⟨g, 0, none⟩)] 130 (0, 0))]) :
    CallR Tryz.prog 222 #[.pointer (some ⟨b, 0, none⟩)] w0 fun v w' => v = .int .u64 ((numS 4294967295 e xs).1 : Int) ∧ CuSt w0 w' [.obj g (.cells #[.int .i64 e, .slice A xs.length c] 189 (0, 0)), .rd A 1 xs.length (xs.map (Value.int .u8)), .obj b (.cells #[.pointer (some ⟨g, 0, none⟩)] 130 (0, 0))] g (numS 4294967295 e xs).2.1 (numS 4294967295 e xs).2.2 [.obj b (.cells #[.pointer (some ⟨g, 0, none⟩)] 130 (0, 0))] := by
 have hS := hM
 refine c_enter (l := [.pointer (some ⟨b, 0, none⟩), undef, undef, undef]) Tryz.func222 rfl (by simp only [Tryz.ntmps222, List.size_toArray, List.length_cons, List.length_nil, Nat.reduceAdd, Nat.reduceSub, Array.replicate_succ, Array.replicate_zero, List.push_toArray, List.append_toArray, List.nil_append, List.cons_append]) ?_
 refine x_seq fun K1 hK1 => ?_
 refine x_region ?_
 refine s_go (s_assign) ?_
 try simp only [opv, n1, n2, n3, n4, Value.cells]
 refine x_nil ?_
 refine hK1 _ _ ?_
 refine x_seq fun K2 hK2 => ?_
 refine x_region ?_
 refine s_go (m_load_obj Tryz.underlying130 (hS := hS)) ?_
 try simp only [opv, n1, n2, n3, n4, Value.cells, List.getElem_toArray, List.getElem_cons_zero, List.getElem_cons_succ]
 refine s_call en87 ?_
 try simp only [opv, n1, n2, n3, n4, Value.cells, List.map_toArray, List.map_cons, List.map_nil, List.append_toArray, List.cons_append, List.nil_append, Array.append_empty]
 refine CallR.mono (c_cNum _ g e A c xs hc hw hn 4294967295 (by omega) (hS.owns (by repeat (first | exact Spl.nil | (apply Spl.cons (by repeat (exact Del.head))))))) ?_
 rintro _ w1 ⟨rfl, A1, c1, hcp1, hR1, hC1⟩
 have hY1 := RdIn.trans hM hS (by repeat (first | exact Spl.nil | (apply Spl.cons (by repeat (exact Del.head))))) hR1 (by intro s hs q hb; simp only [List.mem_cons, List.not_mem_nil, or_false] at hs; rcases hs with rfl | rfl <;> first | (simp [Res.reads] at hb; done) | exact .inr ⟨_, List.mem_cons_of_mem _ (List.mem_cons_self ..), .inr hb⟩)
 replace hS := hS.frame (by repeat (first | exact Spl.nil | (apply Spl.cons (by repeat (exact Del.head))))) hC1 (by intro r hr b hb; simp only [List.mem_cons, List.not_mem_nil, or_false] at hr; rcases hr with rfl | rfl <;> first | (simp [Res.reads] at hb; done) | exact hR1 b hb)
 replace hR1 := hY1
 simp only [List.cons_append, List.nil_append] at hS
 try simp only [opv, n1, n2, n3, n4, Value.cells]
 refine s_go (s_assign) ?_
 try simp only [opv, n1, n2, n3, n4, Value.cells]
 refine x_nil ?_
 refine hK2 _ _ ?_
 refine x_ret ?_
 refine r_tmp rfl ?_
 exact ⟨rfl, _, _, by assumption, by assumption, hS.sel (by repeat (first | exact Sel.nil | (refine Sel.cons (by repeat (exact Del.head)) ?_)))⟩
theorem c_askB (w0 : World) (g : Nat) (e : Int) (A : Option Addr) (c : Nat) (xs : List Int) (hc : xs.length ≤ c) (hw : Byt xs) (hn : xs.length ≤ 1000000000) (q : Int → Bool) (f : FuncId) (he : Enters Tryz.prog f) (H : ∀ (w : World) (b : Int), 0 ≤ b ∧ b ≤ 255 → CallR Tryz.prog f #[.int .u8 b] w fun v w' => v = .bool (q b) ∧ Ext w w') (e2 : Int) (he2 : ¬ e2 = 0) (hM : St (OwnB [.obj g (.cells #[.int .i64 e, .slice A xs.length c] 189 (0, 0)), .rd A 1 xs.length (xs.map (Value.int .u8))]) w0 w0 [.obj g (.cells #[.int .i64 e, .slice A xs.length c] 189 (0, 0)), .rd A 1 xs.length (xs.map (Value.int .u8))]) :
    CallR Tryz.prog 215 #[.pointer (some ⟨g, 0, none⟩), .func (.func 216) #[.pointer (some ⟨g, 0, none⟩)] #[], .func (.func f) #[] #[], .int .i64 e2] w0 fun v w' => v = .tuple #[.int .u8 (oneS e xs).1, .bool (decide ((askS (!q (oneS e xs).1) e2 (oneS e xs).2).1 = 0))] ∧ CuSt w0 w' [.obj g (.cells #[.int .i64 e, .slice A xs.length c] 189 (0, 0)), .rd A 1 xs.length (xs.map (Value.int .u8))] g (askS (!q (oneS e xs).1) e2 (oneS e xs).2).1 (askS (!q (oneS e xs).1) e2 (oneS e xs).2).2 [] := by
 have hS := hM
 have hov := oneS_val (e := e) hw
 refine c_enter (l := [.pointer (some ⟨g, 0, none⟩), .func (.func 216) #[.pointer (some ⟨g, 0, none⟩)] #[], .func (.func f) #[] #[], .int .i64 e2, undef, undef, undef, undef, undef, undef, undef, undef, undef, undef, undef, undef, undef, undef, undef, undef, undef, undef, undef, undef, undef, undef, undef, undef, undef]) Tryz.func215 rfl (by simp only [Tryz.ntmps215, List.size_toArray, List.length_cons, List.length_nil, Nat.reduceAdd, Nat.reduceSub, Array.replicate_succ, Array.replicate_zero, List.push_toArray, List.append_toArray, List.nil_append, List.cons_append]) ?_
 refine x_seq fun K1 hK1 => ?_
 refine x_region ?_
 refine s_go (s_assign) ?_
 try simp only [opv, n1, n2, n3, n4, Value.cells]
 refine s_go (s_assign) ?_
 try simp only [opv, n1, n2, n3, n4, Value.cells]
 refine x_nil ?_
 refine hK1 _ _ ?_
 refine x_seq fun K2 hK2 => ?_
 refine x_region ?_
 refine s_go (s_move) ?_
 try simp only [opv, n1, n2, n3, n4, Value.cells]
 refine s_callm (hv := rfl) en216 ?_
 try simp only [opv, n1, n2, n3, n4, Value.cells, List.map_toArray, List.map_cons, List.map_nil, List.append_toArray, List.cons_append, List.nil_append, Array.append_empty]
 refine CallR.mono (c_cByte _ g e A c xs hc hw hn (hS.owns (by repeat (first | exact Spl.nil | (apply Spl.cons (by repeat (exact Del.head))))))) ?_
 rintro _ w1 ⟨rfl, Aa, ca, hcpa, hRa, hCa⟩
 have hYa := RdIn.trans hM hS (by repeat (first | exact Spl.nil | (apply Spl.cons (by repeat (exact Del.head))))) hRa (by intro s hs q hb; simp only [List.mem_cons, List.not_mem_nil, or_false] at hs; rcases hs with rfl | rfl <;> first | (simp [Res.reads] at hb; done) | exact .inr ⟨_, List.mem_cons_of_mem _ (List.mem_cons_self ..), .inr hb⟩)
 replace hS := hS.frame (by repeat (first | exact Spl.nil | (apply Spl.cons (by repeat (exact Del.head))))) hCa (by intro r hr b hb; simp only [List.mem_cons, List.not_mem_nil, or_false] at hr; rcases hr with rfl | rfl <;> first | (simp [Res.reads] at hb; done) | exact hRa b hb)
 replace hRa := hYa
 simp only [List.cons_append, List.nil_append] at hS
 try simp only [opv, n1, n2, n3, n4, Value.cells]
 refine s_go (s_assign) ?_
 try simp only [opv, n1, n2, n3, n4, Value.cells]
 refine x_nil ?_
 refine hK2 _ _ ?_
 refine x_seq fun K3 hK3 => ?_
 refine x_seq fun K4 hK4 => ?_
 refine x_region ?_
 refine s_go (s_move) ?_
 try simp only [opv, n1, n2, n3, n4, Value.cells]
 refine s_call en150 ?_
 try simp only [opv, n1, n2, n3, n4, Value.cells, List.map_toArray, List.map_cons, List.map_nil, List.append_toArray, List.cons_append, List.nil_append, Array.append_empty]
 refine CallR.mono (c_cErr _ g ((oneS e xs).2.1) Aa ca ((oneS e xs).2.2) hcpa (hS.owns (by repeat (first | exact Spl.nil | (apply Spl.cons (by repeat (exact Del.head))))))) ?_
 rintro _ w2 ⟨rfl, hC2⟩
 replace hS := hS.frame (by repeat (first | exact Spl.nil | (apply Spl.cons (by repeat (exact Del.head))))) hC2 (by intro r hr g hg; simp only [List.mem_cons, List.not_mem_nil, or_false] at hr; rcases hr with rfl | rfl | rfl <;> first | (simp [Res.reads] at hg; done) | exact .inr ⟨_, by simp, .inr hg⟩)
 simp only [List.cons_append, List.nil_append] at hS
 try simp only [opv, n1, n2, n3, n4, Value.cells]
 refine s_go (s_eql) ?_
 try simp only [opv, n1, n2, n3, n4, Value.cells]
 refine s_go (s_move) ?_
 try simp only [opv, n1, n2, n3, n4, Value.cells]
 refine s_part 16 rfl (fun hp1 => ?_) (fun hp1 => ?_)
 ·
  try simp only [n3, n4]
  try simp only [decide_eq_true_eq, decide_eq_false_iff_not, Bool.not_eq_true', Bool.not_eq_false', Int.not_lt, Int.not_le, ne_eq, Decidable.not_not] at hp1
  have hE : (oneS e xs).2.1 = 0 := by simpa using hp1
  refine g_on (yi (t := 16) rfl rfl) ?_
  refine s_go (s_move) ?_
  try simp only [opv, n1, n2, n3, n4, Value.cells]
  refine g_on (yi (t := 16) rfl rfl) ?_
  refine s_go (s_move) ?_
  try simp only [opv, n1, n2, n3, n4, Value.cells]
  refine g_on (yi (t := 16) rfl rfl) ?_
  refine s_callv (hv := rfl) he ?_
  try simp only [opv, n1, n2, n3, n4, Value.cells, List.map_toArray, List.map_cons, List.map_nil, List.append_toArray, List.cons_append, List.nil_append, Array.append_empty]
  refine CallR.mono (H _ _ hov) ?_
  rintro _ w3 ⟨rfl, hE3⟩
  replace hS := hS.ext hE3
  try simp only [opv, n1, n2, n3, n4, Value.cells]
  refine g_on (yi (t := 16) rfl rfl) ?_
  refine s_go (s_not) ?_
  try simp only [opv, n1, n2, n3, n4, Value.cells]
  refine s_go (s_pick_t) ?_
  try simp only [opv, n1, n2, n3, n4, Value.cells]
  refine x_nil ?_
  refine hK4 _ _ ?_
  refine x_cond (ht := fun hc1 => ?_) (hf := fun hc1 => ?_)
  ·
   try simp only [decide_eq_true_eq, decide_eq_false_iff_not, Bool.not_eq_true', Bool.not_eq_false', Int.not_lt, Int.not_le, ne_eq, Decidable.not_not, bne_iff_ne, beq_iff_eq, not_true_eq_false, not_false_eq_true] at hc1
   have hz := askS_bad (b := !q (oneS e xs).1) (w := e2) hE (by simpa using hc1)
   refine x_region ?_
   refine s_go (s_move) ?_
   try simp only [opv, n1, n2, n3, n4, Value.cells]
   refine s_go (s_move) ?_
   try simp only [opv, n1, n2, n3, n4, Value.cells]
   refine s_call en88 ?_
   try simp only [opv, n1, n2, n3, n4, Value.cells, List.map_toArray, List.map_cons, List.map_nil, List.append_toArray, List.cons_append, List.nil_append, Array.append_empty]
   refine CallR.mono (c_cFail _ g (oneS e xs).2.1 Aa ca (oneS e xs).2.2 hcpa e2 (hS.owns (by repeat (first | exact Spl.nil | (apply Spl.cons (by repeat (exact Del.head))))))) ?_
   rintro _ w4 ⟨rfl, Ab, cb, hcpb, hRb, hCb⟩
   have hYb := RdIn.trans hM hS (by repeat (first | exact Spl.nil | (apply Spl.cons (by repeat (exact Del.head))))) hRb (by intro s hs q hb; simp only [List.mem_cons, List.not_mem_nil, or_false] at hs; rcases hs with rfl | rfl <;> first | (simp [Res.reads] at hb; done) | exact hRa q hb)
   replace hS := hS.frame (by repeat (first | exact Spl.nil | (apply Spl.cons (by repeat (exact Del.head))))) hCb (by intro r hr b hb; simp only [List.mem_cons, List.not_mem_nil, or_false] at hr; rcases hr with rfl | rfl <;> first | (simp [Res.reads] at hb; done) | exact hRb b hb)
   replace hRb := hYb
   simp only [List.cons_append, List.nil_append] at hS
   simp only [errE_of hE, errX_of hE he2] at hS hcpb hRb
   try simp only [opv, n1, n2, n3, n4, Value.cells]
   refine x_nil ?_
   refine hK3 _ _ ?_
   refine x_seq fun K5 hK5 => ?_
   refine x_region ?_
   refine s_go (s_move) ?_
   try simp only [opv, n1, n2, n3, n4, Value.cells]
   refine s_go (s_move) ?_
   try simp only [opv, n1, n2, n3, n4, Value.cells]
   refine s_call en150 ?_
   try simp only [opv, n1, n2, n3, n4, Value.cells, List.map_toArray, List.map_cons, List.map_nil, List.append_toArray, List.cons_append, List.nil_append, Array.append_empty]
   refine CallR.mono (c_cErr2 (hS.owns (by repeat (first | exact Spl.nil | (apply Spl.cons (by repeat (exact Del.head)))))) (by assumption)) ?_
   rintro _ w5 ⟨rfl, hC5⟩
   replace hS := hS.frame (by repeat (first | exact Spl.nil | (apply Spl.cons (by repeat (exact Del.head))))) hC5 (by intro r hr g hg; simp only [List.mem_cons, List.not_mem_nil, or_false] at hr; rcases hr with rfl | rfl | rfl <;> (simp [Res.reads] at hg; done))
   simp only [List.cons_append, List.nil_append] at hS
   try simp only [opv, n1, n2, n3, n4, Value.cells]
   refine s_go (s_eql) ?_
   try simp only [opv, n1, n2, n3, n4, Value.cells]
   refine s_go (s_assign) ?_
   try simp only [opv, n1, n2, n3, n4, Value.cells]
   refine s_go (s_assign) ?_
   try simp only [opv, n1, n2, n3, n4, Value.cells]
   refine x_nil ?_
   refine hK5 _ _ ?_
   refine x_ret ?_
   refine r_tmp2 rfl ?_
   rw [hz]
   exact ⟨rfl, _, _, by assumption, by assumption, hS.sel (by repeat (first | exact Sel.nil | (refine Sel.cons (by repeat (exact Del.head)) ?_)))⟩
  ·
   try simp only [decide_eq_true_eq, decide_eq_false_iff_not, Bool.not_eq_true', Bool.not_eq_false', Int.not_lt, Int.not_le, ne_eq, Decidable.not_not, bne_iff_ne, beq_iff_eq, not_true_eq_false, not_false_eq_true] at hc1
   have hz := askS_good (b := !q (oneS e xs).1) (w := e2) (s := (oneS e xs).2) (by simpa using hc1)
   refine x_skip ?_
   refine hK3 _ _ ?_
   refine x_seq fun K6 hK6 => ?_
   refine x_region ?_
   refine s_go (s_move) ?_
   try simp only [opv, n1, n2, n3, n4, Value.cells]
   refine s_go (s_move) ?_
   try simp only [opv, n1, n2, n3, n4, Value.cells]
   refine s_call en150 ?_
   try simp only [opv, n1, n2, n3, n4, Value.cells, List.map_toArray, List.map_cons, List.map_nil, List.append_toArray, List.cons_append, List.nil_append, Array.append_empty]
   refine CallR.mono (c_cErr2 (hS.owns (by repeat (first | exact Spl.nil | (apply Spl.cons (by repeat (exact Del.head)))))) (by assumption)) ?_
   rintro _ w6 ⟨rfl, hC6⟩
   replace hS := hS.frame (by repeat (first | exact Spl.nil | (apply Spl.cons (by repeat (exact Del.head))))) hC6 (by intro r hr g hg; simp only [List.mem_cons, List.not_mem_nil, or_false] at hr; rcases hr with rfl | rfl | rfl <;> first | (simp [Res.reads] at hg; done) | exact .inr ⟨_, by simp, .inr hg⟩)
   simp only [List.cons_append, List.nil_append] at hS
   try simp only [opv, n1, n2, n3, n4, Value.cells]
   refine s_go (s_eql) ?_
   try simp only [opv, n1, n2, n3, n4, Value.cells]
   refine s_go (s_assign) ?_
   try simp only [opv, n1, n2, n3, n4, Value.cells]
   refine s_go (s_assign) ?_
   try simp only [opv, n1, n2, n3, n4, Value.cells]
   refine x_nil ?_
   refine hK6 _ _ ?_
   refine x_ret ?_
   refine r_tmp2 rfl ?_
   rw [hz]
   exact ⟨rfl, _, _, by assumption, by assumption, hS.sel (by repeat (first | exact Sel.nil | (refine Sel.cons (by repeat (exact Del.head)) ?_)))⟩
 ·
  try simp only [n3, n4]
  try simp only [decide_eq_true_eq, decide_eq_false_iff_not, Bool.not_eq_true', Bool.not_eq_false', Int.not_lt, Int.not_le, ne_eq, Decidable.not_not] at hp1
  have hE : ¬ (oneS e xs).2.1 = 0 := by simpa using hp1
  have hz := askS_err (b := !q (oneS e xs).1) (w := e2) hE
  refine g_off (yi (t := 16) rfl rfl) ?_
  try simp only [opv, n1, n2, n3, n4, Value.cells]
  refine g_off (yi (t := 16) rfl rfl) ?_
  try simp only [opv, n1, n2, n3, n4, Value.cells]
  refine g_off (yi (t := 16) rfl rfl) ?_
  try simp only [opv, n1, n2, n3, n4, Value.cells]
  refine g_off (yi (t := 16) rfl rfl) ?_
  try simp only [opv, n1, n2, n3, n4, Value.cells]
  refine s_go (s_pick_f) ?_
  try simp only [opv, n1, n2, n3, n4, Value.cells]
  refine x_nil ?_
  refine hK4 _ _ ?_
  refine x_cond_f (h := ?_)
  skip
  refine x_skip ?_
  refine hK3 _ _ ?_
  refine x_seq fun K7 hK7 => ?_
  refine x_region ?_
  refine s_go (s_move) ?_
  try simp only [opv, n1, n2, n3, n4, Value.cells]
  refine s_go (s_move) ?_
  try simp only [opv, n1, n2, n3, n4, Value.cells]
  refine s_call en150 ?_
  try simp only [opv, n1, n2, n3, n4, Value.cells, List.map_toArray, List.map_cons, List.map_nil, List.append_toArray, List.cons_append, List.nil_append, Array.append_empty]
  refine CallR.mono (c_cErr2 (hS.owns (by repeat (first | exact Spl.nil | (apply Spl.cons (by repeat (exact Del.head)))))) (by assumption)) ?_
  rintro _ w7 ⟨rfl, hC7⟩
  replace hS := hS.frame (by repeat (first | exact Spl.nil | (apply Spl.cons (by repeat (exact Del.head))))) hC7 (by intro r hr g hg; simp only [List.mem_cons, List.not_mem_nil, or_false] at hr; rcases hr with rfl | rfl | rfl <;> first | (simp [Res.reads] at hg; done) | exact .inr ⟨_, by simp, .inr hg⟩)
  simp only [List.cons_append, List.nil_append] at hS
  try simp only [opv, n1, n2, n3, n4, Value.cells]
  refine s_go (s_eql) ?_
  try simp only [opv, n1, n2, n3, n4, Value.cells]
  refine s_go (s_assign) ?_
  try simp only [opv, n1, n2, n3, n4, Value.cells]
  refine s_go (s_assign) ?_
  try simp only [opv, n1, n2, n3, n4, Value.cells]
  refine x_nil ?_
  refine hK7 _ _ ?_
  refine x_ret ?_
  refine r_tmp2 rfl ?_
  rw [hz]
  exact ⟨rfl, _, _, by assumption, by assumption, hS.sel (by repeat (first | exact Sel.nil | (refine Sel.cons (by repeat (exact Del.head)) ?_)))⟩
theorem c_askN (w0 : World) (g : Nat) (e : Int) (A : Option Addr) (c : Nat) (xs : List Int) (hc : xs.length ≤ c) (hw : Byt xs) (hn : xs.length ≤ 1000000000) (e2 : Int) (he2 : ¬ e2 = 0) (hM : St (OwnB [.obj g (.cells #[.int .i64 e, .slice A xs.length c] 189 (0, 0)), .rd A 1 xs.length (xs.map (Value.int .u8))]) w0 w0 [.obj g (.cells #[.int .i64 e, .slice A xs.length c] 189 (0, 0)), .rd A 1 xs.length (xs.map (Value.int .u8))]) :
    CallR Tryz.prog 218 #[.pointer (some ⟨g, 0, none⟩), .func (.func 219) #[.pointer (some ⟨g, 0, none⟩)] #[], .func (.func 73) #[] #[], .int .i64 e2] w0 fun v w' => v = .tuple #[.agg (ic .u8 (namS e xs).1), .bool (decide ((askS (decide ((namS e xs).1 = nm0)) e2 (namS e xs).2).1 = 0))] ∧ CuSt w0 w' [.obj g (.cells #[.int .i64 e, .slice A xs.length c] 189 (0, 0)), .rd A 1 xs.length (xs.map (Value.int .u8))] g (askS (decide ((namS e xs).1 = nm0)) e2 (namS e xs).2).1 (askS (decide ((namS e xs).1 = nm0)) e2 (namS e xs).2).2 [] := by
 have hS := hM
 have hnl := namS_len e xs
 have hnb := namS_byt (e := e) hw
 have h0l : nm0.length = 8 := rfl
 refine c_enter (l := [.pointer (some ⟨g, 0, none⟩), .func (.func 219) #[.pointer (some ⟨g, 0, none⟩)] #[], .func (.func 73) #[] #[], .int .i64 e2, undef, undef, undef, undef, undef, undef, undef, undef, undef, undef, undef, undef, undef, undef, undef, undef, undef, undef, undef, undef, undef, undef, undef, undef, undef]) Tryz.func218 rfl (by simp only [Tryz.ntmps218, List.size_toArray, List.length_cons, List.length_nil, Nat.reduceAdd, Nat.reduceSub, Array.replicate_succ, Array.replicate_zero, List.push_toArray, List.append_toArray, List.nil_append, List.cons_append]) ?_
 refine x_seq fun K1 hK1 => ?_
 refine x_region ?_
 refine m_alloc ti41 hS (fun w1 g1 hS => ?_)
 try simp only [opv, n1, n2, n3, n4, Value.cells, Array.toArray_toList] at hS ⊢
 replace hS : St (OwnB [.obj g (.cells #[.int .i64 e, .slice A xs.length c] 189 (0, 0)), .rd A 1 xs.length (xs.map (Value.int .u8))]) w0 w1 (.obj g1 (.cells (ic .u8 nm0) 41 (0, 0)) :: [.obj g (.cells #[.int .i64 e, .slice A xs.length c] 189 (0, 0)), .rd A 1 xs.length (xs.map (Value.int .u8))]) := hS
 refine s_go (s_assign) ?_
 try simp only [opv, n1, n2, n3, n4, Value.cells]
 refine x_nil ?_
 refine hK1 _ _ ?_
 refine x_seq fun K2 hK2 => ?_
 refine x_region ?_
 refine s_go (s_move) ?_
 try simp only [opv, n1, n2, n3, n4, Value.cells]
 refine s_callm (hv := rfl) en219 ?_
 try simp only [opv, n1, n2, n3, n4, Value.cells, List.map_toArray, List.map_cons, List.map_nil, List.append_toArray, List.cons_append, List.nil_append, Array.append_empty]
 refine CallR.mono (c_cName _ g e A c xs hc hw hn (hS.owns (by repeat (first | exact Spl.nil | (apply Spl.cons (by repeat (first | exact Del.head | apply Del.tail))))))) ?_
 rintro _ w2 ⟨rfl, Aa, ca, hcpa, hRa, hCa⟩
 have hYa := RdIn.trans hM hS (by repeat (first | exact Spl.nil | (apply Spl.cons (by repeat (first | exact Del.head | apply Del.tail))))) hRa (by intro s hs q hb; simp only [List.mem_cons, List.not_mem_nil, or_false] at hs; rcases hs with rfl | rfl <;> first | (simp [Res.reads] at hb; done) | exact .inr ⟨_, List.mem_cons_of_mem _ (List.mem_cons_self ..), .inr hb⟩)
 replace hS := hS.frame (by repeat (first | exact Spl.nil | (apply Spl.cons (by repeat (first | exact Del.head | apply Del.tail))))) hCa (by intro r hr b hb; simp only [List.mem_cons, List.not_mem_nil, or_false] at hr; rcases hr with rfl | rfl <;> first | (simp [Res.reads] at hb; done) | exact hRa b hb)
 replace hRa := hYa
 simp only [List.cons_append, List.nil_append] at hS
 try simp only [opv, n1, n2, n3, n4, Value.cells]
 refine m_alloc ti41 hS (fun w3 g3 hS => ?_)
 try simp only [opv, n1, n2, n3, n4, Value.cells, Array.toArray_toList] at hS ⊢
 obtain ⟨gn, hgn⟩ : ∃ gn, gn = g3 := ⟨_, rfl⟩
 rw [← hgn] at hS ⊢
 replace hS : St (OwnB [.obj g (.cells #[.int .i64 e, .slice A xs.length c] 189 (0, 0)), .rd A 1 xs.length (xs.map (Value.int .u8))]) w0 w3 (.obj gn (.cells (ic .u8 nm0) 41 (0, 0)) :: _) := hS
 refine m_store_obj ti41 (hS := hS) (h := fun w4 hS => ?_)
 try simp only [opv, n1, n2, n3, n4, Value.cells, Array.toArray_toList] at hS ⊢
 refine x_nil ?_
 refine hK2 _ _ ?_
 refine x_seq fun K3 hK3 => ?_
 refine x_seq fun K4 hK4 => ?_
 refine x_region ?_
 refine s_go (s_move) ?_
 try simp only [opv, n1, n2, n3, n4, Value.cells]
 refine s_call en150 ?_
 try simp only [opv, n1, n2, n3, n4, Value.cells, List.map_toArray, List.map_cons, List.map_nil, List.append_toArray, List.cons_append, List.nil_append, Array.append_empty]
 refine CallR.mono (c_cErr _ g ((namS e xs).2.1) Aa ca ((namS e xs).2.2) hcpa (hS.owns (by repeat (first | exact Spl.nil | (apply Spl.cons (by repeat (first | exact Del.head | apply Del.tail))))))) ?_
 rintro _ w5 ⟨rfl, hC5⟩
 replace hS := hS.frame (by repeat (first | exact Spl.nil | (apply Spl.cons (by repeat (first | exact Del.head | apply Del.tail))))) hC5 (by intro r hr g hg; simp only [List.mem_cons, List.not_mem_nil, or_false] at hr; rcases hr with rfl | rfl | rfl <;> first | (simp [Res.reads] at hg; done) | exact .inr ⟨_, by simp, .inr hg⟩)
 simp only [List.cons_append, List.nil_append] at hS
 try simp only [opv, n1, n2, n3, n4, Value.cells]
 refine s_go (s_eql) ?_
 try simp only [opv, n1, n2, n3, n4, Value.cells]
 refine s_go (s_move) ?_
 try simp only [opv, n1, n2, n3, n4, Value.cells]
 refine s_part 16 rfl (fun hp1 => ?_) (fun hp1 => ?_)
 ·
  try simp only [n3, n4]
  try simp only [decide_eq_true_eq, decide_eq_false_iff_not, Bool.not_eq_true', Bool.not_eq_false', Int.not_lt, Int.not_le, ne_eq, Decidable.not_not] at hp1
  have hE : (namS e xs).2.1 = 0 := by simpa using hp1
  refine g_on (yi (t := 16) rfl rfl) ?_
  refine s_go (s_move) ?_
  try simp only [opv, n1, n2, n3, n4, Value.cells]
  refine g_on (yi (t := 16) rfl rfl) ?_
  refine s_go (m_load_row Tryz.underlying41 (hi := ti41) (hS := hS)) ?_
  try simp only [opv, n1, n2, n3, n4, Value.cells, List.getElem_toArray, List.getElem_cons_zero, List.getElem_cons_succ]
  refine g_on (yi (t := 16) rfl rfl) ?_
  refine s_callv (hv := rfl) en73 ?_
  try simp only [opv, n1, n2, n3, n4, Value.cells, List.map_toArray, List.map_cons, List.map_nil, List.append_toArray, List.cons_append, List.nil_append, Array.append_empty]
  refine CallR.mono (c_nameSome _ (by assumption) (by assumption) _) ?_
  rintro _ w6 ⟨rfl, hE6⟩
  replace hS := hS.ext hE6
  try simp only [opv, n1, n2, n3, n4, Value.cells]
  refine g_on (yi (t := 16) rfl rfl) ?_
  refine s_go (s_not) ?_
  try simp only [opv, n1, n2, n3, n4, Value.cells]
  refine s_go (s_pick_t) ?_
  try simp only [opv, n1, n2, n3, n4, Value.cells]
  refine x_nil ?_
  refine hK4 _ _ ?_
  refine x_cond (ht := fun hc1 => ?_) (hf := fun hc1 => ?_)
  ·
   try simp only [decide_eq_true_eq, decide_eq_false_iff_not, Bool.not_eq_true', Bool.not_eq_false', Int.not_lt, Int.not_le, ne_eq, Decidable.not_not, bne_iff_ne, beq_iff_eq, not_true_eq_false, not_false_eq_true] at hc1
   have hz := askS_bad (b := decide ((namS e xs).1 = nm0)) (w := e2) hE (by simpa using hc1)
   refine x_region ?_
   refine s_go (s_move) ?_
   try simp only [opv, n1, n2, n3, n4, Value.cells]
   refine s_go (s_move) ?_
   try simp only [opv, n1, n2, n3, n4, Value.cells]
   refine s_call en88 ?_
   try simp only [opv, n1, n2, n3, n4, Value.cells, List.map_toArray, List.map_cons, List.map_nil, List.append_toArray, List.cons_append, List.nil_append, Array.append_empty]
   refine CallR.mono (c_cFail _ g (namS e xs).2.1 Aa ca (namS e xs).2.2 hcpa e2 (hS.owns (by repeat (first | exact Spl.nil | (apply Spl.cons (by repeat (exact Del.head))))))) ?_
   rintro _ w7 ⟨rfl, Ab, cb, hcpb, hRb, hCb⟩
   have hYb := RdIn.trans hM hS (by repeat (first | exact Spl.nil | (apply Spl.cons (by repeat (exact Del.head))))) hRb (by intro s hs q hb; simp only [List.mem_cons, List.not_mem_nil, or_false] at hs; rcases hs with rfl | rfl <;> first | (simp [Res.reads] at hb; done) | exact hRa q hb)
   replace hS := hS.frame (by repeat (first | exact Spl.nil | (apply Spl.cons (by repeat (exact Del.head))))) hCb (by intro r hr b hb; simp only [List.mem_cons, List.not_mem_nil, or_false] at hr; rcases hr with rfl | rfl <;> first | (simp [Res.reads] at hb; done) | exact hRb b hb)
   replace hRb := hYb
   simp only [List.cons_append, List.nil_append] at hS
   simp only [errE_of hE, errX_of hE he2] at hS hcpb hRb
   try simp only [opv, n1, n2, n3, n4, Value.cells]
   refine x_nil ?_
   refine hK3 _ _ ?_
   refine x_seq fun K5 hK5 => ?_
   refine x_mixed_c (Lc := [.obj gn (.cells (ic .u8 (namS e xs).1) 41 (0, 0))]) [] 0 [9, 25, 26, 27, 28] (fun f w => f 9 = .bool (decide ((askS (decide ((namS e xs).1 = nm0)) e2 (namS e xs).2).1 = 0)) ∧ ∃ (A' : Option Addr) (c' : Nat), (askS (decide ((namS e xs).1 = nm0)) e2 (namS e xs).2).2.length ≤ c' ∧ RdIn w0 [.obj g (.cells #[.int .i64 e, .slice A xs.length c] 189 (0, 0)), .rd A 1 xs.length (xs.map (Value.int .u8))] A' (askS (decide ((namS e xs).1 = nm0)) e2 (namS e xs).2).2.length ∧ St (OwnB [.obj g (.cells #[.int .i64 e, .slice A xs.length c] 189 (0, 0)), .rd A 1 xs.length (xs.map (Value.int .u8))]) w0 w [.obj g1 (.cells (ic .u8 (namS e xs).1) 41 (0, 0)), .obj g (.cells #[.int .i64 (askS (decide ((namS e xs).1 = nm0)) e2 (namS e xs).2).1, .slice A' (askS (decide ((namS e xs).1 = nm0)) e2 (namS e xs).2).2.length c'] 189 (0, 0)), .rd A' 1 (askS (decide ((namS e xs).1 = nm0)) e2 (namS e xs).2).2.length ((askS (decide ((namS e xs).1 = nm0)) e2 (namS e xs).2).2.map (Value.int .u8))]) (by kernel_rfl) (by kernel_rfl) (by kernel_rfl) (by decide) hS (fun w8 hS => ?mixpre401) ?mixrest401
   case mixpre401 =>
    refine p_nil ?_
    simp only [List.length_cons, List.length_nil, Nat.reduceAdd, Nat.reduceSub]
    refine any_go (i := 0) (by rfl) (by decide +kernel) (by decide +kernel) noLate_nil (go_yields w_none (fun w hS => m_load_row Tryz.underlying41 (hi := ti41) (hS := hS))) ?_
    try simp only [opv, n1, n2, n3, n4, Value.cells, List.getElem_toArray, List.getElem_cons_zero, List.getElem_cons_succ]
    refine any_go (i := 1) (by rfl) (by decide +kernel) (by decide +kernel) noLate_nil (go_yields w_none (fun w hS => s_move)) ?_
    try simp only [opv, n1, n2, n3, n4, Value.cells]
    refine any_step [2] (by kernel_rfl) (by decide) (fun w9 hE => ⟨fun _ => (hS.ext hE).sel (by repeat (first | exact Sel.nil | (refine Sel.cons (by repeat (first | exact Del.head | apply Del.tail)) ?_))), ?_⟩)
    replace hS := hS.ext hE
    intro i hi
    simp only [List.mem_cons, List.not_mem_nil, or_false] at hi
    subst hi
    ·
     refine any_op (by rfl) ?_
     refine s_call en150 ?_
     try simp only [opv, n1, n2, n3, n4, Value.cells, List.map_toArray, List.map_cons, List.map_nil, List.append_toArray, List.cons_append, List.nil_append, Array.append_empty]
     refine CallR.mono (c_cErr2 (hS.owns (by repeat (first | exact Spl.nil | (apply Spl.cons (by repeat (exact Del.head)))))) (by assumption)) ?_
     rintro _ w10 ⟨rfl, hC10⟩
     replace hS := hS.frame (by repeat (first | exact Spl.nil | (apply Spl.cons (by repeat (exact Del.head))))) hC10 (by intro r hr g hg; simp only [List.mem_cons, List.not_mem_nil, or_false] at hr; rcases hr with rfl | rfl | rfl <;> (simp [Res.reads] at hg; done))
     simp only [List.cons_append, List.nil_append] at hS
     try simp only [opv, n1, n2, n3, n4, Value.cells]
     refine x_nil ?_
     refine any_go (i := 3) (by rfl) (by decide +kernel) (by decide +kernel) noLate_nil (go_yields w_none (fun w hS => s_eql)) ?_
     try simp only [opv, n1, n2, n3, n4, Value.cells]
     refine any_step [4] (by kernel_rfl) (by decide) (fun w11 hE => ⟨fun _ => (hS.ext hE).sel (by repeat (first | exact Sel.nil | (refine Sel.cons (by repeat (first | exact Del.head | apply Del.tail)) ?_))), ?_⟩)
     replace hS := hS.ext hE
     intro i hi
     simp only [List.mem_cons, List.not_mem_nil, or_false] at hi
     subst hi
     ·
      refine any_op (by rfl) ?_
      refine m_store_obj ti41 (hS := hS) (h := fun w12 hS => ?_)
      try simp only [opv, n1, n2, n3, n4, Value.cells, Array.toArray_toList] at hS ⊢
      refine x_nil ?_
      refine any_go (i := 5) (by rfl) (by decide +kernel) (by decide +kernel) noLate_nil (go_yields w_none (fun w hS => s_assign)) ?_
      try simp only [opv, n1, n2, n3, n4, Value.cells]
      refine any_nil (by kernel_rfl) (fun w13 hE => ?_)
      replace hS := hS.ext hE
      refine ⟨fun _ => hS.sel (by repeat (first | exact Sel.nil | (refine Sel.cons (by repeat (first | exact Del.head | apply Del.tail)) ?_))), ?_⟩
      refine mix_leaf (by simp only [clob, List.foldl, n1, n2, n3, n4]) ?_
      try simp only [n1, n2]
      rw [hz]
      exact ⟨by trivial, _, _, by assumption, by assumption, hS.sel (by repeat (first | exact Sel.nil | (refine Sel.cons (by repeat (first | exact Del.head | apply Del.tail)) ?_)))⟩
   intro fm1 w14 hM
   obtain ⟨h9, A9, c9, hc9, hR9, hS⟩ := hM
   simp only [clob, List.foldl, n3, n4, h9]
   refine hK5 _ _ ?_
   refine x_ret ?_
   refine r_cell_tmp_agg rfl Tryz.underlying41 ti41 (hS := hS) (hR := ?_)
   exact ⟨rfl, A9, c9, hc9, hR9, hS.sel (by repeat (first | exact Sel.nil | (refine Sel.cons (by repeat (first | exact Del.head | apply Del.tail)) ?_)))⟩
  ·
   try simp only [decide_eq_true_eq, decide_eq_false_iff_not, Bool.not_eq_true', Bool.not_eq_false', Int.not_lt, Int.not_le, ne_eq, Decidable.not_not, bne_iff_ne, beq_iff_eq, not_true_eq_false, not_false_eq_true] at hc1
   have hz := askS_good (b := decide ((namS e xs).1 = nm0)) (w := e2) (s := (namS e xs).2) (by simpa using hc1)
   refine x_skip ?_
   refine hK3 _ _ ?_
   refine x_seq fun K6 hK6 => ?_
   refine x_mixed_c (Lc := [.obj gn (.cells (ic .u8 (namS e xs).1) 41 (0, 0))]) [] 0 [9, 25, 26, 27, 28] (fun f w => f 9 = .bool (decide ((askS (decide ((namS e xs).1 = nm0)) e2 (namS e xs).2).1 = 0)) ∧ ∃ (A' : Option Addr) (c' : Nat), (askS (decide ((namS e xs).1 = nm0)) e2 (namS e xs).2).2.length ≤ c' ∧ RdIn w0 [.obj g (.cells #[.int .i64 e, .slice A xs.length c] 189 (0, 0)), .rd A 1 xs.length (xs.map (Value.int .u8))] A' (askS (decide ((namS e xs).1 = nm0)) e2 (namS e xs).2).2.length ∧ St (OwnB [.obj g (.cells #[.int .i64 e, .slice A xs.length c] 189 (0, 0)), .rd A 1 xs.length (xs.map (Value.int .u8))]) w0 w [.obj g1 (.cells (ic .u8 (namS e xs).1) 41 (0, 0)), .obj g (.cells #[.int .i64 (askS (decide ((namS e xs).1 = nm0)) e2 (namS e xs).2).1, .slice A' (askS (decide ((namS e xs).1 = nm0)) e2 (namS e xs).2).2.length c'] 189 (0, 0)), .rd A' 1 (askS (decide ((namS e xs).1 = nm0)) e2 (namS e xs).2).2.length ((askS (decide ((namS e xs).1 = nm0)) e2 (namS e xs).2).2.map (Value.int .u8))]) (by kernel_rfl) (by kernel_rfl) (by kernel_rfl) (by decide) hS (fun w15 hS => ?mixpre402) ?mixrest402
   case mixpre402 =>
    refine p_nil ?_
    simp only [List.length_cons, List.length_nil, Nat.reduceAdd, Nat.reduceSub]
    refine any_go (i := 0) (by rfl) (by decide +kernel) (by decide +kernel) noLate_nil (go_yields w_none (fun w hS => m_load_row Tryz.underlying41 (hi := ti41) (hS := hS))) ?_
    try simp only [opv, n1, n2, n3, n4, Value.cells, List.getElem_toArray, List.getElem_cons_zero, List.getElem_cons_succ]
    refine any_go (i := 1) (by rfl) (by decide +kernel) (by decide +kernel) noLate_nil (go_yields w_none (fun w hS => s_move)) ?_
    try simp only [opv, n1, n2, n3, n4, Value.cells]
    refine any_step [2] (by kernel_rfl) (by decide) (fun w16 hE => ⟨fun _ => (hS.ext hE).sel (by repeat (first | exact Sel.nil | (refine Sel.cons (by repeat (first | exact Del.head | apply Del.tail)) ?_))), ?_⟩)
    replace hS := hS.ext hE
    intro i hi
    simp only [List.mem_cons, List.not_mem_nil, or_false] at hi
    subst hi
    ·
     refine any_op (by rfl) ?_
     refine s_call en150 ?_
     try simp only [opv, n1, n2, n3, n4, Value.cells, List.map_toArray, List.map_cons, List.map_nil, List.append_toArray, List.cons_append, List.nil_append, Array.append_empty]
     refine CallR.mono (c_cErr2 (hS.owns (by repeat (first | exact Spl.nil | (apply Spl.cons (by repeat (exact Del.head)))))) (by assumption)) ?_
     rintro _ w17 ⟨rfl, hC17⟩
     replace hS := hS.frame (by repeat (first | exact Spl.nil | (apply Spl.cons (by repeat (exact Del.head))))) hC17 (by intro r hr g hg; simp only [List.mem_cons, List.not_mem_nil, or_false] at hr; rcases hr with rfl | rfl | rfl <;> first | (simp [Res.reads] at hg; done) | exact .inr ⟨_, by simp, .inr hg⟩)
     simp only [List.cons_append, List.nil_append] at hS
     try simp only [opv, n1, n2, n3, n4, Value.cells]
     refine x_nil ?_
     refine any_go (i := 3) (by rfl) (by decide +kernel) (by decide +kernel) noLate_nil (go_yields w_none (fun w hS => s_eql)) ?_
     try simp only [opv, n1, n2, n3, n4, Value.cells]
     refine any_step [4] (by kernel_rfl) (by decide) (fun w18 hE => ⟨fun _ => (hS.ext hE).sel (by repeat (first | exact Sel.nil | (refine Sel.cons (by repeat (first | exact Del.head | apply Del.tail)) ?_))), ?_⟩)
     replace hS := hS.ext hE
     intro i hi
     simp only [List.mem_cons, List.not_mem_nil, or_false] at hi
     subst hi
     ·
      refine any_op (by rfl) ?_
      refine m_store_obj ti41 (hS := hS) (h := fun w19 hS => ?_)
      try simp only [opv, n1, n2, n3, n4, Value.cells, Array.toArray_toList] at hS ⊢
      refine x_nil ?_
      refine any_go (i := 5) (by rfl) (by decide +kernel) (by decide +kernel) noLate_nil (go_yields w_none (fun w hS => s_assign)) ?_
      try simp only [opv, n1, n2, n3, n4, Value.cells]
      refine any_nil (by kernel_rfl) (fun w20 hE => ?_)
      replace hS := hS.ext hE
      refine ⟨fun _ => hS.sel (by repeat (first | exact Sel.nil | (refine Sel.cons (by repeat (first | exact Del.head | apply Del.tail)) ?_))), ?_⟩
      refine mix_leaf (by simp only [clob, List.foldl, n1, n2, n3, n4]) ?_
      try simp only [n1, n2]
      rw [hz]
      exact ⟨by trivial, _, _, by assumption, by assumption, hS.sel (by repeat (first | exact Sel.nil | (refine Sel.cons (by repeat (first | exact Del.head | apply Del.tail)) ?_)))⟩
   intro fm2 w21 hM
   obtain ⟨h9, A9, c9, hc9, hR9, hS⟩ := hM
   simp only [clob, List.foldl, n3, n4, h9]
   refine hK6 _ _ ?_
   refine x_ret ?_
   refine r_cell_tmp_agg rfl Tryz.underlying41 ti41 (hS := hS) (hR := ?_)
   exact ⟨rfl, A9, c9, hc9, hR9, hS.sel (by repeat (first | exact Sel.nil | (refine Sel.cons (by repeat (first | exact Del.head | apply Del.tail)) ?_)))⟩
 ·
  try simp only [n3, n4]
  try simp only [decide_eq_true_eq, decide_eq_false_iff_not, Bool.not_eq_true', Bool.not_eq_false', Int.not_lt, Int.not_le, ne_eq, Decidable.not_not] at hp1
  have hE : ¬ (namS e xs).2.1 = 0 := by simpa using hp1
  have hz := askS_err (b := decide ((namS e xs).1 = nm0)) (w := e2) hE
  refine g_off (yi (t := 16) rfl rfl) ?_
  try simp only [opv, n1, n2, n3, n4, Value.cells]
  refine g_off (yi (t := 16) rfl rfl) ?_
  try simp only [opv, n1, n2, n3, n4, Value.cells]
  refine g_off (yi (t := 16) rfl rfl) ?_
  try simp only [opv, n1, n2, n3, n4, Value.cells]
  refine g_off (yi (t := 16) rfl rfl) ?_
  try simp only [opv, n1, n2, n3, n4, Value.cells]
  refine s_go (s_pick_f) ?_
  try simp only [opv, n1, n2, n3, n4, Value.cells]
  refine x_nil ?_
  refine hK4 _ _ ?_
  refine x_cond_f (h := ?_)
  skip
  refine x_skip ?_
  refine hK3 _ _ ?_
  refine x_seq fun K7 hK7 => ?_
  refine x_mixed_c (Lc := [.obj gn (.cells (ic .u8 (namS e xs).1) 41 (0, 0))]) [] 0 [9, 25, 26, 27, 28] (fun f w => f 9 = .bool (decide ((askS (decide ((namS e xs).1 = nm0)) e2 (namS e xs).2).1 = 0)) ∧ ∃ (A' : Option Addr) (c' : Nat), (askS (decide ((namS e xs).1 = nm0)) e2 (namS e xs).2).2.length ≤ c' ∧ RdIn w0 [.obj g (.cells #[.int .i64 e, .slice A xs.length c] 189 (0, 0)), .rd A 1 xs.length (xs.map (Value.int .u8))] A' (askS (decide ((namS e xs).1 = nm0)) e2 (namS e xs).2).2.length ∧ St (OwnB [.obj g (.cells #[.int .i64 e, .slice A xs.length c] 189 (0, 0)), .rd A 1 xs.length (xs.map (Value.int .u8))]) w0 w [.obj g1 (.cells (ic .u8 (namS e xs).1) 41 (0, 0)), .obj g (.cells #[.int .i64 (askS (decide ((namS e xs).1 = nm0)) e2 (namS e xs).2).1, .slice A' (askS (decide ((namS e xs).1 = nm0)) e2 (namS e xs).2).2.length c'] 189 (0, 0)), .rd A' 1 (askS (decide ((namS e xs).1 = nm0)) e2 (namS e xs).2).2.length ((askS (decide ((namS e xs).1 = nm0)) e2 (namS e xs).2).2.map (Value.int .u8))]) (by kernel_rfl) (by kernel_rfl) (by kernel_rfl) (by decide) hS (fun w22 hS => ?mixpre403) ?mixrest403
  case mixpre403 =>
   refine p_nil ?_
   simp only [List.length_cons, List.length_nil, Nat.reduceAdd, Nat.reduceSub]
   refine any_go (i := 0) (by rfl) (by decide +kernel) (by decide +kernel) noLate_nil (go_yields w_none (fun w hS => m_load_row Tryz.underlying41 (hi := ti41) (hS := hS))) ?_
   try simp only [opv, n1, n2, n3, n4, Value.cells, List.getElem_toArray, List.getElem_cons_zero, List.getElem_cons_succ]
   refine any_go (i := 1) (by rfl) (by decide +kernel) (by decide +kernel) noLate_nil (go_yields w_none (fun w hS => s_move)) ?_
   try simp only [opv, n1, n2, n3, n4, Value.cells]
   refine any_step [2] (by kernel_rfl) (by decide) (fun w23 hE => ⟨fun _ => (hS.ext hE).sel (by repeat (first | exact Sel.nil | (refine Sel.cons (by repeat (first | exact Del.head | apply Del.tail)) ?_))), ?_⟩)
   replace hS := hS.ext hE
   intro i hi
   simp only [List.mem_cons, List.not_mem_nil, or_false] at hi
   subst hi
   ·
    refine any_op (by rfl) ?_
    refine s_call en150 ?_
    try simp only [opv, n1, n2, n3, n4, Value.cells, List.map_toArray, List.map_cons, List.map_nil, List.append_toArray, List.cons_append, List.nil_append, Array.append_empty]
    refine CallR.mono (c_cErr2 (hS.owns (by repeat (first | exact Spl.nil | (apply Spl.cons (by repeat (exact Del.head)))))) (by assumption)) ?_
    rintro _ w24 ⟨rfl, hC24⟩
    replace hS := hS.frame (by repeat (first | exact Spl.nil | (apply Spl.cons (by repeat (exact Del.head))))) hC24 (by intro r hr g hg; simp only [List.mem_cons, List.not_mem_nil, or_false] at hr; rcases hr with rfl | rfl | rfl <;> first | (simp [Res.reads] at hg; done) | exact .inr ⟨_, by simp, .inr hg⟩)
    simp only [List.cons_append, List.nil_append] at hS
    try simp only [opv, n1, n2, n3, n4, Value.cells]
    refine x_nil ?_
    refine any_go (i := 3) (by rfl) (by decide +kernel) (by decide +kernel) noLate_nil (go_yields w_none (fun w hS => s_eql)) ?_
    try simp only [opv, n1, n2, n3, n4, Value.cells]
    refine any_step [4] (by kernel_rfl) (by decide) (fun w25 hE => ⟨fun _ => (hS.ext hE).sel (by repeat (first | exact Sel.nil | (refine Sel.cons (by repeat (first | exact Del.head | apply Del.tail)) ?_))), ?_⟩)
    replace hS := hS.ext hE
    intro i hi
    simp only [List.mem_cons, List.not_mem_nil, or_false] at hi
    subst hi
    ·
     refine any_op (by rfl) ?_
     refine m_store_obj ti41 (hS := hS) (h := fun w26 hS => ?_)
     try simp only [opv, n1, n2, n3, n4, Value.cells, Array.toArray_toList] at hS ⊢
     refine x_nil ?_
     refine any_go (i := 5) (by rfl) (by decide +kernel) (by decide +kernel) noLate_nil (go_yields w_none (fun w hS => s_assign)) ?_
     try simp only [opv, n1, n2, n3, n4, Value.cells]
     refine any_nil (by kernel_rfl) (fun w27 hE => ?_)
     replace hS := hS.ext hE
     refine ⟨fun _ => hS.sel (by repeat (first | exact Sel.nil | (refine Sel.cons (by repeat (first | exact Del.head | apply Del.tail)) ?_))), ?_⟩
     refine mix_leaf (by simp only [clob, List.foldl, n1, n2, n3, n4]) ?_
     try simp only [n1, n2]
     rw [hz]
     exact ⟨by trivial, _, _, by assumption, by assumption, hS.sel (by repeat (first | exact Sel.nil | (refine Sel.cons (by repeat (first | exact Del.head | apply Del.tail)) ?_)))⟩
  intro fm3 w28 hM
  obtain ⟨h9, A9, c9, hc9, hR9, hS⟩ := hM
  simp only [clob, List.foldl, n3, n4, h9]
  refine hK7 _ _ ?_
  refine x_ret ?_
  refine r_cell_tmp_agg rfl Tryz.underlying41 ti41 (hS := hS) (hR := ?_)
  exact ⟨rfl, A9, c9, hc9, hR9, hS.sel (by repeat (first | exact Sel.nil | (refine Sel.cons (by repeat (first | exact Del.head | apply Del.tail)) ?_)))⟩
theorem c_askU (w0 : World) (g : Nat) (e : Int) (A : Option Addr) (c : Nat) (xs : List Int) (hc : xs.length ≤ c) (hw : Byt xs) (hn : xs.length ≤ 1000000000) (b : Nat) (e2 : Int) (he2 : ¬ e2 = 0) (hM : St (OwnB [.obj g (.cells #[.int .i64 e, .slice A xs.length c] 189 (0, 0)), .rd A 1 xs.length (xs.map (Value.int .u8)), .obj b (.cells #[.pointer (some ⟨g, 0, none⟩)] 130 (0, 0))]) w0 w0 [.obj g (.cells #[.int .i64 e, .slice A xs.length c] 189 (0, 0)), .rd A 1 xs.length (xs.map (Value.int .u8)), .obj b (.cells #[.pointer (some ⟨g, 0, none⟩)] 130 (0, 0))]) :
    CallR Tryz.prog 221 #[.pointer (some ⟨g, 0, none⟩), .func (.func 222) #[] #[.pointer (some ⟨b, 0, none⟩)], .func (.func 223) #[] #[], .int .i64 e2] w0 fun v w' => v = .tuple #[.int .u64 ((numS 4294967295 e xs).1 : Int), .bool (decide ((askS (decide ((numS 4294967295 e xs).1 = 0)) e2 (numS 4294967295 e xs).2).1 = 0))] ∧ CuSt w0 w' [.obj g (.cells #[.int .i64 e, .slice A xs.length c] 189 (0, 0)), .rd A 1 xs.length (xs.map (Value.int .u8)), .obj b (.cells #[.pointer (some ⟨g, 0, none⟩)] 130 (0, 0))] g (askS (decide ((numS 4294967295 e xs).1 = 0)) e2 (numS 4294967295 e xs).2).1 (askS (decide ((numS 4294967295 e xs).1 = 0)) e2 (numS 4294967295 e xs).2).2 [.obj b (.cells #[.pointer (some ⟨g, 0, none⟩)] 130 (0, 0))] := by
 have hS := hM
 refine c_enter (l := [.pointer (some ⟨g, 0, none⟩), .func (.func 222) #[] #[.pointer (some ⟨b, 0, none⟩)], .func (.func 223) #[] #[], .int .i64 e2, undef, undef, undef, undef, undef, undef, undef, undef, undef, undef, undef, undef, undef, undef, undef, undef, undef, undef, undef, undef, undef, undef, undef, undef, undef]) Tryz.func221 rfl (by simp only [Tryz.ntmps221, List.size_toArray, List.length_cons, List.length_nil, Nat.reduceAdd, Nat.reduceSub, Array.replicate_succ, Array.replicate_zero, List.push_toArray, List.append_toArray, List.nil_append, List.cons_append]) ?_
 refine x_seq fun K1 hK1 => ?_
 refine x_region ?_
 refine s_go (s_assign) ?_
 try simp only [opv, n1, n2, n3, n4, Value.cells]
 refine s_go (s_assign) ?_
 try simp only [opv, n1, n2, n3, n4, Value.cells]
 refine x_nil ?_
 refine hK1 _ _ ?_
 refine x_seq fun K2 hK2 => ?_
 refine x_region ?_
 refine s_go (s_move) ?_
 try simp only [opv, n1, n2, n3, n4, Value.cells]
 refine s_callv (hv := rfl) en222 ?_
 try simp only [opv, n1, n2, n3, n4, Value.cells, List.map_toArray, List.map_cons, List.map_nil, List.append_toArray, List.cons_append, List.nil_append, Array.append_empty]
 refine CallR.mono (c_keyRead3 _ g e A c xs hc hw hn b (hS.owns (by repeat (first | exact Spl.nil | (apply Spl.cons (by repeat (exact Del.head))))))) ?_
 rintro _ w1 ⟨rfl, Aa, ca, hcpa, hRa, hCa⟩
 have hYa := RdIn.trans hM hS (by repeat (first | exact Spl.nil | (apply Spl.cons (by repeat (exact Del.head))))) hRa (by intro s hs q hb; simp only [List.mem_cons, List.not_mem_nil, or_false] at hs; rcases hs with rfl | rfl | rfl <;> first | (simp [Res.reads] at hb; done) | exact .inr ⟨_, List.mem_cons_of_mem _ (List.mem_cons_self ..), .inr hb⟩)
 replace hS := hS.frame (by repeat (first | exact Spl.nil | (apply Spl.cons (by repeat (exact Del.head))))) hCa (by intro r hr b hb; simp only [List.mem_cons, List.not_mem_nil, or_false] at hr; rcases hr with rfl | rfl | rfl <;> first | (simp [Res.reads] at hb; done) | exact hRa b hb)
 replace hRa := hYa
 simp only [List.cons_append, List.nil_append] at hS
 try simp only [opv, n1, n2, n3, n4, Value.cells]
 refine s_go (s_assign) ?_
 try simp only [opv, n1, n2, n3, n4, Value.cells]
 refine x_nil ?_
 refine hK2 _ _ ?_
 refine x_seq fun K3 hK3 => ?_
 refine x_seq fun K4 hK4 => ?_
 refine x_region ?_
 refine s_go (s_move) ?_
 try simp only [opv, n1, n2, n3, n4, Value.cells]
 refine s_call en150 ?_
 try simp only [opv, n1, n2, n3, n4, Value.cells, List.map_toArray, List.map_cons, List.map_nil, List.append_toArray, List.cons_append, List.nil_append, Array.append_empty]
 refine CallR.mono (c_cErr _ g ((numS 4294967295 e xs).2.1) Aa ca ((numS 4294967295 e xs).2.2) hcpa (hS.owns (by repeat (first | exact Spl.nil | (apply Spl.cons (by repeat (exact Del.head))))))) ?_
 rintro _ w2 ⟨rfl, hC2⟩
 replace hS := hS.frame (by repeat (first | exact Spl.nil | (apply Spl.cons (by repeat (exact Del.head))))) hC2 (by intro r hr g hg; simp only [List.mem_cons, List.not_mem_nil, or_false] at hr; rcases hr with rfl | rfl | rfl <;> first | (simp [Res.reads] at hg; done) | exact .inr ⟨_, by simp, .inr hg⟩)
 simp only [List.cons_append, List.nil_append] at hS
 try simp only [opv, n1, n2, n3, n4, Value.cells]
 refine s_go (s_eql) ?_
 try simp only [opv, n1, n2, n3, n4, Value.cells]
 refine s_go (s_move) ?_
 try simp only [opv, n1, n2, n3, n4, Value.cells]
 refine s_part 16 rfl (fun hp1 => ?_) (fun hp1 => ?_)
 ·
  try simp only [n3, n4]
  try simp only [decide_eq_true_eq, decide_eq_false_iff_not, Bool.not_eq_true', Bool.not_eq_false', Int.not_lt, Int.not_le, ne_eq, Decidable.not_not] at hp1
  have hE : (numS 4294967295 e xs).2.1 = 0 := by simpa using hp1
  refine g_on (yi (t := 16) rfl rfl) ?_
  refine s_go (s_move) ?_
  try simp only [opv, n1, n2, n3, n4, Value.cells]
  refine g_on (yi (t := 16) rfl rfl) ?_
  refine s_go (s_move) ?_
  try simp only [opv, n1, n2, n3, n4, Value.cells]
  refine g_on (yi (t := 16) rfl rfl) ?_
  refine s_callv (hv := rfl) en223 ?_
  try simp only [opv, n1, n2, n3, n4, Value.cells, List.map_toArray, List.map_cons, List.map_nil, List.append_toArray, List.cons_append, List.nil_append, Array.append_empty]
  refine CallR.mono (c_keyRead4 _ _) ?_
  rintro _ w3 ⟨rfl, hE3⟩
  replace hS := hS.ext hE3
  try simp only [opv, n1, n2, n3, n4, Value.cells]
  refine g_on (yi (t := 16) rfl rfl) ?_
  refine s_go (s_not) ?_
  try simp only [opv, n1, n2, n3, n4, Value.cells]
  refine s_go (s_pick_t) ?_
  try simp only [opv, n1, n2, n3, n4, Value.cells]
  refine x_nil ?_
  refine hK4 _ _ ?_
  refine x_cond (ht := fun hc1 => ?_) (hf := fun hc1 => ?_)
  ·
   try simp only [decide_eq_true_eq, decide_eq_false_iff_not, Bool.not_eq_true', Bool.not_eq_false', Int.not_lt, Int.not_le, ne_eq, Decidable.not_not, bne_iff_ne, beq_iff_eq, not_true_eq_false, not_false_eq_true] at hc1
   have hz := askS_bad (b := decide ((numS 4294967295 e xs).1 = 0)) (w := e2) hE (by simpa using hc1)
   refine x_region ?_
   refine s_go (s_move) ?_
   try simp only [opv, n1, n2, n3, n4, Value.cells]
   refine s_go (s_move) ?_
   try simp only [opv, n1, n2, n3, n4, Value.cells]
   refine s_call en88 ?_
   try simp only [opv, n1, n2, n3, n4, Value.cells, List.map_toArray, List.map_cons, List.map_nil, List.append_toArray, List.cons_append, List.nil_append, Array.append_empty]
   refine CallR.mono (c_cFail _ g (numS 4294967295 e xs).2.1 Aa ca (numS 4294967295 e xs).2.2 hcpa e2 (hS.owns (by repeat (first | exact Spl.nil | (apply Spl.cons (by repeat (exact Del.head))))))) ?_
   rintro _ w4 ⟨rfl, Ab, cb, hcpb, hRb, hCb⟩
   have hYb := RdIn.trans hM hS (by repeat (first | exact Spl.nil | (apply Spl.cons (by repeat (exact Del.head))))) hRb (by intro s hs q hb; simp only [List.mem_cons, List.not_mem_nil, or_false] at hs; rcases hs with rfl | rfl <;> first | (simp [Res.reads] at hb; done) | exact hRa q hb)
   replace hS := hS.frame (by repeat (first | exact Spl.nil | (apply Spl.cons (by repeat (exact Del.head))))) hCb (by intro r hr b hb; simp only [List.mem_cons, List.not_mem_nil, or_false] at hr; rcases hr with rfl | rfl <;> first | (simp [Res.reads] at hb; done) | exact hRb b hb)
   replace hRb := hYb
   simp only [List.cons_append, List.nil_append] at hS
   simp only [errE_of hE, errX_of hE he2] at hS hcpb hRb
   try simp only [opv, n1, n2, n3, n4, Value.cells]
   refine x_nil ?_
   refine hK3 _ _ ?_
   refine x_seq fun K5 hK5 => ?_
   refine x_region ?_
   refine s_go (s_move) ?_
   try simp only [opv, n1, n2, n3, n4, Value.cells]
   refine s_go (s_move) ?_
   try simp only [opv, n1, n2, n3, n4, Value.cells]
   refine s_call en150 ?_
   try simp only [opv, n1, n2, n3, n4, Value.cells, List.map_toArray, List.map_cons, List.map_nil, List.append_toArray, List.cons_append, List.nil_append, Array.append_empty]
   refine CallR.mono (c_cErr2 (hS.owns (by repeat (first | exact Spl.nil | (apply Spl.cons (by repeat (exact Del.head)))))) (by assumption)) ?_
   rintro _ w5 ⟨rfl, hC5⟩
   replace hS := hS.frame (by repeat (first | exact Spl.nil | (apply Spl.cons (by repeat (exact Del.head))))) hC5 (by intro r hr g hg; simp only [List.mem_cons, List.not_mem_nil, or_false] at hr; rcases hr with rfl | rfl | rfl <;> (simp [Res.reads] at hg; done))
   simp only [List.cons_append, List.nil_append] at hS
   try simp only [opv, n1, n2, n3, n4, Value.cells]
   refine s_go (s_eql) ?_
   try simp only [opv, n1, n2, n3, n4, Value.cells]
   refine s_go (s_assign) ?_
   try simp only [opv, n1, n2, n3, n4, Value.cells]
   refine s_go (s_assign) ?_
   try simp only [opv, n1, n2, n3, n4, Value.cells]
   refine x_nil ?_
   refine hK5 _ _ ?_
   refine x_ret ?_
   refine r_tmp2 rfl ?_
   rw [hz]
   exact ⟨rfl, _, _, by assumption, by assumption, hS.sel (by repeat (first | exact Sel.nil | (refine Sel.cons (by repeat (exact Del.head)) ?_)))⟩
  ·
   try simp only [decide_eq_true_eq, decide_eq_false_iff_not, Bool.not_eq_true', Bool.not_eq_false', Int.not_lt, Int.not_le, ne_eq, Decidable.not_not, bne_iff_ne, beq_iff_eq, not_true_eq_false, not_false_eq_true] at hc1
   have hz := askS_good (b := decide ((numS 4294967295 e xs).1 = 0)) (w := e2) (s := (numS 4294967295 e xs).2) (by simpa using hc1)
   refine x_skip ?_
   refine hK3 _ _ ?_
   refine x_seq fun K6 hK6 => ?_
   refine x_region ?_
   refine s_go (s_move) ?_
   try simp only [opv, n1, n2, n3, n4, Value.cells]
   refine s_go (s_move) ?_
   try simp only [opv, n1, n2, n3, n4, Value.cells]
   refine s_call en150 ?_
   try simp only [opv, n1, n2, n3, n4, Value.cells, List.map_toArray, List.map_cons, List.map_nil, List.append_toArray, List.cons_append, List.nil_append, Array.append_empty]
   refine CallR.mono (c_cErr2 (hS.owns (by repeat (first | exact Spl.nil | (apply Spl.cons (by repeat (exact Del.head)))))) (by assumption)) ?_
   rintro _ w6 ⟨rfl, hC6⟩
   replace hS := hS.frame (by repeat (first | exact Spl.nil | (apply Spl.cons (by repeat (exact Del.head))))) hC6 (by intro r hr g hg; simp only [List.mem_cons, List.not_mem_nil, or_false] at hr; rcases hr with rfl | rfl | rfl <;> first | (simp [Res.reads] at hg; done) | exact .inr ⟨_, by simp, .inr hg⟩)
   simp only [List.cons_append, List.nil_append] at hS
   try simp only [opv, n1, n2, n3, n4, Value.cells]
   refine s_go (s_eql) ?_
   try simp only [opv, n1, n2, n3, n4, Value.cells]
   refine s_go (s_assign) ?_
   try simp only [opv, n1, n2, n3, n4, Value.cells]
   refine s_go (s_assign) ?_
   try simp only [opv, n1, n2, n3, n4, Value.cells]
   refine x_nil ?_
   refine hK6 _ _ ?_
   refine x_ret ?_
   refine r_tmp2 rfl ?_
   rw [hz]
   exact ⟨rfl, _, _, by assumption, by assumption, hS.sel (by repeat (first | exact Sel.nil | (refine Sel.cons (by repeat (exact Del.head)) ?_)))⟩
 ·
  try simp only [n3, n4]
  try simp only [decide_eq_true_eq, decide_eq_false_iff_not, Bool.not_eq_true', Bool.not_eq_false', Int.not_lt, Int.not_le, ne_eq, Decidable.not_not] at hp1
  have hE : ¬ (numS 4294967295 e xs).2.1 = 0 := by simpa using hp1
  have hz := askS_err (b := decide ((numS 4294967295 e xs).1 = 0)) (w := e2) hE
  refine g_off (yi (t := 16) rfl rfl) ?_
  try simp only [opv, n1, n2, n3, n4, Value.cells]
  refine g_off (yi (t := 16) rfl rfl) ?_
  try simp only [opv, n1, n2, n3, n4, Value.cells]
  refine g_off (yi (t := 16) rfl rfl) ?_
  try simp only [opv, n1, n2, n3, n4, Value.cells]
  refine g_off (yi (t := 16) rfl rfl) ?_
  try simp only [opv, n1, n2, n3, n4, Value.cells]
  refine s_go (s_pick_f) ?_
  try simp only [opv, n1, n2, n3, n4, Value.cells]
  refine x_nil ?_
  refine hK4 _ _ ?_
  refine x_cond_f (h := ?_)
  skip
  refine x_skip ?_
  refine hK3 _ _ ?_
  refine x_seq fun K7 hK7 => ?_
  refine x_region ?_
  refine s_go (s_move) ?_
  try simp only [opv, n1, n2, n3, n4, Value.cells]
  refine s_go (s_move) ?_
  try simp only [opv, n1, n2, n3, n4, Value.cells]
  refine s_call en150 ?_
  try simp only [opv, n1, n2, n3, n4, Value.cells, List.map_toArray, List.map_cons, List.map_nil, List.append_toArray, List.cons_append, List.nil_append, Array.append_empty]
  refine CallR.mono (c_cErr2 (hS.owns (by repeat (first | exact Spl.nil | (apply Spl.cons (by repeat (exact Del.head)))))) (by assumption)) ?_
  rintro _ w7 ⟨rfl, hC7⟩
  replace hS := hS.frame (by repeat (first | exact Spl.nil | (apply Spl.cons (by repeat (exact Del.head))))) hC7 (by intro r hr g hg; simp only [List.mem_cons, List.not_mem_nil, or_false] at hr; rcases hr with rfl | rfl | rfl <;> first | (simp [Res.reads] at hg; done) | exact .inr ⟨_, by simp, .inr hg⟩)
  simp only [List.cons_append, List.nil_append] at hS
  try simp only [opv, n1, n2, n3, n4, Value.cells]
  refine s_go (s_eql) ?_
  try simp only [opv, n1, n2, n3, n4, Value.cells]
  refine s_go (s_assign) ?_
  try simp only [opv, n1, n2, n3, n4, Value.cells]
  refine s_go (s_assign) ?_
  try simp only [opv, n1, n2, n3, n4, Value.cells]
  refine x_nil ?_
  refine hK7 _ _ ?_
  refine x_ret ?_
  refine r_tmp2 rfl ?_
  rw [hz]
  exact ⟨rfl, _, _, by assumption, by assumption, hS.sel (by repeat (first | exact Sel.nil | (refine Sel.cons (by repeat (exact Del.head)) ?_)))⟩
end Go.Proofs.YtffmanidnlbjjaaGreat
