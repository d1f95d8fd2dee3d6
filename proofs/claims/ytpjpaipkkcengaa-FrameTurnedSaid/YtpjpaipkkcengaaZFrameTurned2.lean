/- Rules, plain words and walks that the claim leans on: Df, Dg, Vz, Vo, Popen, Prows, Dh, Pframe, Dv, Pcrc, Cc, Ce, Cf, Pburst, Cg, Dw, Dx, Dy. -/
import Derived.Test.YtpjpaipkkcengaaZFrameTurned1
set_option linter.unusedSimpArgs false
set_option linter.unusedVariables false
set_option linter.unusedSimpArgs false
set_option linter.unusedVariables false
set_option maxHeartbeats 800000
set_option maxRecDepth 100000
namespace Go.Proofs.Ytpjpaipkkcengaa
open Go.RowKit

theorem RdIn.trans {w0 w1 : World} {M M1 L R : List Res} {A : Option Addr} {n : Nat} (_hM : St (OwnB M) w0 w0 M) (hS : St (OwnB M) w0 w1 L) (hs : Spl M1 L R) (h : RdIn w1 M1 A n) (hm : ∀ s ∈ M1, ∀ b, s.reads = some b → w0.heap.size ≤ b ∨ ∃ s ∈ M, s.own = some b ∨ s.reads = some b) : RdIn w0 M A n := fun b hb => by
  have hz := hS.keep.size
  rcases h b hb with h1 | ⟨s, h1, h2 | h2⟩
  · exact .inl (by omega)
  · rcases hS.own s (hs.mem h1) b h2 with ⟨r, hr, ho⟩ | h3
    · exact .inr ⟨r, hr, .inl ho⟩
    · exact .inl h3
  · exact hm s h1 b h2
theorem RdIn.self {w0 : World} {M : List Res} {A : Option Addr} {n : Nat} {xs : List Value} (hm : Res.rd A 1 n xs ∈ M) : RdIn w0 M A n := fun b hb => .inr ⟨_, hm, .inr hb⟩
theorem errE0 (x : Int) : errE 0 x = x := rfl
theorem errX0 {x : Int} {xs : List Int} (h : ¬ x = 0) : errX 0 x xs = [] := by simp [errX, errE, h]
theorem numS_bad {m : Nat} {e : Int} {xs : List Int} (h : ¬ (numS m e xs).2.1 = 0) : (numS m e xs).1 = 0 := by
  unfold numS at h ⊢
  repeat' split
  all_goals first | rfl | (exfalso; simp_all)
theorem oneS_bad {e : Int} {xs : List Int} (h : ¬ (oneS e xs).2.1 = 0) : (oneS e xs).1 = 0 := by
  unfold oneS at h ⊢
  repeat' split
  all_goals first | rfl | (exfalso; simp_all)
theorem bytS_bad {m : Nat} {e : Int} {xs : List Int} (h : ¬ (bytS m e xs).2.1 = 0) : (bytS m e xs).1 = [] := by
  unfold bytS at h ⊢
  repeat' split
  all_goals first | rfl | (exfalso; simp_all)
theorem oneS_take (xs : List Int) : oneS 0 xs = (oneV xs, takeE 0 xs 1, takeX 0 xs 1) := by
  unfold oneS oneV takeE takeX
  simp only [if_true]
  split
  · rfl
  · rw [errE0, errX0 (by decide)]
theorem max_u64 {m : Int} (h : m ≤ 9223372036854775807) : IntKind.u64.wrap (max m 0) = ((m.toNat : Nat) : Int) := by
  rw [Int.ofNat_toNat]; exact wr_u64 (by omega) (by omega)

theorem c_cnum1 (w0 : World) (g : Nat) (A : Option Addr) (c : Nat) (xs : List Int) (hc : xs.length ≤ c) (hw : Byt xs) (hn : xs.length ≤ 1000000000) (b : Nat) (m : Nat) (hm : m < 18446744073709551616) (hM : St (OwnB [.obj g (.cells #[.int .i64 0, .slice A xs.length c] 162 (0, 0)), .rd A 1 xs.length (xs.map (Value.int .u8)), .obj b (.cells #[.int .u64 (m : Int)] 40 (0, 0))]) w0 w0 [.obj g (.cells #[.int .i64 0, .slice A xs.length c] 162 (0, 0)), .rd A 1 xs.length (xs.map (Value.int .u8)), .obj b (.cells #[.int .u64 (m : Int)] 40 (0, 0))]) :
    CallR Try.prog 195 #[.pointer (some ⟨g, 0, none⟩), .pointer (some ⟨b, 0, none⟩)] w0 fun v w' => ∃ x : Nat, v = .int .u64 (x : Int) ∧ ((numS m 0 xs).2.1 = 0 → x = (numS m 0 xs).1) ∧ CuSt w0 w' [.obj g (.cells #[.int .i64 0, .slice A xs.length c] 162 (0, 0)), .rd A 1 xs.length (xs.map (Value.int .u8)), .obj b (.cells #[.int .u64 (m : Int)] 40 (0, 0))] g (numS m 0 xs).2.1 (numS m 0 xs).2.2 [.obj b (.cells #[.int .u64 (m : Int)] 40 (0, 0))] := by
 have hS := hM
 have hul := unvar_lt hw
 refine c_enter (l := [.pointer (some ⟨g, 0, none⟩), .pointer (some ⟨b, 0, none⟩), undef, undef, undef, undef, undef, undef, undef, undef, undef, undef, undef, undef, undef, undef, undef, undef, undef, undef, undef, undef, undef, undef, undef, undef, undef, undef, undef, undef, undef, undef]) Try.func195 rfl (by simp only [Try.ntmps195, List.size_toArray, List.length_cons, List.length_nil, Nat.reduceAdd, Nat.reduceSub, Array.replicate_succ, Array.replicate_zero, List.push_toArray, List.append_toArray, List.nil_append, List.cons_append]) ?_
 refine x_seq fun K1 hK1 => ?_
 refine x_region ?_
 refine s_go (s_assign) ?_
 try simp only [opv, n1, n2, n3, n4, Value.cells]
 refine x_nil ?_
 refine hK1 _ _ ?_
 refine x_seq fun K2 hK2 => ?_
 refine x_region ?_
 refine s_go (s_move) ?_
 try simp only [opv, n1, n2, n3, n4, Value.cells]
 refine s_go (s_nilCheck) ?_
 try simp only [opv, n1, n2, n3, n4, Value.cells]
 refine s_go (m_fieldAddr Try.underlying162 (hi := ti43)) ?_
 try simp only [opv, n1, n2, n3, n4, Value.cells, Nat.zero_add, Nat.add_zero, List.getElem_toArray, List.getElem_cons_zero, List.getElem_cons_succ]
 refine s_go (m_load_obj Try.underlying43 (hS := hS)) ?_
 try simp only [opv, n1, n2, n3, n4, Value.cells, List.getElem_toArray, List.getElem_cons_zero, List.getElem_cons_succ]
 refine s_call en196 ?_
 try simp only [opv, n1, n2, n3, n4, Value.cells, List.map_toArray, List.map_cons, List.map_nil, List.append_toArray, List.cons_append, List.nil_append, Array.append_empty]
 refine CallR.mono (c_packUnvar _ A _ c xs (hS.hasRd (by repeat (first | exact Has.head | apply Has.tail))) rfl hw (by omega) hc) ?_
 rintro _ w1 ⟨rfl, hE1⟩
 replace hS := hS.ext hE1
 try simp only [opv, n1, n2, n3, n4, Value.cells]
 unfold UnvP
 refine s_go (s_move) ?_
 try simp only [opv, n1, n2, n3, n4, Value.cells]
 refine s_go (s_extract (hv := rfl)) ?_
 try simp only [List.getElem_toArray, List.getElem_cons_zero, List.getElem_cons_succ]
 try simp only [opv, n1, n2, n3, n4, Value.cells]
 refine s_go (s_extract (hv := rfl)) ?_
 try simp only [List.getElem_toArray, List.getElem_cons_zero, List.getElem_cons_succ]
 try simp only [opv, n1, n2, n3, n4, Value.cells]
 refine s_go (s_extract (hv := rfl)) ?_
 try simp only [List.getElem_toArray, List.getElem_cons_zero, List.getElem_cons_succ]
 try simp only [opv, n1, n2, n3, n4, Value.cells]
 refine s_go (s_assign) ?_
 try simp only [opv, n1, n2, n3, n4, Value.cells]
 refine s_go (s_assign) ?_
 try simp only [opv, n1, n2, n3, n4, Value.cells]
 refine s_go (s_assign) ?_
 try simp only [opv, n1, n2, n3, n4, Value.cells]
 refine x_nil ?_
 refine hK2 _ _ ?_
 refine x_seq fun K3 hK3 => ?_
 refine x_block ?_
 refine x_seq fun K4 hK4 => ?_
 refine x_region ?_
 refine s_go (s_move) ?_
 try simp only [opv, n1, n2, n3, n4, Value.cells]
 refine s_go (s_neq) ?_
 try simp only [opv, n1, n2, n3, n4, Value.cells]
 refine s_go (s_assign) ?_
 try simp only [opv, n1, n2, n3, n4, Value.cells]
 refine x_nil ?_
 refine hK4 _ _ ?_
 refine x_cond (ht := fun hc1 => ?_) (hf := fun hc1 => ?_)
 ·
  try simp only [decide_eq_true_eq, decide_eq_false_iff_not, Bool.not_eq_true', Bool.not_eq_false', Int.not_lt, Int.not_le, ne_eq, Decidable.not_not, bne_iff_ne, beq_iff_eq, not_true_eq_false, not_false_eq_true] at hc1
  have hN : numS m 0 xs = (0, ((unvar xs).2.2 : Int), []) := by simp only [numS, if_true]; rw [if_neg (by omega)]
  refine x_region ?_
  refine s_go (s_move) ?_
  try simp only [opv, n1, n2, n3, n4, Value.cells]
  refine s_go (s_move) ?_
  try simp only [opv, n1, n2, n3, n4, Value.cells]
  refine s_call en126 ?_
  try simp only [opv, n1, n2, n3, n4, Value.cells, List.map_toArray, List.map_cons, List.map_nil, List.append_toArray, List.cons_append, List.nil_append, Array.append_empty]
  refine CallR.mono (c_cerr _ g 0 A c xs hc ((unvar xs).2.2 : Int) (hS.owns (by repeat (first | exact Spl.nil | (apply Spl.cons (by repeat (exact Del.head))))))) ?_
  rintro _ w2 ⟨rfl, A2, c2, hcp2, hR2, hC2⟩
  have hY2 := RdIn.trans hM hS (by repeat (first | exact Spl.nil | (apply Spl.cons (by repeat (exact Del.head))))) hR2 (by intro s hs q hb; simp only [List.mem_cons, List.not_mem_nil, or_false] at hs; rcases hs with rfl | rfl <;> first | (simp [Res.reads] at hb; done) | exact .inr ⟨_, List.mem_cons_of_mem _ (List.mem_cons_self ..), .inr hb⟩)
  replace hS := hS.frame (by repeat (first | exact Spl.nil | (apply Spl.cons (by repeat (exact Del.head))))) hC2 (by intro r hr b hb; simp only [List.mem_cons, List.not_mem_nil, or_false] at hr; rcases hr with rfl | rfl <;> first | (simp [Res.reads] at hb; done) | exact hR2 b hb)
  replace hR2 := hY2
  simp only [List.cons_append, List.nil_append] at hS
  simp only [errE0, errX0 hc1] at hS hcp2 hR2
  try simp only [opv, n1, n2, n3, n4, Value.cells]
  refine x_nil ?_
  refine hK3 _ _ ?_
  refine x_seq fun K5 hK5 => ?_
  refine x_region ?_
  refine s_go (s_move) ?_
  try simp only [opv, n1, n2, n3, n4, Value.cells]
  refine s_go (s_assign) ?_
  try simp only [opv, n1, n2, n3, n4, Value.cells]
  refine x_nil ?_
  refine hK5 _ _ ?_
  refine x_ret ?_
  refine r_tmp rfl ?_
  exact ⟨_, rfl, fun h => by rw [hN] at h; exact absurd h hc1, _, _, by rw [hN]; assumption, by rw [hN]; assumption, by rw [hN]; exact hS.sel (by repeat (first | exact Sel.nil | (refine Sel.cons (by repeat (exact Del.head)) ?_)))⟩
 ·
  try simp only [decide_eq_true_eq, decide_eq_false_iff_not, Bool.not_eq_true', Bool.not_eq_false', Int.not_lt, Int.not_le, ne_eq, Decidable.not_not, bne_iff_ne, beq_iff_eq, not_true_eq_false, not_false_eq_true] at hc1
  have h0 : (unvar xs).2.2 = 0 := by omega
  refine x_seq fun K6 hK6 => ?_
  refine x_region ?_
  refine s_go (s_move) ?_
  try simp only [opv, n1, n2, n3, n4, Value.cells]
  refine s_go (m_load_obj Try.underlying40 (hS := hS)) ?_
  try simp only [opv, n1, n2, n3, n4, Value.cells, List.getElem_toArray, List.getElem_cons_zero, List.getElem_cons_succ]
  refine s_go (s_gtr) ?_
  try simp only [opv, n1, n2, n3, n4, Value.cells]
  refine s_go (s_assign) ?_
  try simp only [opv, n1, n2, n3, n4, Value.cells]
  refine x_nil ?_
  refine hK6 _ _ ?_
  refine x_cond (ht := fun hc2 => ?_) (hf := fun hc2 => ?_)
  ·
   try simp only [decide_eq_true_eq, decide_eq_false_iff_not, Bool.not_eq_true', Bool.not_eq_false', Int.not_lt, Int.not_le, ne_eq, Decidable.not_not, bne_iff_ne, beq_iff_eq, not_true_eq_false, not_false_eq_true] at hc2
   have hN : numS m 0 xs = (0, 2, []) := by simp only [numS, if_true]; rw [if_pos h0, if_neg (by omega)]
   refine x_region ?_
   refine s_go (s_move) ?_
   try simp only [opv, n1, n2, n3, n4, Value.cells]
   refine s_call en126 ?_
   try simp only [opv, n1, n2, n3, n4, Value.cells, List.map_toArray, List.map_cons, List.map_nil, List.append_toArray, List.cons_append, List.nil_append, Array.append_empty]
   refine CallR.mono (c_cerr _ g 0 A c xs hc 2 (hS.owns (by repeat (first | exact Spl.nil | (apply Spl.cons (by repeat (exact Del.head))))))) ?_
   rintro _ w3 ⟨rfl, A3, c3, hcp3, hR3, hC3⟩
   have hY3 := RdIn.trans hM hS (by repeat (first | exact Spl.nil | (apply Spl.cons (by repeat (exact Del.head))))) hR3 (by intro s hs q hb; simp only [List.mem_cons, List.not_mem_nil, or_false] at hs; rcases hs with rfl | rfl <;> first | (simp [Res.reads] at hb; done) | exact .inr ⟨_, List.mem_cons_of_mem _ (List.mem_cons_self ..), .inr hb⟩)
   replace hS := hS.frame (by repeat (first | exact Spl.nil | (apply Spl.cons (by repeat (exact Del.head))))) hC3 (by intro r hr b hb; simp only [List.mem_cons, List.not_mem_nil, or_false] at hr; rcases hr with rfl | rfl <;> first | (simp [Res.reads] at hb; done) | exact hR3 b hb)
   replace hR3 := hY3
   simp only [List.cons_append, List.nil_append] at hS
   simp only [errE0, errX0 (show ¬ (2 : Int) = 0 by decide)] at hS hcp3 hR3
   try simp only [opv, n1, n2, n3, n4, Value.cells]
   refine x_nil ?_
   refine hK3 _ _ ?_
   refine x_seq fun K7 hK7 => ?_
   refine x_region ?_
   refine s_go (s_move) ?_
   try simp only [opv, n1, n2, n3, n4, Value.cells]
   refine s_go (s_assign) ?_
   try simp only [opv, n1, n2, n3, n4, Value.cells]
   refine x_nil ?_
   refine hK7 _ _ ?_
   refine x_ret ?_
   refine r_tmp rfl ?_
   exact ⟨_, rfl, fun h => by rw [hN] at h; exact absurd h (by decide), _, _, by rw [hN]; assumption, by rw [hN]; assumption, by rw [hN]; exact hS.sel (by repeat (first | exact Sel.nil | (refine Sel.cons (by repeat (exact Del.head)) ?_)))⟩
  ·
   try simp only [decide_eq_true_eq, decide_eq_false_iff_not, Bool.not_eq_true', Bool.not_eq_false', Int.not_lt, Int.not_le, ne_eq, Decidable.not_not, bne_iff_ne, beq_iff_eq, not_true_eq_false, not_false_eq_true] at hc2
   have hN : numS m 0 xs = ((unvar xs).1, 0, xs.drop (unvar xs).2.1) := by simp only [numS, if_true]; rw [if_pos h0, if_pos (by omega)]
   have hub := (unvar_back hw h0).1
   refine x_region ?_
   refine s_go (s_move) ?_
   try simp only [opv, n1, n2, n3, n4, Value.cells]
   refine s_go (s_move) ?_
   try simp only [opv, n1, n2, n3, n4, Value.cells]
   refine s_call en197 ?_
   try simp only [opv, n1, n2, n3, n4, Value.cells, List.map_toArray, List.map_cons, List.map_nil, List.append_toArray, List.cons_append, List.nil_append, Array.append_empty]
   refine CallR.mono (c_ctake _ g 0 A c xs hc (unvar xs).2.1 (by omega) (hS.owns (by repeat (first | exact Spl.nil | (apply Spl.cons (by repeat (exact Del.head))))))) ?_
   rintro _ w4 ⟨A4, c4, B4, rfl, hcp4, hR4, hQ4, hC4⟩
   have hY4 := RdIn.trans hM hS (by repeat (first | exact Spl.nil | (apply Spl.cons (by repeat (exact Del.head))))) hR4 (by intro s hs q hb; simp only [List.mem_cons, List.not_mem_nil, or_false] at hs; rcases hs with rfl | rfl <;> first | (simp [Res.reads] at hb; done) | exact .inr ⟨_, List.mem_cons_of_mem _ (List.mem_cons_self ..), .inr hb⟩)
   replace hS := hS.frame (by repeat (first | exact Spl.nil | (apply Spl.cons (by repeat (exact Del.head))))) hC4 (by intro r hr b hb; simp only [List.mem_cons, List.not_mem_nil, or_false] at hr; rcases hr with rfl | rfl | rfl <;> first | (simp [Res.reads] at hb; done) | exact hR4 b hb | exact hQ4 b hb)
   simp only [List.cons_append, List.nil_append] at hS
   replace hR4 := hY4
   rw [takeE, if_pos hub] at hS
   rw [takeX, if_pos hub] at hS hcp4 hR4
   try simp only [opv, n1, n2, n3, n4, Value.cells]
   refine x_nil ?_
   refine hK3 _ _ ?_
   refine x_seq fun K8 hK8 => ?_
   refine x_region ?_
   refine s_go (s_move) ?_
   try simp only [opv, n1, n2, n3, n4, Value.cells]
   refine s_go (s_assign) ?_
   try simp only [opv, n1, n2, n3, n4, Value.cells]
   refine x_nil ?_
   refine hK8 _ _ ?_
   refine x_ret ?_
   refine r_tmp rfl ?_
   exact ⟨_, rfl, fun h => by rw [hN] at h; rw [hN], _, _, by rw [hN]; assumption, by rw [hN]; assumption, by rw [hN]; exact hS.sel (by repeat (first | exact Sel.nil | (refine Sel.cons (by repeat (first | exact Del.head | apply Del.tail)) ?_)))⟩
theorem c_onceN (w0 : World) (g : Nat) (e : Int) (A : Option Addr) (c : Nat) (xs : List Int) (hc : xs.length ≤ c) (hw : Byt xs) (hn : xs.length ≤ 1000000000) (b : Nat) (m : Nat) (hm : m < 18446744073709551616) (hM : St (OwnB [.obj g (.cells #[.int .i64 e, .slice A xs.length c] 162 (0, 0)), .rd A 1 xs.length (xs.map (Value.int .u8)), .obj b (.cells #[.int .u64 (m : Int)] 40 (0, 0))]) w0 w0 [.obj g (.cells #[.int .i64 e, .slice A xs.length c] 162 (0, 0)), .rd A 1 xs.length (xs.map (Value.int .u8)), .obj b (.cells #[.int .u64 (m : Int)] 40 (0, 0))]) :
    CallR Try.prog 194 #[.pointer (some ⟨g, 0, none⟩), .func (.func 195) #[] #[.pointer (some ⟨b, 0, none⟩)]] w0 fun v w' => v = .int .u64 ((numS m e xs).1 : Int) ∧ CuSt w0 w' [.obj g (.cells #[.int .i64 e, .slice A xs.length c] 162 (0, 0)), .rd A 1 xs.length (xs.map (Value.int .u8)), .obj b (.cells #[.int .u64 (m : Int)] 40 (0, 0))] g (numS m e xs).2.1 (numS m e xs).2.2 [.obj b (.cells #[.int .u64 (m : Int)] 40 (0, 0))] := by
 have hS := hM
 refine c_enter (l := [.pointer (some ⟨g, 0, none⟩), .func (.func 195) #[] #[.pointer (some ⟨b, 0, none⟩)], undef, undef, undef, undef, undef, undef, undef, undef, undef, undef, undef, undef, undef, undef, undef, undef]) Try.func194 rfl (by simp only [Try.ntmps194, List.size_toArray, List.length_cons, List.length_nil, Nat.reduceAdd, Nat.reduceSub, Array.replicate_succ, Array.replicate_zero, List.push_toArray, List.append_toArray, List.nil_append, List.cons_append]) ?_
 refine x_seq fun K1 hK1 => ?_
 refine x_region ?_
 refine s_go (s_assign) ?_
 try simp only [opv, n1, n2, n3, n4, Value.cells]
 refine x_nil ?_
 refine hK1 _ _ ?_
 refine x_seq fun K2 hK2 => ?_
 refine x_region ?_
 refine s_go (s_assign) ?_
 try simp only [opv, n1, n2, n3, n4, Value.cells]
 refine x_nil ?_
 refine hK2 _ _ ?_
 refine x_seq fun K3 hK3 => ?_
 refine x_seq fun K4 hK4 => ?_
 refine x_region ?_
 refine s_go (s_move) ?_
 try simp only [opv, n1, n2, n3, n4, Value.cells]
 refine s_call en204 ?_
 try simp only [opv, n1, n2, n3, n4, Value.cells, List.map_toArray, List.map_cons, List.map_nil, List.append_toArray, List.cons_append, List.nil_append, Array.append_empty]
 refine CallR.mono (c_cwell _ g (e) A c (xs) hc (hS.owns (by repeat (first | exact Spl.nil | (apply Spl.cons (by repeat (exact Del.head))))))) ?_
 rintro _ w1 ⟨rfl, hC1⟩
 replace hS := hS.frame (by repeat (first | exact Spl.nil | (apply Spl.cons (by repeat (exact Del.head))))) hC1 (by intro r hr g hg; simp only [List.mem_cons, List.not_mem_nil, or_false] at hr; rcases hr with rfl | rfl | rfl <;> first | (simp [Res.reads] at hg; done) | exact .inr ⟨_, by simp, .inr hg⟩)
 simp only [List.cons_append, List.nil_append] at hS
 try simp only [opv, n1, n2, n3, n4, Value.cells]
 refine s_go (s_not) ?_
 try simp only [opv, n1, n2, n3, n4, Value.cells]
 refine x_nil ?_
 refine hK4 _ _ ?_
 refine x_cond (ht := fun hc1 => ?_) (hf := fun hc1 => ?_)
 ·
  try simp only [decide_eq_true_eq, decide_eq_false_iff_not, Bool.not_eq_true', Bool.not_eq_false', Int.not_lt, Int.not_le, ne_eq, Decidable.not_not, bne_iff_ne, beq_iff_eq, not_true_eq_false, not_false_eq_true] at hc1
  have hN := numS_err (m := m) (xs := xs) (by simpa using hc1)
  refine x_seq fun K5 hK5 => ?_
  refine x_region ?_
  refine s_go (s_move) ?_
  try simp only [opv, n1, n2, n3, n4, Value.cells]
  refine s_go (s_assign) ?_
  try simp only [opv, n1, n2, n3, n4, Value.cells]
  refine x_nil ?_
  refine hK5 _ _ ?_
  refine x_ret ?_
  refine r_tmp rfl ?_
  exact ⟨by rw [hN]; rfl, A, c, by rw [hN]; exact hc, by rw [hN]; exact RdIn.self (List.mem_cons_of_mem _ (List.mem_cons_self ..)), by rw [hN]; exact hS.sel (by repeat (first | exact Sel.nil | (refine Sel.cons (by repeat (exact Del.head)) ?_)))⟩
 ·
  try simp only [decide_eq_true_eq, decide_eq_false_iff_not, Bool.not_eq_true', Bool.not_eq_false', Int.not_lt, Int.not_le, ne_eq, Decidable.not_not, bne_iff_ne, beq_iff_eq, not_true_eq_false, not_false_eq_true] at hc1
  have he0 : e = 0 := by simpa using hc1
  subst he0
  refine x_skip ?_
  refine hK3 _ _ ?_
  refine x_seq fun K6 hK6 => ?_
  refine x_seq fun K7 hK7 => ?_
  refine x_region ?_
  refine s_go (s_move) ?_
  try simp only [opv, n1, n2, n3, n4, Value.cells]
  refine s_go (s_move) ?_
  try simp only [opv, n1, n2, n3, n4, Value.cells]
  refine s_callv (hv := rfl) en195 ?_
  try simp only [opv, n1, n2, n3, n4, Value.cells, List.map_toArray, List.map_cons, List.map_nil, List.append_toArray, List.cons_append, List.nil_append, Array.append_empty]
  refine CallR.mono (c_cnum1 _ g A c xs hc hw hn b m hm (hS.owns (by repeat (first | exact Spl.nil | (apply Spl.cons (by repeat (exact Del.head))))))) ?_
  rintro _ w2 ⟨x, rfl, hx, A2, c2, hcp2, hR2, hC2⟩
  have hY2 := RdIn.trans hM hS (by repeat (first | exact Spl.nil | (apply Spl.cons (by repeat (exact Del.head))))) hR2 (by intro s hs q hb; simp only [List.mem_cons, List.not_mem_nil, or_false] at hs; rcases hs with rfl | rfl | rfl <;> first | (simp [Res.reads] at hb; done) | exact .inr ⟨_, List.mem_cons_of_mem _ (List.mem_cons_self ..), .inr hb⟩)
  replace hS := hS.frame (by repeat (first | exact Spl.nil | (apply Spl.cons (by repeat (exact Del.head))))) hC2 (by intro r hr b hb; simp only [List.mem_cons, List.not_mem_nil, or_false] at hr; rcases hr with rfl | rfl | rfl <;> first | (simp [Res.reads] at hb; done) | exact hR2 b hb)
  replace hR2 := hY2
  simp only [List.cons_append, List.nil_append] at hS
  try simp only [opv, n1, n2, n3, n4, Value.cells]
  refine s_go (s_assign) ?_
  try simp only [opv, n1, n2, n3, n4, Value.cells]
  refine x_nil ?_
  refine hK7 _ _ ?_
  refine x_seq fun K8 hK8 => ?_
  refine x_region ?_
  refine s_go (s_move) ?_
  try simp only [opv, n1, n2, n3, n4, Value.cells]
  refine s_call en204 ?_
  try simp only [opv, n1, n2, n3, n4, Value.cells, List.map_toArray, List.map_cons, List.map_nil, List.append_toArray, List.cons_append, List.nil_append, Array.append_empty]
  refine CallR.mono (c_cwell _ g ((numS m 0 xs).2.1) A2 c2 ((numS m 0 xs).2.2) hcp2 (hS.owns (by repeat (first | exact Spl.nil | (apply Spl.cons (by repeat (exact Del.head))))))) ?_
  rintro _ w3 ⟨rfl, hC3⟩
  replace hS := hS.frame (by repeat (first | exact Spl.nil | (apply Spl.cons (by repeat (exact Del.head))))) hC3 (by intro r hr g hg; simp only [List.mem_cons, List.not_mem_nil, or_false] at hr; rcases hr with rfl | rfl | rfl <;> first | (simp [Res.reads] at hg; done) | exact .inr ⟨_, by simp, .inr hg⟩)
  simp only [List.cons_append, List.nil_append] at hS
  try simp only [opv, n1, n2, n3, n4, Value.cells]
  refine x_nil ?_
  refine hK8 _ _ ?_
  refine x_cond (ht := fun hc2 => ?_) (hf := fun hc2 => ?_)
  ·
   try simp only [decide_eq_true_eq, decide_eq_false_iff_not, Bool.not_eq_true', Bool.not_eq_false', Int.not_lt, Int.not_le, ne_eq, Decidable.not_not, bne_iff_ne, beq_iff_eq, not_true_eq_false, not_false_eq_true] at hc2
   have hx1 := hx (by simpa using hc2)
   refine x_seq fun K9 hK9 => ?_
   refine x_region ?_
   refine s_go (s_move) ?_
   try simp only [opv, n1, n2, n3, n4, Value.cells]
   refine s_go (s_assign) ?_
   try simp only [opv, n1, n2, n3, n4, Value.cells]
   refine x_nil ?_
   refine hK9 _ _ ?_
   refine x_ret ?_
   refine r_tmp rfl ?_
   exact ⟨by rw [← hx1]; rfl, _, _, by assumption, by assumption, hS.sel (by repeat (first | exact Sel.nil | (refine Sel.cons (by repeat (exact Del.head)) ?_)))⟩
  ·
   try simp only [decide_eq_true_eq, decide_eq_false_iff_not, Bool.not_eq_true', Bool.not_eq_false', Int.not_lt, Int.not_le, ne_eq, Decidable.not_not, bne_iff_ne, beq_iff_eq, not_true_eq_false, not_false_eq_true] at hc2
   have hx0 := numS_bad (by simpa using hc2)
   refine x_skip ?_
   refine hK6 _ _ ?_
   refine x_seq fun K10 hK10 => ?_
   refine x_region ?_
   refine s_go (s_move) ?_
   try simp only [opv, n1, n2, n3, n4, Value.cells]
   refine s_go (s_assign) ?_
   try simp only [opv, n1, n2, n3, n4, Value.cells]
   refine x_nil ?_
   refine hK10 _ _ ?_
   refine x_ret ?_
   refine r_tmp rfl ?_
   exact ⟨by rw [hx0]; rfl, _, _, by assumption, by assumption, hS.sel (by repeat (first | exact Sel.nil | (refine Sel.cons (by repeat (exact Del.head)) ?_)))⟩
theorem c_cNum (w0 : World) (g : Nat) (e : Int) (A : Option Addr) (c : Nat) (xs : List Int) (hc : xs.length ≤ c) (hw : Byt xs) (hn : xs.length ≤ 1000000000) (m : Nat) (hm : m < 18446744073709551616) (hM : St (OwnB [.obj g (.cells #[.int .i64 e, .slice A xs.length c] 162 (0, 0)), .rd A 1 xs.length (xs.map (Value.int .u8))]) w0 w0 [.obj g (.cells #[.int .i64 e, .slice A xs.length c] 162 (0, 0)), .rd A 1 xs.length (xs.map (Value.int .u8))]) :
    CallR Try.prog 122 #[.pointer (some ⟨g, 0, none⟩), .int .u64 (m : Int)] w0 fun v w' => v = .int .u64 ((numS m e xs).1 : Int) ∧ CuSt w0 w' [.obj g (.cells #[.int .i64 e, .slice A xs.length c] 162 (0, 0)), .rd A 1 xs.length (xs.map (Value.int .u8))] g (numS m e xs).2.1 (numS m e xs).2.2 [] := by
 have hS := hM
 refine c_enter (l := [.pointer (some ⟨g, 0, none⟩), .int .u64 (m : Int), undef, undef, undef, undef, undef, undef]) Try.func122 rfl (by simp only [Try.ntmps122, List.size_toArray, List.length_cons, List.length_nil, Nat.reduceAdd, Nat.reduceSub, Array.replicate_succ, Array.replicate_zero, List.push_toArray, List.append_toArray, List.nil_append, List.cons_append]) ?_
 refine x_seq fun K1 hK1 => ?_
 refine x_region ?_
 refine m_box hS (fun w1 g1 hS => ?_)
 try simp only [opv, n1, n2, n3, n4, Value.cells, Array.toArray_toList] at hS ⊢
 refine s_go (s_assign) ?_
 try simp only [opv, n1, n2, n3, n4, Value.cells]
 refine x_nil ?_
 refine hK1 _ _ ?_
 refine x_seq fun K2 hK2 => ?_
 refine x_region ?_
 refine s_go (s_move) ?_
 try simp only [opv, n1, n2, n3, n4, Value.cells]
 refine s_go (s_makeFunc) ?_
 try simp only [opv, n1, n2, n3, n4, Value.cells, List.map_toArray, List.map_cons, List.map_nil]
 refine s_call en194 ?_
 try simp only [opv, n1, n2, n3, n4, Value.cells, List.map_toArray, List.map_cons, List.map_nil, List.append_toArray, List.cons_append, List.nil_append, Array.append_empty]
 refine CallR.mono (c_onceN _ g e A c xs hc hw hn _ m hm (hS.owns (by repeat (first | exact Spl.nil | (apply Spl.cons (by repeat (first | exact Del.head | apply Del.tail))))))) ?_
 rintro _ w2 ⟨rfl, A2, c2, hcp2, hR2, hC2⟩
 have hY2 := RdIn.trans hM hS (by repeat (first | exact Spl.nil | (apply Spl.cons (by repeat (first | exact Del.head | apply Del.tail))))) hR2 (by intro s hs q hb; simp only [List.mem_cons, List.not_mem_nil, or_false] at hs; rcases hs with rfl | rfl | rfl <;> first | (simp [Res.reads] at hb; done) | exact .inr ⟨_, List.mem_cons_of_mem _ (List.mem_cons_self ..), .inr hb⟩)
 replace hS := hS.frame (by repeat (first | exact Spl.nil | (apply Spl.cons (by repeat (first | exact Del.head | apply Del.tail))))) hC2 (by intro r hr b hb; simp only [List.mem_cons, List.not_mem_nil, or_false] at hr; rcases hr with rfl | rfl | rfl <;> first | (simp [Res.reads] at hb; done) | exact hR2 b hb)
 replace hR2 := hY2
 simp only [List.cons_append, List.nil_append] at hS
 try simp only [opv, n1, n2, n3, n4, Value.cells]
 refine s_go (s_assign) ?_
 try simp only [opv, n1, n2, n3, n4, Value.cells]
 refine x_nil ?_
 refine hK2 _ _ ?_
 refine x_ret ?_
 refine r_tmp rfl ?_
 exact ⟨rfl, _, _, by assumption, by assumption, hS.sel (by repeat (first | exact Sel.nil | (refine Sel.cons (by repeat (exact Del.head)) ?_)))⟩
theorem c_onceB (w0 : World) (g : Nat) (e : Int) (A : Option Addr) (c : Nat) (xs : List Int) (hc : xs.length ≤ c) (hw : Byt xs) (hn : xs.length ≤ 1000000000) (hM : St (OwnB [.obj g (.cells #[.int .i64 e, .slice A xs.length c] 162 (0, 0)), .rd A 1 xs.length (xs.map (Value.int .u8))]) w0 w0 [.obj g (.cells #[.int .i64 e, .slice A xs.length c] 162 (0, 0)), .rd A 1 xs.length (xs.map (Value.int .u8))]) :
    CallR Try.prog 198 #[.pointer (some ⟨g, 0, none⟩), .func (.func 199) #[] #[]] w0 fun v w' => v = .int .u8 (oneS e xs).1 ∧ CuSt w0 w' [.obj g (.cells #[.int .i64 e, .slice A xs.length c] 162 (0, 0)), .rd A 1 xs.length (xs.map (Value.int .u8))] g (oneS e xs).2.1 (oneS e xs).2.2 [] := by
 have hS := hM
 refine c_enter (l := [.pointer (some ⟨g, 0, none⟩), .func (.func 199) #[] #[], undef, undef, undef, undef, undef, undef, undef, undef, undef, undef, undef, undef, undef, undef, undef, undef]) Try.func198 rfl (by simp only [Try.ntmps198, List.size_toArray, List.length_cons, List.length_nil, Nat.reduceAdd, Nat.reduceSub, Array.replicate_succ, Array.replicate_zero, List.push_toArray, List.append_toArray, List.nil_append, List.cons_append]) ?_
 refine x_seq fun K1 hK1 => ?_
 refine x_region ?_
 refine s_go (s_assign) ?_
 try simp only [opv, n1, n2, n3, n4, Value.cells]
 refine x_nil ?_
 refine hK1 _ _ ?_
 refine x_seq fun K2 hK2 => ?_
 refine x_region ?_
 refine s_go (s_assign) ?_
 try simp only [opv, n1, n2, n3, n4, Value.cells]
 refine x_nil ?_
 refine hK2 _ _ ?_
 refine x_seq fun K3 hK3 => ?_
 refine x_seq fun K4 hK4 => ?_
 refine x_region ?_
 refine s_go (s_move) ?_
 try simp only [opv, n1, n2, n3, n4, Value.cells]
 refine s_call en204 ?_
 try simp only [opv, n1, n2, n3, n4, Value.cells, List.map_toArray, List.map_cons, List.map_nil, List.append_toArray, List.cons_append, List.nil_append, Array.append_empty]
 refine CallR.mono (c_cwell _ g (e) A c (xs) hc (hS.owns (by repeat (first | exact Spl.nil | (apply Spl.cons (by repeat (exact Del.head))))))) ?_
 rintro _ w1 ⟨rfl, hC1⟩
 replace hS := hS.frame (by repeat (first | exact Spl.nil | (apply Spl.cons (by repeat (exact Del.head))))) hC1 (by intro r hr g hg; simp only [List.mem_cons, List.not_mem_nil, or_false] at hr; rcases hr with rfl | rfl | rfl <;> first | (simp [Res.reads] at hg; done) | exact .inr ⟨_, by simp, .inr hg⟩)
 simp only [List.cons_append, List.nil_append] at hS
 try simp only [opv, n1, n2, n3, n4, Value.cells]
 refine s_go (s_not) ?_
 try simp only [opv, n1, n2, n3, n4, Value.cells]
 refine x_nil ?_
 refine hK4 _ _ ?_
 refine x_cond (ht := fun hc1 => ?_) (hf := fun hc1 => ?_)
 ·
  try simp only [decide_eq_true_eq, decide_eq_false_iff_not, Bool.not_eq_true', Bool.not_eq_false', Int.not_lt, Int.not_le, ne_eq, Decidable.not_not, bne_iff_ne, beq_iff_eq, not_true_eq_false, not_false_eq_true] at hc1
  have hN := oneS_err (xs := xs) (by simpa using hc1)
  refine x_seq fun K5 hK5 => ?_
  refine x_region ?_
  refine s_go (s_move) ?_
  try simp only [opv, n1, n2, n3, n4, Value.cells]
  refine s_go (s_assign) ?_
  try simp only [opv, n1, n2, n3, n4, Value.cells]
  refine x_nil ?_
  refine hK5 _ _ ?_
  refine x_ret ?_
  refine r_tmp rfl ?_
  exact ⟨by rw [hN]; rfl, A, c, by rw [hN]; exact hc, by rw [hN]; exact RdIn.self (List.mem_cons_of_mem _ (List.mem_cons_self ..)), by rw [hN]; exact hS.sel (by repeat (first | exact Sel.nil | (refine Sel.cons (by repeat (exact Del.head)) ?_)))⟩
 ·
  try simp only [decide_eq_true_eq, decide_eq_false_iff_not, Bool.not_eq_true', Bool.not_eq_false', Int.not_lt, Int.not_le, ne_eq, Decidable.not_not, bne_iff_ne, beq_iff_eq, not_true_eq_false, not_false_eq_true] at hc1
  have he0 : e = 0 := by simpa using hc1
  subst he0
  have hN := oneS_take xs
  refine x_skip ?_
  refine hK3 _ _ ?_
  refine x_seq fun K6 hK6 => ?_
  refine x_seq fun K7 hK7 => ?_
  refine x_region ?_
  refine s_go (s_move) ?_
  try simp only [opv, n1, n2, n3, n4, Value.cells]
  refine s_go (s_move) ?_
  try simp only [opv, n1, n2, n3, n4, Value.cells]
  refine s_callv (hv := rfl) en199 ?_
  try simp only [opv, n1, n2, n3, n4, Value.cells, List.map_toArray, List.map_cons, List.map_nil, List.append_toArray, List.cons_append, List.nil_append, Array.append_empty]
  refine CallR.mono (c_cone _ g 0 A c xs hc (hS.owns (by repeat (first | exact Spl.nil | (apply Spl.cons (by repeat (exact Del.head))))))) ?_
  rintro _ w2 ⟨rfl, A2, c2, hcp2, hR2, hC2⟩
  have hY2 := RdIn.trans hM hS (by repeat (first | exact Spl.nil | (apply Spl.cons (by repeat (exact Del.head))))) hR2 (by intro s hs q hb; simp only [List.mem_cons, List.not_mem_nil, or_false] at hs; rcases hs with rfl | rfl <;> first | (simp [Res.reads] at hb; done) | exact .inr ⟨_, List.mem_cons_of_mem _ (List.mem_cons_self ..), .inr hb⟩)
  replace hS := hS.frame (by repeat (first | exact Spl.nil | (apply Spl.cons (by repeat (exact Del.head))))) hC2 (by intro r hr b hb; simp only [List.mem_cons, List.not_mem_nil, or_false] at hr; rcases hr with rfl | rfl <;> first | (simp [Res.reads] at hb; done) | exact hR2 b hb)
  replace hR2 := hY2
  simp only [List.cons_append, List.nil_append] at hS
  try simp only [opv, n1, n2, n3, n4, Value.cells]
  refine s_go (s_assign) ?_
  try simp only [opv, n1, n2, n3, n4, Value.cells]
  refine x_nil ?_
  refine hK7 _ _ ?_
  refine x_seq fun K8 hK8 => ?_
  refine x_region ?_
  refine s_go (s_move) ?_
  try simp only [opv, n1, n2, n3, n4, Value.cells]
  refine s_call en204 ?_
  try simp only [opv, n1, n2, n3, n4, Value.cells, List.map_toArray, List.map_cons, List.map_nil, List.append_toArray, List.cons_append, List.nil_append, Array.append_empty]
  refine CallR.mono (c_cwell _ g (takeE 0 xs 1) A2 c2 (takeX 0 xs 1) hcp2 (hS.owns (by repeat (first | exact Spl.nil | (apply Spl.cons (by repeat (exact Del.head))))))) ?_
  rintro _ w3 ⟨rfl, hC3⟩
  replace hS := hS.frame (by repeat (first | exact Spl.nil | (apply Spl.cons (by repeat (exact Del.head))))) hC3 (by intro r hr g hg; simp only [List.mem_cons, List.not_mem_nil, or_false] at hr; rcases hr with rfl | rfl | rfl <;> first | (simp [Res.reads] at hg; done) | exact .inr ⟨_, by simp, .inr hg⟩)
  simp only [List.cons_append, List.nil_append] at hS
  try simp only [opv, n1, n2, n3, n4, Value.cells]
  refine x_nil ?_
  refine hK8 _ _ ?_
  refine x_cond (ht := fun hc2 => ?_) (hf := fun hc2 => ?_)
  ·
   try simp only [decide_eq_true_eq, decide_eq_false_iff_not, Bool.not_eq_true', Bool.not_eq_false', Int.not_lt, Int.not_le, ne_eq, Decidable.not_not, bne_iff_ne, beq_iff_eq, not_true_eq_false, not_false_eq_true] at hc2
   refine x_seq fun K9 hK9 => ?_
   refine x_region ?_
   refine s_go (s_move) ?_
   try simp only [opv, n1, n2, n3, n4, Value.cells]
   refine s_go (s_assign) ?_
   try simp only [opv, n1, n2, n3, n4, Value.cells]
   refine x_nil ?_
   refine hK9 _ _ ?_
   refine x_ret ?_
   refine r_tmp rfl ?_
   exact ⟨by rw [hN]; rfl, _, _, by rw [hN]; assumption, by rw [hN]; assumption, by rw [hN]; exact hS.sel (by repeat (first | exact Sel.nil | (refine Sel.cons (by repeat (exact Del.head)) ?_)))⟩
  ·
   try simp only [decide_eq_true_eq, decide_eq_false_iff_not, Bool.not_eq_true', Bool.not_eq_false', Int.not_lt, Int.not_le, ne_eq, Decidable.not_not, bne_iff_ne, beq_iff_eq, not_true_eq_false, not_false_eq_true] at hc2
   have hx0 := oneS_bad (e := 0) (xs := xs) (by rw [hN]; simpa using hc2)
   rw [hN] at hx0
   refine x_skip ?_
   refine hK6 _ _ ?_
   refine x_seq fun K10 hK10 => ?_
   refine x_region ?_
   refine s_go (s_move) ?_
   try simp only [opv, n1, n2, n3, n4, Value.cells]
   refine s_go (s_assign) ?_
   try simp only [opv, n1, n2, n3, n4, Value.cells]
   refine x_nil ?_
   refine hK10 _ _ ?_
   refine x_ret ?_
   refine r_tmp rfl ?_
   exact ⟨by rw [hN]; exact (congrArg (Value.int .u8) hx0).symm, _, _, by rw [hN]; assumption, by rw [hN]; assumption, by rw [hN]; exact hS.sel (by repeat (first | exact Sel.nil | (refine Sel.cons (by repeat (exact Del.head)) ?_)))⟩
theorem c_cByte (w0 : World) (g : Nat) (e : Int) (A : Option Addr) (c : Nat) (xs : List Int) (hc : xs.length ≤ c) (hw : Byt xs) (hn : xs.length ≤ 1000000000) (hM : St (OwnB [.obj g (.cells #[.int .i64 e, .slice A xs.length c] 162 (0, 0)), .rd A 1 xs.length (xs.map (Value.int .u8))]) w0 w0 [.obj g (.cells #[.int .i64 e, .slice A xs.length c] 162 (0, 0)), .rd A 1 xs.length (xs.map (Value.int .u8))]) :
    CallR Try.prog 123 #[.pointer (some ⟨g, 0, none⟩)] w0 fun v w' => v = .int .u8 (oneS e xs).1 ∧ CuSt w0 w' [.obj g (.cells #[.int .i64 e, .slice A xs.length c] 162 (0, 0)), .rd A 1 xs.length (xs.map (Value.int .u8))] g (oneS e xs).2.1 (oneS e xs).2.2 [] := by
 have hS := hM
 refine c_enter (l := [.pointer (some ⟨g, 0, none⟩), undef, undef, undef, undef]) Try.func123 rfl (by simp only [Try.ntmps123, List.size_toArray, List.length_cons, List.length_nil, Nat.reduceAdd, Nat.reduceSub, Array.replicate_succ, Array.replicate_zero, List.push_toArray, List.append_toArray, List.nil_append, List.cons_append]) ?_
 refine x_seq fun K1 hK1 => ?_
 refine x_region ?_
 refine s_go (s_assign) ?_
 try simp only [opv, n1, n2, n3, n4, Value.cells]
 refine x_nil ?_
 refine hK1 _ _ ?_
 refine x_seq fun K2 hK2 => ?_
 refine x_region ?_
 refine s_go (s_move) ?_
 try simp only [opv, n1, n2, n3, n4, Value.cells]
 refine s_call en198 ?_
 try simp only [opv, n1, n2, n3, n4, Value.cells, List.map_toArray, List.map_cons, List.map_nil, List.append_toArray, List.cons_append, List.nil_append, Array.append_empty]
 refine CallR.mono (c_onceB _ g e A c xs hc hw hn (hS.owns (by repeat (first | exact Spl.nil | (apply Spl.cons (by repeat (exact Del.head))))))) ?_
 rintro _ w1 ⟨rfl, A1, c1, hcp1, hR1, hC1⟩
 have hY1 := RdIn.trans hM hS (by repeat (first | exact Spl.nil | (apply Spl.cons (by repeat (exact Del.head))))) hR1 (by intro s hs q hb; simp only [List.mem_cons, List.not_mem_nil, or_false] at hs; rcases hs with rfl | rfl <;> first | (simp [Res.reads] at hb; done) | exact .inr ⟨_, List.mem_cons_of_mem _ (List.mem_cons_self ..), .inr hb⟩)
 replace hS := hS.frame (by repeat (first | exact Spl.nil | (apply Spl.cons (by repeat (exact Del.head))))) hC1 (by intro r hr b hb; simp only [List.mem_cons, List.not_mem_nil, or_false] at hr; rcases hr with rfl | rfl <;> first | (simp [Res.reads] at hb; done) | exact hR1 b hb)
 replace hR1 := hY1
 simp only [List.cons_append, List.nil_append] at hS
 try simp only [opv, n1, n2, n3, n4, Value.cells]
 refine s_go (s_assign) ?_
 try simp only [opv, n1, n2, n3, n4, Value.cells]
 refine x_nil ?_
 refine hK2 _ _ ?_
 refine x_ret ?_
 refine r_tmp rfl ?_
 exact ⟨rfl, _, _, by assumption, by assumption, hS.sel (by repeat (first | exact Sel.nil | (refine Sel.cons (by repeat (exact Del.head)) ?_)))⟩
end Go.Proofs.Ytpjpaipkkcengaa
set_option linter.unusedSimpArgs false
set_option linter.unusedVariables false
set_option maxHeartbeats 800000
set_option maxRecDepth 100000
namespace Go.Proofs.Ytpjpaipkkcengaa
open Go.RowKit

theorem take_in {xs : List Int} {k : Nat} (h : k ≤ xs.length) (e : Int) : takeE e xs k = e ∧ takeX e xs k = xs.drop k ∧ takeV xs k = xs.take k := ⟨if_pos h, if_pos h, if_pos h⟩
theorem take_out {xs : List Int} {k : Nat} (h : ¬ k ≤ xs.length) : takeE 0 xs k = 4 ∧ takeX 0 xs k = [] ∧ takeV xs k = [] := ⟨if_neg h, (if_neg h).trans (errX0 (by decide)), if_neg h⟩
theorem bytS_take {m : Nat} {xs : List Int} (h : (numS m 0 xs).2.1 = 0) : bytS m 0 xs = (takeV (numS m 0 xs).2.2 (numS m 0 xs).1, takeE 0 (numS m 0 xs).2.2 (numS m 0 xs).1, takeX 0 (numS m 0 xs).2.2 (numS m 0 xs).1) := by
  rw [bytS, if_pos h]
  split
  · next h1 => rw [(take_in h1 0).1, (take_in h1 0).2.1, (take_in h1 0).2.2]
  · next h1 => rw [(take_out h1).1, (take_out h1).2.1, (take_out h1).2.2]

theorem c_cbytes1 (w0 : World) (g : Nat) (A : Option Addr) (c : Nat) (xs : List Int) (hc : xs.length ≤ c) (hw : Byt xs) (hn : xs.length ≤ 1000000000) (b : Nat) (m : Int) (hm : m ≤ 9223372036854775807) (hM : St (OwnB [.obj g (.cells #[.int .i64 0, .slice A xs.length c] 162 (0, 0)), .rd A 1 xs.length (xs.map (Value.int .u8)), .obj b (.cells #[.int .i64 m] 3 (0, 0))]) w0 w0 [.obj g (.cells #[.int .i64 0, .slice A xs.length c] 162 (0, 0)), .rd A 1 xs.length (xs.map (Value.int .u8)), .obj b (.cells #[.int .i64 m] 3 (0, 0))]) :
    CallR Try.prog 203 #[.pointer (some ⟨g, 0, none⟩), .pointer (some ⟨b, 0, none⟩)] w0 fun v w' => ∃ (B : Option Addr) (d : Nat), v = .slice B (bytS m.toNat 0 xs).1.length d ∧ CuSt w0 w' [.obj g (.cells #[.int .i64 0, .slice A xs.length c] 162 (0, 0)), .rd A 1 xs.length (xs.map (Value.int .u8)), .obj b (.cells #[.int .i64 m] 3 (0, 0))] g (bytS m.toNat 0 xs).2.1 (bytS m.toNat 0 xs).2.2 [.vec B d 5 1 (bytS m.toNat 0 xs).1.length ((bytS m.toNat 0 xs).1.map (Value.int .u8)), .obj b (.cells #[.int .i64 m] 3 (0, 0))] := by
 have hS := hM
 have hnl := numS_le m.toNat 0 xs
 have hnb := numS_byt (m := m.toNat) (e := 0) hw
 have hnn := numS_len m.toNat 0 xs
 refine c_enter (l := [.pointer (some ⟨g, 0, none⟩), .pointer (some ⟨b, 0, none⟩), undef, undef, undef, undef, undef, undef, undef, undef, undef, undef, undef, undef, undef, undef, undef, undef, undef]) Try.func203 rfl (by simp only [Try.ntmps203, List.size_toArray, List.length_cons, List.length_nil, Nat.reduceAdd, Nat.reduceSub, Array.replicate_succ, Array.replicate_zero, List.push_toArray, List.append_toArray, List.nil_append, List.cons_append]) ?_
 refine x_seq fun K1 hK1 => ?_
 refine x_region ?_
 refine s_go (s_assign) ?_
 try simp only [opv, n1, n2, n3, n4, Value.cells]
 refine x_nil ?_
 refine hK1 _ _ ?_
 refine x_seq fun K2 hK2 => ?_
 refine x_region ?_
 refine s_go (s_move) ?_
 try simp only [opv, n1, n2, n3, n4, Value.cells]
 refine s_go (m_load_obj Try.underlying3 (hS := hS)) ?_
 try simp only [opv, n1, n2, n3, n4, Value.cells, List.getElem_toArray, List.getElem_cons_zero, List.getElem_cons_succ]
 refine s_go (s_max) ?_
 try simp only [opv, n1, n2, n3, n4, Value.cells]
 refine s_go (s_conv Try.underlying3 Try.underlying40 (hc := max_u64 hm)) ?_
 try simp only [opv, n1, n2, n3, n4, Value.cells]
 refine s_call en122 ?_
 try simp only [opv, n1, n2, n3, n4, Value.cells, List.map_toArray, List.map_cons, List.map_nil, List.append_toArray, List.cons_append, List.nil_append, Array.append_empty]
 refine CallR.mono (c_cNum _ g 0 A c xs hc hw hn m.toNat (by omega) (hS.owns (by repeat (first | exact Spl.nil | (apply Spl.cons (by repeat (exact Del.head))))))) ?_
 rintro _ w1 ⟨rfl, Aa, ca, hcpa, hRa, hCa⟩
 have hYa := RdIn.trans hM hS (by repeat (first | exact Spl.nil | (apply Spl.cons (by repeat (exact Del.head))))) hRa (by intro s hs q hb; simp only [List.mem_cons, List.not_mem_nil, or_false] at hs; rcases hs with rfl | rfl <;> first | (simp [Res.reads] at hb; done) | exact .inr ⟨_, List.mem_cons_of_mem _ (List.mem_cons_self ..), .inr hb⟩)
 replace hS := hS.frame (by repeat (first | exact Spl.nil | (apply Spl.cons (by repeat (exact Del.head))))) hCa (by intro r hr b hb; simp only [List.mem_cons, List.not_mem_nil, or_false] at hr; rcases hr with rfl | rfl <;> first | (simp [Res.reads] at hb; done) | exact hRa b hb)
 replace hRa := hYa
 simp only [List.cons_append, List.nil_append] at hS
 try simp only [opv, n1, n2, n3, n4, Value.cells]
 refine s_go (s_assign) ?_
 try simp only [opv, n1, n2, n3, n4, Value.cells]
 refine x_nil ?_
 refine hK2 _ _ ?_
 refine x_seq fun K3 hK3 => ?_
 refine x_seq fun K4 hK4 => ?_
 refine x_region ?_
 refine s_go (s_move) ?_
 try simp only [opv, n1, n2, n3, n4, Value.cells]
 refine s_call en204 ?_
 try simp only [opv, n1, n2, n3, n4, Value.cells, List.map_toArray, List.map_cons, List.map_nil, List.append_toArray, List.cons_append, List.nil_append, Array.append_empty]
 refine CallR.mono (c_cwell _ g ((numS m.toNat 0 xs).2.1) Aa ca ((numS m.toNat 0 xs).2.2) hcpa (hS.owns (by repeat (first | exact Spl.nil | (apply Spl.cons (by repeat (exact Del.head))))))) ?_
 rintro _ w2 ⟨rfl, hC2⟩
 replace hS := hS.frame (by repeat (first | exact Spl.nil | (apply Spl.cons (by repeat (exact Del.head))))) hC2 (by intro r hr g hg; simp only [List.mem_cons, List.not_mem_nil, or_false] at hr; rcases hr with rfl | rfl | rfl <;> first | (simp [Res.reads] at hg; done) | exact .inr ⟨_, by simp, .inr hg⟩)
 simp only [List.cons_append, List.nil_append] at hS
 try simp only [opv, n1, n2, n3, n4, Value.cells]
 refine s_go (s_not) ?_
 try simp only [opv, n1, n2, n3, n4, Value.cells]
 refine x_nil ?_
 refine hK4 _ _ ?_
 refine x_cond (ht := fun hc1 => ?_) (hf := fun hc1 => ?_)
 ·
  try simp only [decide_eq_true_eq, decide_eq_false_iff_not, Bool.not_eq_true', Bool.not_eq_false', Int.not_lt, Int.not_le, ne_eq, Decidable.not_not, bne_iff_ne, beq_iff_eq, not_true_eq_false, not_false_eq_true] at hc1
  have hN : bytS m.toNat 0 xs = ([], (numS m.toNat 0 xs).2.1, (numS m.toNat 0 xs).2.2) := by rw [bytS, if_neg (by simpa using hc1)]
  refine x_seq fun K5 hK5 => ?_
  refine x_region ?_
  refine s_go (s_assign) ?_
  try simp only [opv, n1, n2, n3, n4, Value.cells]
  refine x_nil ?_
  refine hK5 _ _ ?_
  refine x_ret ?_
  refine r_tmp rfl ?_
  replace hS := hS.nil_vec 5 1
  exact ⟨none, 0, by rw [hN]; rfl, _, _, by rw [hN]; exact hcpa, by rw [hN]; exact hRa, by rw [hN]; exact hS.sel (by repeat (first | exact Sel.nil | (refine Sel.cons (by repeat (first | exact Del.head | apply Del.tail)) ?_)))⟩
 ·
  try simp only [decide_eq_true_eq, decide_eq_false_iff_not, Bool.not_eq_true', Bool.not_eq_false', Int.not_lt, Int.not_le, ne_eq, Decidable.not_not, bne_iff_ne, beq_iff_eq, not_true_eq_false, not_false_eq_true] at hc1
  have hE : (numS m.toNat 0 xs).2.1 = 0 := by simpa using hc1
  rw [hE] at hS
  refine x_skip ?_
  refine hK3 _ _ ?_
  refine x_seq fun K6 hK6 => ?_
  refine x_region ?_
  refine m_buildRow (cells := #[]) Try.underlying43 ti5 (hc := by simp only [List.map_toArray, List.map_cons, List.map_nil, opv, n1, n2, n3, n4, Value.cells, List.toList_toArray]; (repeat (refine fill_cons rfl rfl (Nat.le_of_ble_eq_true rfl) ?_)); rfl) (hS := hS) (h := fun w3 g3 hS => ?_)
  try simp only [opv, n1, n2, n3, n4, Value.cells, Array.toArray_toList] at hS ⊢
  replace hS := hS.obj_vec (sz := 1) (n := 0) rfl (by decide) .head
  refine s_go (s_move) ?_
  try simp only [opv, n1, n2, n3, n4, Value.cells]
  refine s_go (s_move) ?_
  try simp only [opv, n1, n2, n3, n4, Value.cells]
  refine s_go (s_conv Try.underlying40 Try.underlying3 (hc := by exact wr_i64 (by omega) (by omega))) ?_
  try simp only [opv, n1, n2, n3, n4, Value.cells]
  refine s_call en197 ?_
  try simp only [opv, n1, n2, n3, n4, Value.cells, List.map_toArray, List.map_cons, List.map_nil, List.append_toArray, List.cons_append, List.nil_append, Array.append_empty]
  refine CallR.mono (c_ctake _ g 0 Aa ca (numS m.toNat 0 xs).2.2 hcpa (numS m.toNat 0 xs).1 (by omega) (hS.owns (by repeat (first | exact Spl.nil | (apply Spl.cons (by repeat (first | exact Del.head | apply Del.tail))))))) ?_
  rintro _ w4 ⟨Ab, cb, Bb, rfl, hcpb, hRb, hQb, hCb⟩
  have hYb := RdIn.trans hM hS (by repeat (first | exact Spl.nil | (apply Spl.cons (by repeat (first | exact Del.head | apply Del.tail))))) hRb (by intro s hs q hb; simp only [List.mem_cons, List.not_mem_nil, or_false] at hs; rcases hs with rfl | rfl <;> first | (simp [Res.reads] at hb; done) | exact hRa q hb)
  replace hS := hS.frame (by repeat (first | exact Spl.nil | (apply Spl.cons (by repeat (first | exact Del.head | apply Del.tail))))) hCb (by intro r hr b hb; simp only [List.mem_cons, List.not_mem_nil, or_false] at hr; rcases hr with rfl | rfl | rfl <;> first | (simp [Res.reads] at hb; done) | exact hRb b hb | exact hQb b hb)
  simp only [List.cons_append, List.nil_append] at hS
  replace hRb := hYb
  try simp only [opv, n1, n2, n3, n4, Value.cells]
  have htv : (takeV (numS m.toNat 0 xs).2.2 (numS m.toNat 0 xs).1).length ≤ 1000000000 := by unfold takeV; split; simp; omega; simp
  refine m_append Try.underlying43 ti5 (hS := hS) (h := fun w5 A5 C5 hS => ?_)
  try simp only [← List.map_append, ← List.map_drop, ← List.map_take, Nat.mul_one, Nat.zero_mul, Nat.sub_zero, List.drop_zero, List.nil_append, Nat.zero_add] at hS ⊢
  try simp only [opv, n1, n2, n3, n4, Value.cells, Array.toArray_toList] at hS ⊢
  refine s_go (s_assign) ?_
  try simp only [opv, n1, n2, n3, n4, Value.cells]
  refine x_nil ?_
  refine hK6 _ _ ?_
  refine x_ret ?_
  refine r_tmp rfl ?_
  have hN : bytS m.toNat 0 xs = (takeV (numS m.toNat 0 xs).2.2 (numS m.toNat 0 xs).1, takeE 0 (numS m.toNat 0 xs).2.2 (numS m.toNat 0 xs).1, takeX 0 (numS m.toNat 0 xs).2.2 (numS m.toNat 0 xs).1) := bytS_take hE
  exact ⟨_, _, by rw [hN]; rfl, _, _, by rw [hN]; exact hcpb, by rw [hN]; exact hRb, by rw [hN]; exact hS.sel (by repeat (first | exact Sel.nil | (refine Sel.cons (by repeat (first | exact Del.head | apply Del.tail)) ?_)))⟩
theorem c_onceBs (w0 : World) (g : Nat) (e : Int) (A : Option Addr) (c : Nat) (xs : List Int) (hc : xs.length ≤ c) (hw : Byt xs) (hn : xs.length ≤ 1000000000) (b : Nat) (m : Int) (hm : m ≤ 9223372036854775807) (hM : St (OwnB [.obj g (.cells #[.int .i64 e, .slice A xs.length c] 162 (0, 0)), .rd A 1 xs.length (xs.map (Value.int .u8)), .obj b (.cells #[.int .i64 m] 3 (0, 0))]) w0 w0 [.obj g (.cells #[.int .i64 e, .slice A xs.length c] 162 (0, 0)), .rd A 1 xs.length (xs.map (Value.int .u8)), .obj b (.cells #[.int .i64 m] 3 (0, 0))]) :
    CallR Try.prog 202 #[.pointer (some ⟨g, 0, none⟩), .func (.func 203) #[] #[.pointer (some ⟨b, 0, none⟩)]] w0 fun v w' => ∃ (B : Option Addr) (d : Nat), v = .slice B (bytS m.toNat e xs).1.length d ∧ CuSt w0 w' [.obj g (.cells #[.int .i64 e, .slice A xs.length c] 162 (0, 0)), .rd A 1 xs.length (xs.map (Value.int .u8)), .obj b (.cells #[.int .i64 m] 3 (0, 0))] g (bytS m.toNat e xs).2.1 (bytS m.toNat e xs).2.2 [.vec B d 5 1 (bytS m.toNat e xs).1.length ((bytS m.toNat e xs).1.map (Value.int .u8)), .obj b (.cells #[.int .i64 m] 3 (0, 0))] := by
 have hS := hM
 refine c_enter (l := [.pointer (some ⟨g, 0, none⟩), .func (.func 203) #[] #[.pointer (some ⟨b, 0, none⟩)], undef, undef, undef, undef, undef, undef, undef, undef, undef, undef, undef, undef, undef, undef, undef, undef]) Try.func202 rfl (by simp only [Try.ntmps202, List.size_toArray, List.length_cons, List.length_nil, Nat.reduceAdd, Nat.reduceSub, Array.replicate_succ, Array.replicate_zero, List.push_toArray, List.append_toArray, List.nil_append, List.cons_append]) ?_
 refine x_seq fun K1 hK1 => ?_
 refine x_region ?_
 refine s_go (s_assign) ?_
 try simp only [opv, n1, n2, n3, n4, Value.cells]
 refine x_nil ?_
 refine hK1 _ _ ?_
 refine x_seq fun K2 hK2 => ?_
 refine x_region ?_
 refine s_go (s_assign) ?_
 try simp only [opv, n1, n2, n3, n4, Value.cells]
 refine x_nil ?_
 refine hK2 _ _ ?_
 refine x_seq fun K3 hK3 => ?_
 refine x_seq fun K4 hK4 => ?_
 refine x_region ?_
 refine s_go (s_move) ?_
 try simp only [opv, n1, n2, n3, n4, Value.cells]
 refine s_call en204 ?_
 try simp only [opv, n1, n2, n3, n4, Value.cells, List.map_toArray, List.map_cons, List.map_nil, List.append_toArray, List.cons_append, List.nil_append, Array.append_empty]
 refine CallR.mono (c_cwell _ g (e) A c (xs) hc (hS.owns (by repeat (first | exact Spl.nil | (apply Spl.cons (by repeat (exact Del.head))))))) ?_
 rintro _ w1 ⟨rfl, hC1⟩
 replace hS := hS.frame (by repeat (first | exact Spl.nil | (apply Spl.cons (by repeat (exact Del.head))))) hC1 (by intro r hr g hg; simp only [List.mem_cons, List.not_mem_nil, or_false] at hr; rcases hr with rfl | rfl | rfl <;> first | (simp [Res.reads] at hg; done) | exact .inr ⟨_, by simp, .inr hg⟩)
 simp only [List.cons_append, List.nil_append] at hS
 try simp only [opv, n1, n2, n3, n4, Value.cells]
 refine s_go (s_not) ?_
 try simp only [opv, n1, n2, n3, n4, Value.cells]
 refine x_nil ?_
 refine hK4 _ _ ?_
 refine x_cond (ht := fun hc1 => ?_) (hf := fun hc1 => ?_)
 ·
  try simp only [decide_eq_true_eq, decide_eq_false_iff_not, Bool.not_eq_true', Bool.not_eq_false', Int.not_lt, Int.not_le, ne_eq, Decidable.not_not, bne_iff_ne, beq_iff_eq, not_true_eq_false, not_false_eq_true] at hc1
  have hN := bytS_err (m := m.toNat) (xs := xs) (by simpa using hc1)
  refine x_seq fun K5 hK5 => ?_
  refine x_region ?_
  refine s_go (s_move) ?_
  try simp only [opv, n1, n2, n3, n4, Value.cells]
  refine s_go (s_assign) ?_
  try simp only [opv, n1, n2, n3, n4, Value.cells]
  refine x_nil ?_
  refine hK5 _ _ ?_
  refine x_ret ?_
  refine r_tmp rfl ?_
  replace hS := hS.nil_vec 5 1
  exact ⟨none, 0, by rw [hN]; rfl, A, c, by rw [hN]; exact hc, by rw [hN]; exact RdIn.self (List.mem_cons_of_mem _ (List.mem_cons_self ..)), by rw [hN]; exact hS.sel (by repeat (first | exact Sel.nil | (refine Sel.cons (by repeat (first | exact Del.head | apply Del.tail)) ?_)))⟩
 ·
  try simp only [decide_eq_true_eq, decide_eq_false_iff_not, Bool.not_eq_true', Bool.not_eq_false', Int.not_lt, Int.not_le, ne_eq, Decidable.not_not, bne_iff_ne, beq_iff_eq, not_true_eq_false, not_false_eq_true] at hc1
  have he0 : e = 0 := by simpa using hc1
  subst he0
  refine x_skip ?_
  refine hK3 _ _ ?_
  refine x_seq fun K6 hK6 => ?_
  refine x_seq fun K7 hK7 => ?_
  refine x_region ?_
  refine s_go (s_move) ?_
  try simp only [opv, n1, n2, n3, n4, Value.cells]
  refine s_go (s_move) ?_
  try simp only [opv, n1, n2, n3, n4, Value.cells]
  refine s_callv (hv := rfl) en203 ?_
  try simp only [opv, n1, n2, n3, n4, Value.cells, List.map_toArray, List.map_cons, List.map_nil, List.append_toArray, List.cons_append, List.nil_append, Array.append_empty]
  refine CallR.mono (c_cbytes1 _ g A c xs hc hw hn b m hm (hS.owns (by repeat (first | exact Spl.nil | (apply Spl.cons (by repeat (exact Del.head))))))) ?_
  rintro _ w2 ⟨Ba, da, rfl, Aa, ca, hcpa, hRa, hCa⟩
  have hYa := RdIn.trans hM hS (by repeat (first | exact Spl.nil | (apply Spl.cons (by repeat (exact Del.head))))) hRa (by intro s hs q hb; simp only [List.mem_cons, List.not_mem_nil, or_false] at hs; rcases hs with rfl | rfl | rfl <;> first | (simp [Res.reads] at hb; done) | exact .inr ⟨_, List.mem_cons_of_mem _ (List.mem_cons_self ..), .inr hb⟩)
  replace hS := hS.frame (by repeat (first | exact Spl.nil | (apply Spl.cons (by repeat (exact Del.head))))) hCa (by intro r hr b hb; simp only [List.mem_cons, List.not_mem_nil, or_false] at hr; rcases hr with rfl | rfl | rfl | rfl <;> first | (simp [Res.reads] at hb; done) | exact hRa b hb)
  replace hRa := hYa
  simp only [List.cons_append, List.nil_append] at hS
  try simp only [opv, n1, n2, n3, n4, Value.cells]
  refine s_go (s_assign) ?_
  try simp only [opv, n1, n2, n3, n4, Value.cells]
  refine x_nil ?_
  refine hK7 _ _ ?_
  refine x_seq fun K8 hK8 => ?_
  refine x_region ?_
  refine s_go (s_move) ?_
  try simp only [opv, n1, n2, n3, n4, Value.cells]
  refine s_call en204 ?_
  try simp only [opv, n1, n2, n3, n4, Value.cells, List.map_toArray, List.map_cons, List.map_nil, List.append_toArray, List.cons_append, List.nil_append, Array.append_empty]
  refine CallR.mono (c_cwell _ g ((bytS m.toNat 0 xs).2.1) Aa ca ((bytS m.toNat 0 xs).2.2) hcpa (hS.owns (by repeat (first | exact Spl.nil | (apply Spl.cons (by repeat (exact Del.head))))))) ?_
  rintro _ w3 ⟨rfl, hC3⟩
  replace hS := hS.frame (by repeat (first | exact Spl.nil | (apply Spl.cons (by repeat (exact Del.head))))) hC3 (by intro r hr g hg; simp only [List.mem_cons, List.not_mem_nil, or_false] at hr; rcases hr with rfl | rfl | rfl <;> first | (simp [Res.reads] at hg; done) | exact .inr ⟨_, by simp, .inr hg⟩)
  simp only [List.cons_append, List.nil_append] at hS
  try simp only [opv, n1, n2, n3, n4, Value.cells]
  refine x_nil ?_
  refine hK8 _ _ ?_
  refine x_cond (ht := fun hc2 => ?_) (hf := fun hc2 => ?_)
  ·
   try simp only [decide_eq_true_eq, decide_eq_false_iff_not, Bool.not_eq_true', Bool.not_eq_false', Int.not_lt, Int.not_le, ne_eq, Decidable.not_not, bne_iff_ne, beq_iff_eq, not_true_eq_false, not_false_eq_true] at hc2
   refine x_seq fun K9 hK9 => ?_
   refine x_region ?_
   refine s_go (s_move) ?_
   try simp only [opv, n1, n2, n3, n4, Value.cells]
   refine s_go (s_assign) ?_
   try simp only [opv, n1, n2, n3, n4, Value.cells]
   refine x_nil ?_
   refine hK9 _ _ ?_
   refine x_ret ?_
   refine r_tmp rfl ?_
   exact ⟨_, _, rfl, _, _, by assumption, by assumption, hS.sel (by repeat (first | exact Sel.nil | (refine Sel.cons (by repeat (exact Del.head)) ?_)))⟩
  ·
   try simp only [decide_eq_true_eq, decide_eq_false_iff_not, Bool.not_eq_true', Bool.not_eq_false', Int.not_lt, Int.not_le, ne_eq, Decidable.not_not, bne_iff_ne, beq_iff_eq, not_true_eq_false, not_false_eq_true] at hc2
   have hx0 := bytS_bad (by simpa using hc2)
   refine x_skip ?_
   refine hK6 _ _ ?_
   refine x_seq fun K10 hK10 => ?_
   refine x_region ?_
   refine s_go (s_move) ?_
   try simp only [opv, n1, n2, n3, n4, Value.cells]
   refine s_go (s_assign) ?_
   try simp only [opv, n1, n2, n3, n4, Value.cells]
   refine x_nil ?_
   refine hK10 _ _ ?_
   refine x_ret ?_
   refine r_tmp rfl ?_
   replace hS := hS.nil_vec 5 1
   exact ⟨none, 0, by rw [hx0]; rfl, _, _, by assumption, by assumption, by rw [hx0]; exact hS.sel (by repeat (first | exact Sel.nil | (refine Sel.cons (by repeat (first | exact Del.head | apply Del.tail)) ?_)))⟩
theorem c_cBytes (w0 : World) (g : Nat) (e : Int) (A : Option Addr) (c : Nat) (xs : List Int) (hc : xs.length ≤ c) (hw : Byt xs) (hn : xs.length ≤ 1000000000) (m : Int) (hm : m ≤ 9223372036854775807) (hM : St (OwnB [.obj g (.cells #[.int .i64 e, .slice A xs.length c] 162 (0, 0)), .rd A 1 xs.length (xs.map (Value.int .u8))]) w0 w0 [.obj g (.cells #[.int .i64 e, .slice A xs.length c] 162 (0, 0)), .rd A 1 xs.length (xs.map (Value.int .u8))]) :
    CallR Try.prog 125 #[.pointer (some ⟨g, 0, none⟩), .int .i64 m] w0 fun v w' => ∃ (B : Option Addr) (d : Nat), v = .slice B (bytS m.toNat e xs).1.length d ∧ CuSt w0 w' [.obj g (.cells #[.int .i64 e, .slice A xs.length c] 162 (0, 0)), .rd A 1 xs.length (xs.map (Value.int .u8))] g (bytS m.toNat e xs).2.1 (bytS m.toNat e xs).2.2 [.vec B d 5 1 (bytS m.toNat e xs).1.length ((bytS m.toNat e xs).1.map (Value.int .u8))] := by
 have hS := hM
 refine c_enter (l := [.pointer (some ⟨g, 0, none⟩), .int .i64 m, undef, undef, undef, undef, undef, undef]) Try.func125 rfl (by simp only [Try.ntmps125, List.size_toArray, List.length_cons, List.length_nil, Nat.reduceAdd, Nat.reduceSub, Array.replicate_succ, Array.replicate_zero, List.push_toArray, List.append_toArray, List.nil_append, List.cons_append]) ?_
 refine x_seq fun K1 hK1 => ?_
 refine x_region ?_
 refine m_box hS (fun w1 g1 hS => ?_)
 try simp only [opv, n1, n2, n3, n4, Value.cells, Array.toArray_toList] at hS ⊢
 refine s_go (s_assign) ?_
 try simp only [opv, n1, n2, n3, n4, Value.cells]
 refine x_nil ?_
 refine hK1 _ _ ?_
 refine x_seq fun K2 hK2 => ?_
 refine x_region ?_
 refine s_go (s_move) ?_
 try simp only [opv, n1, n2, n3, n4, Value.cells]
 refine s_go (s_makeFunc) ?_
 try simp only [opv, n1, n2, n3, n4, Value.cells, List.map_toArray, List.map_cons, List.map_nil]
 refine s_call en202 ?_
 try simp only [opv, n1, n2, n3, n4, Value.cells, List.map_toArray, List.map_cons, List.map_nil, List.append_toArray, List.cons_append, List.nil_append, Array.append_empty]
 refine CallR.mono (c_onceBs _ g e A c xs hc hw hn _ m hm (hS.owns (by repeat (first | exact Spl.nil | (apply Spl.cons (by repeat (first | exact Del.head | apply Del.tail))))))) ?_
 rintro _ w2 ⟨B2, d2, rfl, A2, c2, hcp2, hR2, hC2⟩
 have hY2 := RdIn.trans hM hS (by repeat (first | exact Spl.nil | (apply Spl.cons (by repeat (first | exact Del.head | apply Del.tail))))) hR2 (by intro s hs q hb; simp only [List.mem_cons, List.not_mem_nil, or_false] at hs; rcases hs with rfl | rfl | rfl <;> first | (simp [Res.reads] at hb; done) | exact .inr ⟨_, List.mem_cons_of_mem _ (List.mem_cons_self ..), .inr hb⟩)
 replace hS := hS.frame (by repeat (first | exact Spl.nil | (apply Spl.cons (by repeat (first | exact Del.head | apply Del.tail))))) hC2 (by intro r hr b hb; simp only [List.mem_cons, List.not_mem_nil, or_false] at hr; rcases hr with rfl | rfl | rfl | rfl <;> first | (simp [Res.reads] at hb; done) | exact hR2 b hb)
 replace hR2 := hY2
 simp only [List.cons_append, List.nil_append] at hS
 try simp only [opv, n1, n2, n3, n4, Value.cells]
 refine s_go (s_assign) ?_
 try simp only [opv, n1, n2, n3, n4, Value.cells]
 refine x_nil ?_
 refine hK2 _ _ ?_
 refine x_ret ?_
 refine r_tmp rfl ?_
 exact ⟨_, _, rfl, _, _, by assumption, by assumption, hS.sel (by repeat (first | exact Sel.nil | (refine Sel.cons (by repeat (exact Del.head)) ?_)))⟩
end Go.Proofs.Ytpjpaipkkcengaa
namespace Go.Proofs.Ytpjpaipkkcengaa
open Go.ChangeShapes Go.WideShapes Go.ChangeAt Go.RowKit
section
variable {H : Type} {enc : TypeId × Value → H} {P : Program}
theorem trodAll_stays {W W' : World} {sp : Nat → Bool} (hl : laidOutB P = true) (hsame : ∀ p : MemPlace, p.block < W.heap.size → W.sameAt W' p) :
    ∀ (ts : List TypeId) (vs : List Value) (ds : List (DataW H)) (ps : List MemPlace), (ts.all fun t => P.readableRec t && decide (t < P.types.size)) = true → (∀ p ∈ ps, p.block < W.heap.size) → (∀ p ∈ ps, sp p.block = true) →
      DataW.TrodAll enc P W 0 (fun _ => true) true ts vs ds ps → DataW.TrodAll enc P W' 0 sp true ts vs ds ps
  | [], [], [], _, _, _, _, h => h
  | t :: ts, v :: vs, d :: ds, ps, hr, hlt, hsp, h => by
    obtain ⟨p, q, h1, h2, rfl⟩ := h
    simp only [List.all_cons, Bool.and_eq_true, decide_eq_true_eq] at hr
    exact ⟨p, q, WideElems.Trod_stays hl hr.1.1 hr.1.2 h1 (fun x hx => hsame x (hlt x (by simp [hx]))) (fun x hx => hsp x (by simp [hx])), trodAll_stays hl hsame ts vs ds q hr.2 (fun x hx => hlt x (by simp [hx])) (fun x hx => hsp x (by simp [hx])) h2, rfl⟩
  | [], _ :: _, _, _, _, _, _, h => by simp [DataW.TrodAll] at h
  | [], [], _ :: _, _, _, _, _, h => by simp [DataW.TrodAll] at h
  | _ :: _, [], _, _, _, _, _, h => by simp [DataW.TrodAll] at h
  | _ :: _, _ :: _, [], _, _, _, _, h => by simp [DataW.TrodAll] at h
theorem trodAll_len {W : World} {b : Nat} {sp : Nat → Bool} {hd : Bool} : ∀ (ts : List TypeId) (vs : List Value) (ds : List (DataW H)) (ps : List MemPlace), DataW.TrodAll enc P W b sp hd ts vs ds ps → ds.length = ts.length
  | [], [], [], _, _ => rfl
  | t :: ts, v :: vs, d :: ds, ps, h => by
    obtain ⟨p, q, h1, h2, rfl⟩ := h
    simp [trodAll_len ts vs ds q h2]
  | [], _ :: _, _, _, h => by simp [DataW.TrodAll] at h
  | [], [], _ :: _, _, h => by simp [DataW.TrodAll] at h
  | _ :: _, [], _, _, h => by simp [DataW.TrodAll] at h
  | _ :: _, _ :: _, [], _, h => by simp [DataW.TrodAll] at h
theorem post_of_below {f : Func} {s : ChangeSpec} {apart fresh handsOn again : Bool} {W W' : World} {args : Array Value} {v : Value} {ds gs : List (DataW H)} {before pa pv : List MemPlace}
    (hW : DataW.Whole enc P f.params.toList s.vars apart W args.toList ds gs before)
    (hres : ∀ (b : Nat) (sp : Nat → Bool) (hd : Bool), DataW.TrodAll enc P W' b sp hd f.resultTypes.toList (v.resultList f.resultTypes.size) (s.fn H (ds ++ gs)).results [])
    (hargs : ∀ sp : Nat → Bool, (∀ p ∈ before, sp p.block = true) → DataW.TrodAll enc P W' 0 sp true f.params.toList args.toList (s.fn H (ds ++ gs)).args pa)
    (hvars : ∀ sp : Nat → Bool, (∀ p ∈ before, sp p.block = true) → DataW.TrodVars enc P W' sp s.vars (s.fn H (ds ++ gs)).vars pv)
    (hps : before = pa ++ pv) (hb : Below W.heap.size W W')
    (hok : ∀ (j : Nat) (t : TypeId) (r : Value), f.resultTypes[j]? = some t → (v.resultList f.resultTypes.size)[j]? = some r → Value.okWide P W' .any 0 t r) :
    s.post enc P f apart fresh handsOn again W args v W' := by
  have hlt : ∀ p ∈ before, p.block < W.heap.size := fun p hp => hW.lt p hp
  have hold : ∀ p ∈ before, (fun b => decide (b < W.heap.size)) p.block = true := fun p hp => by simpa using hlt p hp
  refine ⟨ds, gs, before, [], pa, pv, hW, hres _ _ _, hargs _ hold, hvars _ hold, World.keptBut_mono (fun p hp => ⟨hp, ?_⟩) (hb.frame (· ∈ before)), fun _ => ?_⟩
  · rw [hps, List.mem_append] at hp
    exact Or.inr hp
  · obtain ⟨_, _, _, _, _, hz, hn⟩ := hW
    refine ⟨hok, _, _, ([] ++ pa) ++ pv, ⟨[] ++ pa, pv, trodAll_append (hargs _ (fun _ _ => rfl)) (hres _ _ _), hvars _ (fun _ _ => rfl), rfl, ?_, ?_⟩, ?_⟩
    · intro b off hp
      have hin : MemPlace.cell b off ∈ before := by rw [hps]; simpa using hp
      rw [hb.frozen (hlt _ hin)]
      exact hz b off hin
    · intro ha
      have := hn ha
      rw [hps] at this
      simpa using this
    · intro p hp _
      rw [hps]
      simpa using hp
end
theorem law_lifted {H : Type} {enc : TypeId × Value → H} {C : Checked} {os : Os} {k : FuncId} {fn : Func} {s : ChangeSpec} {conds : List PathCond} {tb : TypeId}
    (own : ownKnob C.prog.godebug = none) (started : os.Started) (noInit : C.prog.inits.idxOf? k = none) (hfn : C.prog.funcs[k]? = some fn)
    (i : Input) (fuel : Nat)
    (hv : (World.plainHolding C.prog os i).variablesB C.prog = true)
    (hr : ((World.plainHolding C.prog os i).heap.toList.drop C.prog.globals.size).take ((begin C.prog (fun _ _ => 0) default).world.heap.size - C.prog.globals.size) =
      (begin C.prog (fun _ _ => 0) default).world.heap.toList.drop C.prog.globals.size)
    (hok : Input.okWideB C.prog (World.plainHolding C.prog os i) k ⟨#[], i.args, []⟩ = true)
    (hpre : s.preB enc C.prog fn conds false (World.plainHolding C.prog os i).memory i.args fuel = true)
    (hsz : s.sizedB enc C.prog fn false (World.plainHolding C.prog os i).memory i.args fuel = true)
    (hl : laidOutB C.prog = true) (hvars : s.vars = []) (hpar : (fn.params.toList.all fun t => C.prog.readableRec t && decide (t < C.prog.types.size)) = true)
    (hspec : ∀ ds : List (DataW H), ds.length = fn.params.size → s.fn H ds = { results := [.lit (.bool true)], args := ds })
    (hres : fn.resultTypes = #[tb]) (hb : C.prog.underlying tb = some .bool)
    (walk : ∀ (W : World) (base : Nat) (args : Array Value) (ds : List (DataW H)) (ps : List MemPlace),
      (∀ (j : Nat) t v, fn.params[j]? = some t → args[j]? = some v → Value.okWide C.prog W .any base t v) →
      DataW.TrodAll enc C.prog W 0 (fun _ => true) true fn.params.toList args.toList ds ps →
      (∀ x ∈ DataW.weightsEach C.prog fn.params.toList ds, x ≤ reachBytes) →
      CallR C.prog k args W fun v W' => v = .bool true ∧ Ext W W') :
    ReturnsInHanded {} C os k .any (s.pre6 enc C.prog fn conds false) (s.post enc C.prog fn false true false false) := by
  refine returnsInHanded_of_change_sized (C := C) own started noInit hfn (ChangeSpec.witness6 (enc := enc) (C := C) false i fuel hv hr hok hpre hsz) ?_
  intro W base args ds gs before hval hW _ hwt _
  have hW' := hW
  obtain ⟨p, q, hA, hV, hpq, hfz, hnd⟩ := hW
  rw [hvars] at hV
  obtain ⟨rfl, rfl⟩ := trodVars_none hV
  have hlen := trodAll_len _ _ _ _ hA
  have hwt' : ∀ x ∈ DataW.weightsEach C.prog fn.params.toList ds, x ≤ reachBytes := by
    have e : s.plain.varTypes C.prog = [] := by simp [ChangeSpec.plain, DataSpec.varTypes, hvars]
    rw [e, List.append_nil, List.append_nil] at hwt
    simpa using hwt
  refine Calls.mono (walk W base args ds p hval hA hwt') fun e W' ⟨v, he, hv, hE⟩ => ⟨v, he, ?_⟩
  subst hv
  have hB := hE.below
  have hs := hspec ds (by simpa using hlen)
  have hlt : ∀ x ∈ before, x.block < W.heap.size := fun x hx => hW'.lt x hx
  have hpb : before = p := by rw [hpq]; simp
  refine post_of_below (pa := p) (pv := []) hW' ?_ ?_ ?_ ?_ hB ?_
  · intro b sp hd
    rw [hres, List.append_nil, hs]
    exact trodAll_mk1 (shut_bool hb true)
  · intro sp hsp
    rw [List.append_nil, hs]
    exact trodAll_stays hl (fun x hx => hB.same hx) _ _ _ _ hpar (fun x hx => hlt x (hpb ▸ hx)) (fun x hx => hsp x (hpb ▸ hx)) hA
  · intro sp _
    rw [List.append_nil, hs, hvars]
    rfl
  · rw [hpb]; simp
  · exact ok_one hres rfl (okWide_bool_mk hb true)
end Go.Proofs.Ytpjpaipkkcengaa
namespace Go.Proofs.Ytpjpaipkkcengaa
open Go.ChangeShapes Go.WideShapes Go.ChangeAt Go.RowKit
theorem add_at0 (g o k : Nat) : (⟨g, o, none⟩ : Addr).add k = ⟨g, o + k, none⟩ := by unfold Addr.add; split <;> simp_all
/-- what a cell may hold, in a world -/
def LK := World → Value → Prop
def LK.int (k : IntKind) : LK := fun _ v => ∃ n, v = .int k n ∧ (Lit.int k n).wf = true
def LK.bool : LK := fun _ v => ∃ b, v = .bool b
def AllOk (w : World) : List LK → List Value → Prop
  | [], [] => True
  | k :: ks, v :: vs => k w v ∧ AllOk w ks vs
  | _, _ => False
/-- a slice, and what its elements may hold -/
def LK.sl (sz : Nat) (ks : List LK) : LK := fun w v => ∃ A n c xs, v = .slice A n c ∧ n ≤ c ∧ c ≤ maxLen ∧ Rd w A sz n xs ∧ ∀ i, i < n → AllOk w ks ((xs.drop (i * sz)).take sz)
theorem AllOk.len {w : World} : ∀ {ks : List LK} {vs : List Value}, AllOk w ks vs → vs.length = ks.length
  | [], [], _ => rfl
  | _ :: _, _ :: _, h => by simp [AllOk.len h.2]
  | [], _ :: _, h => h.elim
  | _ :: _, [], h => h.elim
theorem AllOk.app {w : World} : ∀ {ks js : List LK} {vs us : List Value}, AllOk w ks vs → AllOk w js us → AllOk w (ks ++ js) (vs ++ us)
  | [], _, [], _, _, h => h
  | _ :: _, _, _ :: _, _, h, h' => ⟨h.1, AllOk.app h.2 h'⟩
  | [], _, _ :: _, _, h, _ => h.elim
  | _ :: _, _, [], _, h, _ => h.elim
/-- the cells of a type that holds no pointer -/
def Flat (P : Program) (t : TypeId) (ks : List LK) : Prop := ∀ {H : Type} (enc : TypeId × Value → H) (w : World) (base : Nat) (sp : Nat → Bool) (held : Bool) (fuel : Nat) (cs : List Value) (x : DataW H × List MemPlace),
  DataW.trod enc P w base sp held fuel t cs = some x → AllOk w ks cs
section
variable {P : Program} {t e : TypeId} {ks : List LK}
theorem flat_int {k : IntKind} (h : P.underlying t = some (.int k)) : Flat P t [.int k] := fun _ _ _ _ _ _ _ _ hx => by
  obtain ⟨n, rfl, _, hw⟩ := DataW.trod_int h hx
  exact ⟨⟨n, rfl, hw⟩, trivial⟩
theorem flat_bool (h : P.underlying t = some .bool) : Flat P t [.bool] := fun _ _ _ _ _ _ _ _ hx => by
  obtain ⟨b, rfl, _⟩ := DataW.trod_bool h hx
  exact ⟨⟨b, rfl⟩, trivial⟩
inductive FlatFs (P : Program) : List Field → Nat → List LK → Prop
  | nil {o : Nat} : FlatFs P [] o []
  | cons {f : Field} {fs : List Field} {o c : Nat} {k1 k2 : List LK} : f.offset = o → Flat P f.type k1 → k1.length = c → P.cellsOf f.type = c → FlatFs P fs (o + c) k2 → FlatFs P (f :: fs) o (k1 ++ k2)
theorem flatFs_run {H : Type} {enc : TypeId × Value → H} {w : World} {base : Nat} {sp : Nat → Bool} {held : Bool} {m : Nat} {fs : List Field} {o : Nat} {ks : List LK} (hf : FlatFs P fs o ks) :
    ∀ (cs : List Value), cs.length = o + ks.length → (∀ f ∈ fs, ∃ y, DataW.trod enc P w base sp held m f.type ((cs.drop f.offset).take (P.cellsOf f.type)) = some y) → AllOk w ks (cs.drop o) := by
  induction hf with
  | nil => intro cs hl _; rw [List.drop_eq_nil_of_le (by simp at hl; omega)]; trivial
  | @cons f fs o c k1 k2 ho hfl hk hc _ ih =>
    intro cs hl h
    have hl' : cs.length = o + c + k2.length := by simp at hl; omega
    rw [← List.take_append_drop c (cs.drop o), List.drop_drop]
    obtain ⟨y, hy⟩ := h f (by simp)
    rw [ho, hc] at hy
    exact AllOk.app (hfl _ _ _ _ _ _ _ _ hy) (ih cs hl' (fun g hg => h g (by simp [hg])))
theorem flat_struct {fs : Array Field} (h : P.underlying t = some (.struct fs)) (hf : FlatFs P fs.toList 0 ks) (hct : P.cellsOf t = ks.length) : Flat P t ks := fun enc w base sp held fuel cs x hx => by
  obtain ⟨xs, m, _, _, hl, hxl, hi⟩ := DataW.trod_struct h hx
  have := flatFs_run (enc := enc) (w := w) (base := base) (sp := sp) (held := held) (m := m) hf cs (by rw [hl, hct]; simp) (fun f hf => by
    obtain ⟨i, hi', e⟩ := List.getElem_of_mem hf
    have h1 := hi i f (by rw [← e]; simp at hi' ⊢)
    have hlt : i < xs.length := by simp at hi'; omega
    rw [List.getElem?_eq_getElem hlt] at h1
    exact ⟨_, h1⟩)
  simpa using this
end
section
variable {H : Type} {enc : TypeId × Value → H} {P : Program} {w : World} {base : Nat} {sp : Nat → Bool} {held : Bool} {t e : TypeId} {r : Reach} {b0 : Nat} {v : Value} {d : DataW H} {ps : List MemPlace} {ks : List LK}
/-- a struct or an array -/
theorem open_flat {dsc : TypeDesc} (hu : P.underlying t = some dsc) (hd : isAggD dsc = true) (hf : Flat P t ks) (hval : Value.okWide P w r b0 t v) (h : DataW.Trod enc P w base sp held t v d ps) : ∃ cs : List Value, v = .agg cs.toArray ∧ AllOk w ks cs := by
  have : ∃ cs : Array Value, v = .agg cs := by
    cases dsc <;> first | (cases hd; done) | (simp only [Value.okWide, hu] at hval; obtain ⟨cs, h1, _⟩ := hval; exact ⟨cs, h1⟩)
  obtain ⟨cs, rfl⟩ := this
  obtain ⟨n, hn⟩ := h
  exact ⟨cs.toList, by simp, hf _ _ _ _ _ _ _ _ hn⟩
/-- a slice's elements, out of the look at its cells -/
theorem slice_trod {sz : Nat} (hu : P.underlying t = some (.slice e)) (hf : Flat P e ks) (hk : ks.length = sz) (hce : P.cellsOf e = sz) (h0 : 0 < sz) {m : Nat} {cs : List Value} (hm : DataW.trod enc P w base sp held m t cs = some (d, ps)) :
    ∃ A n c xs, cs = [.slice A n c] ∧ n ≤ c ∧ c ≤ maxLen ∧ Rd w A sz n xs ∧ (∀ i, i < n → AllOk w ks ((xs.drop (i * sz)).take sz)) ∧ (n = 0 ∨ ∃ es rs, d = .slice es rs ∧ es.length = n) := by
  rcases DataW.trod_slice hu hm with ⟨e1, _⟩ | ⟨a, len, cap, elems, rest, n, _, e1, hx, hb, hlc, hcm, hel, hcells, _, _⟩
  · exact ⟨none, 0, 0, [], e1, Nat.le_refl _, Nat.zero_le _, ⟨by simp, fun h => absurd h (by omega)⟩, fun i hi => absurd hi (by omega), .inl rfl⟩
  · subst e1
    simp only [Prod.mk.injEq] at hx
    -- the elements' cells, one by one
    have hone : ∀ i, i < len → ∃ cs : List Value, cs.length = sz ∧ AllOk w ks cs ∧ ∀ j, j < sz → w.cell? ((a.add (i * sz)).add j) = cs[j]? := fun i hi => by
      have h1 := hcells i hi
      rw [hce] at h1
      have hlt : i < elems.length := by omega
      rw [List.getElem?_eq_getElem hlt] at h1
      cases hc : w.cells? base (a.add (i * sz)) sz with
      | none => rw [hc] at h1; cases h1
      | some cs =>
        rw [hc] at h1
        obtain ⟨_, hl, hj⟩ := World.cells?_some hc
        exact ⟨cs, hl, hf _ _ _ _ _ _ _ _ h1, hj⟩
    have hrow : ∀ n, n ≤ len → ∃ xs : List Value, xs.length = n * sz ∧ (∀ i, i < n → AllOk w ks ((xs.drop (i * sz)).take sz)) ∧ ∀ i j, i < n → j < sz → w.cell? ((a.add (i * sz)).add j) = xs[i * sz + j]? := by
      intro n
      induction n with
      | zero => exact fun _ => ⟨[], by simp, fun i hi => absurd hi (by omega), fun i j hi => absurd hi (by omega)⟩
      | succ n ih =>
        intro hn
        obtain ⟨xs, hl, hok, hc⟩ := ih (by omega)
        obtain ⟨cs, hcl, hcok, hcc⟩ := hone n (by omega)
        refine ⟨xs ++ cs, by simp [hl, hcl, Nat.succ_mul], fun i hi => ?_, fun i j hi hj => ?_⟩
        · rcases Nat.lt_or_ge i n with h | h
          · have h2 : i * sz + sz ≤ n * sz := by rw [← Nat.succ_mul]; exact Nat.mul_le_mul_right _ h
            rw [List.drop_append_of_le_length (by omega), List.take_append_of_le_length (by simp; omega)]
            exact hok i h
          · obtain rfl : i = n := by omega
            rw [List.drop_append, hl, List.drop_eq_nil_of_le (by omega)]
            simp only [Nat.sub_self, List.drop_zero, List.nil_append]
            rwa [List.take_of_length_le (by omega)]
        · rcases Nat.lt_or_ge i n with h | h
          · have h2 : i * sz + sz ≤ n * sz := by rw [← Nat.succ_mul]; exact Nat.mul_le_mul_right _ h
            rw [List.getElem?_append_left (by omega)]
            exact hc i j h hj
          · obtain rfl : i = n := by omega
            rw [List.getElem?_append_right (by omega), hl, Nat.add_sub_cancel_left]
            exact hcc j hj
    obtain ⟨xs, hl, hok, hc⟩ := hrow len (Nat.le_refl _)
    refine ⟨some a, len, cap, xs, rfl, hlc, hcm, ⟨hl, fun hn => ?_⟩, hok, .inr ⟨_, _, hx.1, by simpa using hel⟩⟩
    -- the address is a plain one
    have h0' := hc 0 0 hn h0
    have hlt : 0 < xs.length := by rw [hl]; exact Nat.mul_pos hn h0
    obtain ⟨b, o, spot⟩ := a
    simp only [Nat.zero_mul, Nat.add_zero, Addr.add, if_true] at h0'
    rw [List.getElem?_eq_getElem hlt] at h0'
    have hsp : spot = none := by
      unfold World.cell? at h0'
      split at h0'
      · split at h0'
        · cases h0'
        · rename_i hs; simpa using hs
      · cases h0'
    subst hsp
    refine ⟨b, o, rfl, World.block_lt_of_cell? _ _ h0', fun j u hu => ?_⟩
    have hj := (List.getElem?_eq_some_iff.1 hu).1
    have hdm := Nat.div_add_mod j sz
    have h3 := hc (j / sz) (j % sz) (by rw [hl] at hj; exact Nat.div_lt_of_lt_mul (by rw [Nat.mul_comm]; exact hj)) (Nat.mod_lt _ h0)
    have hdm' : j / sz * sz + j % sz = j := by rw [Nat.mul_comm]; exact hdm
    rw [add_at0, add_at0, Nat.add_assoc, hdm'] at h3
    rw [← hu, ← h3]
/-- a type of slices -/
theorem flat_slice {P : Program} {t e : TypeId} {ks : List LK} {sz : Nat} (hu : P.underlying t = some (.slice e)) (hf : Flat P e ks) (hk : ks.length = sz) (hce : P.cellsOf e = sz) (h0 : 0 < sz) : Flat P t [LK.sl sz ks] := fun enc w base sp held fuel cs x hx => by
  obtain ⟨d, ps⟩ := x
  obtain ⟨A, n, c, xs, rfl, h1, h2, h3, h4, _⟩ := slice_trod hu hf hk hce h0 hx
  exact ⟨⟨A, n, c, xs, rfl, h1, h2, h3, h4⟩, trivial⟩
/-- a slice of integers -/
theorem allOk_int1 {w : World} {k : IntKind} : ∀ {vs : List Value}, (∀ i, i < vs.length → AllOk w [LK.int k] ((vs.drop (i * 1)).take 1)) → ∃ l : List Int, vs = l.map (Value.int k) ∧ l.length = vs.length ∧ ∀ x ∈ l, (Lit.int k x).wf = true
  | [], _ => ⟨[], rfl, rfl, by simp⟩
  | v :: vs, h => by
    have h0 := h 0 (by simp)
    simp only [Nat.zero_mul, List.drop_zero, List.take_succ_cons, List.take_zero] at h0
    obtain ⟨⟨x, rfl, hx⟩, _⟩ := h0
    obtain ⟨l, rfl, hl, hw⟩ := allOk_int1 (vs := vs) (fun i hi => by have := h (i + 1) (by simpa using hi); simpa using this)
    exact ⟨x :: l, rfl, by simp, by intro y hy; rcases List.mem_cons.1 hy with rfl | hy; exact hx; exact hw y hy⟩
theorem rest_weight {t : TypeId} {ts : List TypeId} {d : DataW H} {ds : List (DataW H)} (h : ∀ x ∈ DataW.weightsEach P (t :: ts) (d :: ds), x ≤ reachBytes) : ∀ x ∈ DataW.weightsEach P ts ds, x ≤ reachBytes := fun x hx => h x (by simp [DataW.weightsEach, hx])
end
end Go.Proofs.Ytpjpaipkkcengaa
namespace Go.Proofs.Ytpjpaipkkcengaa
theorem wf_u8 {x : Int} (h : (Lit.int .u8 x).wf = true) : x = (x.toNat : Int) ∧ x.toNat < 256 := by have := bounds_u8 h; omega
theorem wf_u16 {x : Int} (h : (Lit.int .u16 x).wf = true) : x = (x.toNat : Int) ∧ x.toNat < 65536 := by have := bounds_u16 h; omega
theorem wf_u32 {x : Int} (h : (Lit.int .u32 x).wf = true) : x = (x.toNat : Int) ∧ x.toNat < 4294967296 := by have := bounds_u32 h; omega
end Go.Proofs.Ytpjpaipkkcengaa
namespace Go.Proofs.Ytpjpaipkkcengaa
section
variable {α : Type} {cells : α → List Value} {sz : Nat}
end
theorem AllOk.inv {w : World} {k : LK} {ks : List LK} {cs : List Value} (h : AllOk w (k :: ks) cs) : ∃ v vs, cs = v :: vs ∧ k w v ∧ AllOk w ks vs := by
  rcases cs with _ | ⟨v, vs⟩
  · exact h.elim
  · exact ⟨v, vs, rfl, h.1, h.2⟩
theorem AllOk.nil_inv {w : World} {cs : List Value} (h : AllOk w [] cs) : cs = [] := by
  rcases cs with _ | ⟨v, vs⟩
  · rfl
  · exact h.elim
theorem sl_ints {w : World} {k : IntKind} {v : Value} (h : LK.sl 1 [LK.int k] w v) : ∃ (A : Option Addr) (n c : Nat) (l : List Int), v = .slice A n c ∧ n ≤ c ∧ c ≤ maxLen ∧ Rd w A 1 n (l.map (Value.int k)) ∧ l.length = n ∧ ∀ x ∈ l, (Lit.int k x).wf = true := by
  obtain ⟨A, n, c, xs, rfl, h1, h2, h3, h4⟩ := h
  have hl : xs.length = n := by simpa using h3.1
  obtain ⟨l, rfl, hll, hw⟩ := allOk_int1 (w := w) (vs := xs) (fun i hi => h4 i (by omega))
  exact ⟨A, n, c, l, rfl, h1, h2, h3, by omega, hw⟩
structure Pc where
  d : Int
  x : Nat
  c : Int
  nm : List Int
  A : Option Addr
  cap : Nat
  b : List Int
  n : Int
structure PcOk (w : World) (p : Pc) : Prop where
  d : -9223372036854775808 ≤ p.d ∧ p.d ≤ 9223372036854775807
  x : p.x < 18446744073709551616
  c : 0 ≤ p.c ∧ p.c ≤ 255
  nl : p.nm.length = 8
  nb : Byt p.nm
  rd : Rd w p.A 1 p.b.length (p.b.map (Value.int .u8))
  bb : Byt p.b
  bc : p.b.length ≤ p.cap
  bm : p.cap ≤ maxLen
  n : -9223372036854775808 ≤ p.n ∧ p.n ≤ 9223372036854775807
end Go.Proofs.Ytpjpaipkkcengaa
set_option linter.unusedSimpArgs false
set_option linter.unusedVariables false
set_option maxHeartbeats 800000
set_option maxRecDepth 100000
namespace Go.Proofs.Ytpjpaipkkcengaa
open Go.RowKit

theorem PcOk.ext {w w' : World} {p : Pc} (h : PcOk w p) (hE : Ext w w') : PcOk w' p := ⟨h.d, h.x, h.c, h.nl, h.nb, Res.holds_ext (r := .rd p.A 1 p.b.length (p.b.map (Value.int .u8))) h.rd hE, h.bb, h.bc, h.bm, h.n⟩
end Go.Proofs.Ytpjpaipkkcengaa
namespace Go.Proofs.Ytpjpaipkkcengaa
/-- a frame's numbers and bytes -/
structure Fm where
  k : Nat
  fr : Nat
  to : Nat
  ss : Nat
  sq : Nat
  pt : Nat
  off : Nat
  la : Bool
  d : List Int
def fm0 : Fm := ⟨0, 0, 0, 0, 0, 0, 0, false, []⟩
structure FmOk (f : Fm) : Prop where
  k : f.k < 256
  fr : f.fr < 256
  to : f.to < 256
  ss : f.ss < 4294967296
  sq : f.sq < 4294967296
  pt : f.pt < 256
  off : f.off < 4294967296
  d : Byt f.d
def checkF (f : Fm) : Int := if f.k < 1 ∨ 3 < f.k then 14 else if 16 ≤ f.fr ∨ 16 ≤ f.to ∨ f.fr = f.to then 1 else if 65536 < f.d.length then 15 else 0
def boolN (b : Bool) : Int := if b then 1 else 0
def fmBody (f : Fm) : List Int := (f.k : Int) :: (f.fr : Int) :: (f.to : Int) :: (vari f.ss ++ (vari f.sq ++ ((f.pt : Int) :: (vari f.off ++ (boolN f.la :: (vari f.d.length ++ f.d))))))
theorem fmBody_len {f : Fm} (h : FmOk f) (hd : f.d.length < 2097152) : (fmBody f).length ≤ f.d.length + 24 := by
  have h1 : (vari f.ss).length ≤ 5 := vari_len_le (by omega) (by have := h.ss; omega)
  have h2 : (vari f.sq).length ≤ 5 := vari_len_le (by omega) (by have := h.sq; omega)
  have h3 : (vari f.off).length ≤ 5 := vari_len_le (by omega) (by have := h.off; omega)
  have h4 : (vari f.d.length).length ≤ 3 := vari_len_le (by omega) (by omega)
  simp [fmBody]; omega
theorem fmBody_byt {f : Fm} (h : FmOk f) : Byt (fmBody f) := by
  have c : ∀ {x : Int} {l : List Int}, (0 ≤ x ∧ x ≤ 255) → Byt l → Byt (x :: l) := fun hx hl y hy => by
    rcases List.mem_cons.1 hy with rfl | hy
    · exact hx
    · exact hl y hy
  have hb : ∀ b, 0 ≤ boolN b ∧ boolN b ≤ 255 := fun b => by cases b <;> decide
  exact c (by have := h.k; omega) (c (by have := h.fr; omega) (c (by have := h.to; omega) (Byt.app (vari_byt _) (Byt.app (vari_byt _) (c (by have := h.pt; omega) (Byt.app (vari_byt _) (c (hb _) (Byt.app (vari_byt _) h.d))))))))
/-- where reading stands: the error, what comes -/
abbrev Rs := Int × List Int
def nextB (s : Rs) : Rs := (oneS s.1 s.2).2
def nextN (s : Rs) : Rs := (numS 4294967295 s.1 s.2).2
def valB (s : Rs) : Int := (oneS s.1 s.2).1
def valN (s : Rs) : Nat := (numS 4294967295 s.1 s.2).1
structure FrSt where
  s1 : Rs
  s2 : Rs
  s3 : Rs
  s4 : Rs
  s5 : Rs
  s6 : Rs
  s7 : Rs
  s8 : Rs
  s9 : Rs
def frSt (xs : List Int) : FrSt :=
  let s1 := nextB (0, xs); let s2 := nextB s1; let s3 := nextB s2; let s4 := nextN s3; let s5 := nextN s4; let s6 := nextB s5; let s7 := nextN s6; let s8 := nextB s7
  ⟨s1, s2, s3, s4, s5, s6, s7, s8, (bytS 65536 s8.1 s8.2).2⟩
def frRaw (xs : List Int) : Fm := ⟨(valB (0, xs)).toNat, (valB (frSt xs).s1).toNat, (valB (frSt xs).s2).toNat, valN (frSt xs).s3, valN (frSt xs).s4, (valB (frSt xs).s5).toNat, valN (frSt xs).s6, decide (valB (frSt xs).s7 = 1), (bytS 65536 (frSt xs).s8.1 (frSt xs).s8.2).1⟩
def frE (xs : List Int) : Int :=
  if (frSt xs).s9.1 = 0 then (if 1 < valB (frSt xs).s7 ∨ 0 < (frSt xs).s9.2.length then 3 else checkF (frRaw xs)) else (frSt xs).s9.1
def frF (xs : List Int) : Fm := if frE xs = 0 then frRaw xs else fm0
theorem fr_back {f : Fm} (h : FmOk f) (hc : checkF f = 0) : frE (fmBody f) = 0 ∧ frF (fmBody f) = f := by
  have u32 : ∀ {x : Nat}, x < 4294967296 → ∀ l, numS 4294967295 0 (vari x ++ l) = (x, 0, l) := fun hx l => numS_back (by omega) (by omega) l
  have hd : f.d.length ≤ 65536 := by
    unfold checkF at hc
    split at hc
    · cases hc
    · split at hc
      · cases hc
      · split at hc
        · cases hc
        · omega
  have s1 : (frSt (fmBody f)).s1 = (0, (fmBody f).drop 1) := by simp only [frSt, nextB, fmBody, oneS_back]; rfl
  have s2 : (frSt (fmBody f)).s2 = (0, (fmBody f).drop 2) := by simp only [frSt, nextB, fmBody, oneS_back]; rfl
  have s3 : (frSt (fmBody f)).s3 = (0, (fmBody f).drop 3) := by simp only [frSt, nextB, fmBody, oneS_back]; rfl
  have s4 : (frSt (fmBody f)).s4 = (0, (vari f.sq ++ ((f.pt : Int) :: (vari f.off ++ (boolN f.la :: (vari f.d.length ++ f.d)))))) := by simp only [frSt, nextB, nextN, fmBody, oneS_back, u32 h.ss]
  have s5 : (frSt (fmBody f)).s5 = (0, (f.pt : Int) :: (vari f.off ++ (boolN f.la :: (vari f.d.length ++ f.d)))) := by simp only [frSt, nextB, nextN, fmBody, oneS_back, u32 h.ss, u32 h.sq]
  have s6 : (frSt (fmBody f)).s6 = (0, vari f.off ++ (boolN f.la :: (vari f.d.length ++ f.d))) := by simp only [frSt, nextB, nextN, fmBody, oneS_back, u32 h.ss, u32 h.sq]
  have s7 : (frSt (fmBody f)).s7 = (0, boolN f.la :: (vari f.d.length ++ f.d)) := by simp only [frSt, nextB, nextN, fmBody, oneS_back, u32 h.ss, u32 h.sq, u32 h.off]
  have s8 : (frSt (fmBody f)).s8 = (0, vari f.d.length ++ (f.d ++ [])) := by simp only [frSt, nextB, nextN, fmBody, oneS_back, u32 h.ss, u32 h.sq, u32 h.off, List.append_nil]
  have hby := bytS_back (ys := f.d) (m := 65536) (by omega) hd []
  have s9 : (frSt (fmBody f)).s9 = (0, []) := by
    have : (frSt (fmBody f)).s9 = (bytS 65536 (frSt (fmBody f)).s8.1 (frSt (fmBody f)).s8.2).2 := rfl
    rw [this, s8]; simp only [hby]
  have vl : valB (frSt (fmBody f)).s7 = boolN f.la := by rw [s7]; simp only [valB, oneS_back]
  have hraw : frRaw (fmBody f) = f := by
    unfold frRaw
    rw [vl, s1, s2, s3, s4, s5, s6, s8]
    simp only [valB, valN, hby, fmBody, List.drop_succ_cons, List.drop_zero, oneS_back, u32 h.ss, u32 h.sq, u32 h.off, Int.toNat_natCast]
    have : decide (boolN f.la = 1) = f.la := by cases f.la <;> rfl
    rw [this]
  have hE : frE (fmBody f) = 0 := by
    unfold frE
    rw [s9, vl, hraw, if_pos rfl, if_neg (by have : boolN f.la ≤ 1 := by { cases f.la <;> decide }; simp; omega), hc]
  exact ⟨hE, by rw [frF, if_pos hE, hraw]⟩
end Go.Proofs.Ytpjpaipkkcengaa
set_option linter.unusedSimpArgs false
set_option linter.unusedVariables false
set_option maxHeartbeats 4000000
set_option maxRecDepth 100000
namespace Go.Proofs.Ytpjpaipkkcengaa
open Go.RowKit

def fmL (f : Fm) (A : Option Addr) (cp : Nat) : List Value := [.int .u8 (f.k : Int), .int .u8 (f.fr : Int), .int .u8 (f.to : Int), .int .u32 (f.ss : Int), .int .u32 (f.sq : Int), .int .u8 (f.pt : Int), .int .u32 (f.off : Int), .bool f.la, .slice A f.d.length cp]
def FA (f : Fm) (A : Option Addr) (cp : Nat) : Array Value := (fmL f A cp).toArray
def fmKs : List LK := [LK.int .u8, LK.int .u8, LK.int .u8, LK.int .u32, LK.int .u32, LK.int .u8, LK.int .u32, LK.bool, LK.sl 1 [LK.int .u8]]
theorem Rd.ext' {w w' : World} {A : Option Addr} {sz n : Nat} {xs : List Value} (h : Rd w A sz n xs) (hE : Ext w w') : Rd w' A sz n xs := Res.holds_ext (r := .rd A sz n xs) h hE
/-- a function value that answers e -/
structure Cl where
  F : Nat
  B : Array Value
  C : Array Value
  e : Int
def Cl.val (x : Cl) : Value := .func (.func x.F) x.B x.C
def cl0 : Cl := ⟨0, #[], #[], 0⟩
def firstE : List Int → Int
  | [] => 0
  | e :: l => if e = 0 then firstE l else e
theorem firstE_at : ∀ {es : List Int} {k : Nat}, (∀ j, j < k → es.getD j 0 = 0) → k < es.length → ¬ es.getD k 0 = 0 → firstE es = es.getD k 0
  | [], _, _, hk, _ => absurd hk (by simp)
  | e :: l, 0, _, _, h => if_neg h
  | e :: l, k + 1, hz, hk, h => by
    have h0 : e = 0 := hz 0 (by omega)
    rw [firstE, if_pos h0]
    exact firstE_at (es := l) (k := k) (fun j hj => hz (j + 1) (by omega)) (by simpa using hk) h
theorem firstE_end : ∀ {es : List Int}, (∀ j, j < es.length → es.getD j 0 = 0) → firstE es = 0
  | [], _ => rfl
  | e :: l, hz => by
    have h0 : e = 0 := hz 0 (by simp)
    rw [firstE, if_pos h0]
    exact firstE_end (es := l) (fun j hj => hz (j + 1) (by simpa using hj))
theorem cl_mem {cl : List Cl} {k : Nat} (h : k < cl.length) : cl.getD k cl0 ∈ cl := by
  rw [List.getD_eq_getElem?_getD, List.getElem?_eq_getElem h]; simp
theorem cl_at {cl : List Cl} {k : Nat} (h : k < cl.length) : (cl.map Cl.val)[k]? = some (.func (.func (cl.getD k cl0).F) (cl.getD k cl0).B (cl.getD k cl0).C) := by
  rw [List.getElem?_map, List.getD_eq_getElem?_getD, List.getElem?_eq_getElem h]; rfl
theorem cl_e {cl : List Cl} {k : Nat} : (cl.map Cl.e).getD k 0 = (cl.getD k cl0).e := by
  simp only [List.getD_eq_getElem?_getD, List.getElem?_map]
  cases cl[k]? <;> rfl
theorem chk_first (f : Fm) : firstE [if decide (1 ≤ f.k ∧ f.k ≤ 3) = true then 0 else 14, if decide (f.fr < 16 ∧ f.to < 16 ∧ ¬ f.fr = f.to) = true then 0 else 1, if decide (f.d.length ≤ 65536) = true then 0 else 15] = checkF f := by
  unfold checkF
  by_cases h1 : 1 ≤ f.k ∧ f.k ≤ 3
  · rw [if_neg (show ¬ (f.k < 1 ∨ 3 < f.k) by omega), if_pos (decide_eq_true h1), firstE, if_pos rfl]
    by_cases h2 : f.fr < 16 ∧ f.to < 16 ∧ ¬ f.fr = f.to
    · rw [if_neg (show ¬ (16 ≤ f.fr ∨ 16 ≤ f.to ∨ f.fr = f.to) by omega), if_pos (decide_eq_true h2), firstE, if_pos rfl]
      by_cases h3 : f.d.length ≤ 65536
      · rw [if_neg (show ¬ 65536 < f.d.length by omega), if_pos (decide_eq_true h3)]; rfl
      · rw [if_pos (show 65536 < f.d.length by omega), if_neg (by simpa using h3)]; rfl
    · rw [if_pos (show 16 ≤ f.fr ∨ 16 ≤ f.to ∨ f.fr = f.to by omega), if_neg (by simpa using h2)]; rfl
  · rw [if_pos (show f.k < 1 ∨ 3 < f.k by omega), if_neg (by simpa using h1)]; rfl
theorem fm_eq {f g : Fm} (h1 : (f.k : Int) = g.k) (h2 : (f.fr : Int) = g.fr) (h3 : (f.to : Int) = g.to) (h4 : (f.ss : Int) = g.ss) (h5 : (f.sq : Int) = g.sq) (h6 : (f.pt : Int) = g.pt) (h7 : (f.off : Int) = g.off) (h8 : f.la = g.la) (h9 : f.d = g.d) : f = g := by
  cases f; cases g
  simp only at *
  simp only [Fm.mk.injEq]
  refine ⟨?_, ?_, ?_, ?_, ?_, ?_, ?_, h8, h9⟩ <;> omega
instance : DecidableEq Fm := fun f g => if h : f.k = g.k ∧ f.fr = g.fr ∧ f.to = g.to ∧ f.ss = g.ss ∧ f.sq = g.sq ∧ f.pt = g.pt ∧ f.off = g.off ∧ f.la = g.la ∧ f.d = g.d then isTrue (fm_eq (by omega) (by omega) (by omega) (by omega) (by omega) (by omega) (by omega) h.2.2.2.2.2.2.2.1 h.2.2.2.2.2.2.2.2) else isFalse (fun e => h (by subst e; simp))

theorem c_frTruth (b : Bool)  (w0 : World) :
    CallR Try.prog 152 #[.bool b] w0 fun v w' => v = .int .u8 (boolN b) ∧ Ext w0 w' := by
 have hS : St NoB w0 w0 [] := St.start w0
 refine c_enter (l := [.bool b, undef, undef, undef, undef]) Try.func152 rfl (by simp only [Try.ntmps152, List.size_toArray, List.length_cons, List.length_nil, Nat.reduceAdd, Nat.reduceSub, Array.replicate_succ, Array.replicate_zero, List.push_toArray, List.append_toArray, List.nil_append, List.cons_append]) ?_
 refine x_seq fun K1 hK1 => ?_
 refine x_region ?_
 refine s_go (s_assign) ?_
 try simp only [opv, n1, n2, n3, n4, Value.cells]
 refine x_nil ?_
 refine hK1 _ _ ?_
 refine x_seq fun K2 hK2 => ?_
 refine x_block ?_
 refine x_seq fun K3 hK3 => ?_
 refine x_region ?_
 refine s_go (s_move) ?_
 try simp only [opv, n1, n2, n3, n4, Value.cells]
 refine s_go (s_assign) ?_
 try simp only [opv, n1, n2, n3, n4, Value.cells]
 refine x_nil ?_
 refine hK3 _ _ ?_
 refine x_cond (ht := fun hc1 => ?_) (hf := fun hc1 => ?_)
 ·
  try simp only [decide_eq_true_eq, decide_eq_false_iff_not, Bool.not_eq_true', Bool.not_eq_false', Int.not_lt, Int.not_le, ne_eq, Decidable.not_not, bne_iff_ne, beq_iff_eq, not_true_eq_false, not_false_eq_true] at hc1
  have hb : b = true := hc1
  subst hb
  refine x_seq fun K4 hK4 => ?_
  refine x_region ?_
  refine s_go (s_assign) ?_
  try simp only [opv, n1, n2, n3, n4, Value.cells]
  refine x_nil ?_
  refine hK4 _ _ ?_
  refine x_ret ?_
  refine r_tmp rfl ?_
  exact ⟨rfl, hS.ext_of⟩
 ·
  try simp only [decide_eq_true_eq, decide_eq_false_iff_not, Bool.not_eq_true', Bool.not_eq_false', Int.not_lt, Int.not_le, ne_eq, Decidable.not_not, bne_iff_ne, beq_iff_eq, not_true_eq_false, not_false_eq_true] at hc1
  have hb : b = false := by simpa using hc1
  subst hb
  refine x_skip ?_
  refine hK2 _ _ ?_
  refine x_seq fun K5 hK5 => ?_
  refine x_region ?_
  refine s_go (s_assign) ?_
  try simp only [opv, n1, n2, n3, n4, Value.cells]
  refine x_nil ?_
  refine hK5 _ _ ?_
  refine x_ret ?_
  refine r_tmp rfl ?_
  exact ⟨rfl, hS.ext_of⟩
theorem c_frChk1 (w0 : World) (q : Nat) (f : Fm) (A : Option Addr) (cp : Nat) (hq : Rd w0 (some ⟨q, 0, none⟩) 1 9 (fmL f A cp))  :
    CallR Try.prog 161 #[.pointer (some ⟨q, 0, none⟩)] w0 fun v w' => v = .bool (decide (1 ≤ f.k ∧ f.k ≤ 3)) ∧ Ext w0 w' := by
 have hS := St.rd1 (S := NoB) hq
 refine c_enter (l := [.pointer (some ⟨q, 0, none⟩), undef, undef, undef, undef, undef, undef, undef, undef, undef]) Try.func161 rfl (by simp only [Try.ntmps161, List.size_toArray, List.length_cons, List.length_nil, Nat.reduceAdd, Nat.reduceSub, Array.replicate_succ, Array.replicate_zero, List.push_toArray, List.append_toArray, List.nil_append, List.cons_append]) ?_
 refine x_seq fun K1 hK1 => ?_
 refine x_region ?_
 refine s_go (s_assign) ?_
 try simp only [opv, n1, n2, n3, n4, Value.cells]
 refine x_nil ?_
 refine hK1 _ _ ?_
 refine x_seq fun K2 hK2 => ?_
 refine x_region ?_
 refine s_go (m_fieldAddr Try.underlying90 (hi := ti5)) ?_
 try simp only [opv, n1, n2, n3, n4, Value.cells, Nat.zero_add, Nat.add_zero, List.getElem_toArray, List.getElem_cons_zero, List.getElem_cons_succ]
 refine s_go (m_load_bx Try.underlying5 (hS := hS)) ?_
 try simp only [opv, n1, n2, n3, n4, Value.cells, List.getElem_toArray, List.getElem_cons_zero, List.getElem_cons_succ]
 refine s_go (s_geq) ?_
 try simp only [opv, n1, n2, n3, n4, Value.cells]
 refine s_go (s_move) ?_
 try simp only [opv, n1, n2, n3, n4, Value.cells]
 refine s_part 5 rfl (fun hp1 => ?_) (fun hp1 => ?_)
 ·
  try simp only [n3, n4]
  try simp only [decide_eq_true_eq, decide_eq_false_iff_not, Bool.not_eq_true', Bool.not_eq_false', Int.not_lt, Int.not_le, ne_eq, Decidable.not_not] at hp1
  refine g_on (yi (t := 5) rfl rfl) ?_
  refine s_go (m_fieldAddr Try.underlying90 (hi := ti5)) ?_
  try simp only [opv, n1, n2, n3, n4, Value.cells, Nat.zero_add, Nat.add_zero, List.getElem_toArray, List.getElem_cons_zero, List.getElem_cons_succ]
  refine g_on (yi (t := 5) rfl rfl) ?_
  refine s_go (m_load_bx Try.underlying5 (hS := hS)) ?_
  try simp only [opv, n1, n2, n3, n4, Value.cells, List.getElem_toArray, List.getElem_cons_zero, List.getElem_cons_succ]
  refine g_on (yi (t := 5) rfl rfl) ?_
  refine s_go (s_leq) ?_
  try simp only [opv, n1, n2, n3, n4, Value.cells]
  refine s_go (s_pick_t) ?_
  try simp only [opv, n1, n2, n3, n4, Value.cells]
  refine s_go (s_assign) ?_
  try simp only [opv, n1, n2, n3, n4, Value.cells]
  refine x_nil ?_
  refine hK2 _ _ ?_
  refine x_ret ?_
  refine r_tmp rfl ?_
  exact ⟨congrArg Value.bool (by exact decide_eq_decide.2 (by omega)), hS.ext_of⟩
 ·
  try simp only [n3, n4]
  try simp only [decide_eq_true_eq, decide_eq_false_iff_not, Bool.not_eq_true', Bool.not_eq_false', Int.not_lt, Int.not_le, ne_eq, Decidable.not_not] at hp1
  refine g_off (yi (t := 5) rfl rfl) ?_
  try simp only [opv, n1, n2, n3, n4, Value.cells]
  refine g_off (yi (t := 5) rfl rfl) ?_
  try simp only [opv, n1, n2, n3, n4, Value.cells]
  refine g_off (yi (t := 5) rfl rfl) ?_
  try simp only [opv, n1, n2, n3, n4, Value.cells]
  refine s_go (s_pick_f) ?_
  try simp only [opv, n1, n2, n3, n4, Value.cells]
  refine s_go (s_assign) ?_
  try simp only [opv, n1, n2, n3, n4, Value.cells]
  refine x_nil ?_
  refine hK2 _ _ ?_
  refine x_ret ?_
  refine r_tmp rfl ?_
  exact ⟨congrArg Value.bool (by exact (decide_eq_false (by omega)).symm), hS.ext_of⟩
theorem c_frChk2 (w0 : World) (q : Nat) (f : Fm) (A : Option Addr) (cp : Nat) (hq : Rd w0 (some ⟨q, 0, none⟩) 1 9 (fmL f A cp))  :
    CallR Try.prog 162 #[.pointer (some ⟨q, 0, none⟩)] w0 fun v w' => v = .bool (decide (f.fr < 16 ∧ f.to < 16 ∧ ¬ f.fr = f.to)) ∧ Ext w0 w' := by
 have hS := St.rd1 (S := NoB) hq
 refine c_enter (l := [.pointer (some ⟨q, 0, none⟩), undef, undef, undef, undef, undef, undef, undef, undef, undef, undef, undef, undef, undef, undef, undef, undef]) Try.func162 rfl (by simp only [Try.ntmps162, List.size_toArray, List.length_cons, List.length_nil, Nat.reduceAdd, Nat.reduceSub, Array.replicate_succ, Array.replicate_zero, List.push_toArray, List.append_toArray, List.nil_append, List.cons_append]) ?_
 refine x_seq fun K1 hK1 => ?_
 refine x_region ?_
 refine s_go (s_assign) ?_
 try simp only [opv, n1, n2, n3, n4, Value.cells]
 refine x_nil ?_
 refine hK1 _ _ ?_
 refine x_seq fun K2 hK2 => ?_
 refine x_region ?_
 refine s_go (m_fieldAddr Try.underlying90 (hi := ti5)) ?_
 try simp only [opv, n1, n2, n3, n4, Value.cells, Nat.zero_add, Nat.add_zero, List.getElem_toArray, List.getElem_cons_zero, List.getElem_cons_succ]
 refine s_go (m_load_bx Try.underlying5 (hS := hS)) ?_
 try simp only [opv, n1, n2, n3, n4, Value.cells, List.getElem_toArray, List.getElem_cons_zero, List.getElem_cons_succ]
 refine s_go (s_lss) ?_
 try simp only [opv, n1, n2, n3, n4, Value.cells]
 refine s_go (s_move) ?_
 try simp only [opv, n1, n2, n3, n4, Value.cells]
 refine s_part 5 rfl (fun hp1 => ?_) (fun hp1 => ?_)
 ·
  try simp only [n3, n4]
  try simp only [decide_eq_true_eq, decide_eq_false_iff_not, Bool.not_eq_true', Bool.not_eq_false', Int.not_lt, Int.not_le, ne_eq, Decidable.not_not] at hp1
  refine g_on (yi (t := 5) rfl rfl) ?_
  refine s_go (m_fieldAddr Try.underlying90 (hi := ti5)) ?_
  try simp only [opv, n1, n2, n3, n4, Value.cells, Nat.zero_add, Nat.add_zero, List.getElem_toArray, List.getElem_cons_zero, List.getElem_cons_succ]
  refine g_on (yi (t := 5) rfl rfl) ?_
  refine s_go (m_load_bx Try.underlying5 (hS := hS)) ?_
  try simp only [opv, n1, n2, n3, n4, Value.cells, List.getElem_toArray, List.getElem_cons_zero, List.getElem_cons_succ]
  refine g_on (yi (t := 5) rfl rfl) ?_
  refine s_go (s_lss) ?_
  try simp only [opv, n1, n2, n3, n4, Value.cells]
  refine s_go (s_pick_t) ?_
  try simp only [opv, n1, n2, n3, n4, Value.cells]
  refine s_go (s_move) ?_
  try simp only [opv, n1, n2, n3, n4, Value.cells]
  refine s_part 10 rfl (fun hp2 => ?_) (fun hp2 => ?_)
  ·
   try simp only [n3, n4]
   try simp only [decide_eq_true_eq, decide_eq_false_iff_not, Bool.not_eq_true', Bool.not_eq_false', Int.not_lt, Int.not_le, ne_eq, Decidable.not_not] at hp2
   refine g_on (yi (t := 10) rfl rfl) ?_
   refine s_go (m_fieldAddr Try.underlying90 (hi := ti5)) ?_
   try simp only [opv, n1, n2, n3, n4, Value.cells, Nat.zero_add, Nat.add_zero, List.getElem_toArray, List.getElem_cons_zero, List.getElem_cons_succ]
   refine g_on (yi (t := 10) rfl rfl) ?_
   refine s_go (m_load_bx Try.underlying5 (hS := hS)) ?_
   try simp only [opv, n1, n2, n3, n4, Value.cells, List.getElem_toArray, List.getElem_cons_zero, List.getElem_cons_succ]
   refine g_on (yi (t := 10) rfl rfl) ?_
   refine s_go (m_fieldAddr Try.underlying90 (hi := ti5)) ?_
   try simp only [opv, n1, n2, n3, n4, Value.cells, Nat.zero_add, Nat.add_zero, List.getElem_toArray, List.getElem_cons_zero, List.getElem_cons_succ]
   refine g_on (yi (t := 10) rfl rfl) ?_
   refine s_go (m_load_bx Try.underlying5 (hS := hS)) ?_
   try simp only [opv, n1, n2, n3, n4, Value.cells, List.getElem_toArray, List.getElem_cons_zero, List.getElem_cons_succ]
   refine g_on (yi (t := 10) rfl rfl) ?_
   refine s_go (s_neq) ?_
   try simp only [opv, n1, n2, n3, n4, Value.cells]
   refine s_go (s_pick_t) ?_
   try simp only [opv, n1, n2, n3, n4, Value.cells]
   refine s_go (s_assign) ?_
   try simp only [opv, n1, n2, n3, n4, Value.cells]
   refine x_nil ?_
   refine hK2 _ _ ?_
   refine x_ret ?_
   refine r_tmp rfl ?_
   exact ⟨congrArg Value.bool (by exact decide_eq_decide.2 (by omega)), hS.ext_of⟩
  ·
   try simp only [n3, n4]
   try simp only [decide_eq_true_eq, decide_eq_false_iff_not, Bool.not_eq_true', Bool.not_eq_false', Int.not_lt, Int.not_le, ne_eq, Decidable.not_not] at hp2
   refine g_off (yi (t := 10) rfl rfl) ?_
   try simp only [opv, n1, n2, n3, n4, Value.cells]
   refine g_off (yi (t := 10) rfl rfl) ?_
   try simp only [opv, n1, n2, n3, n4, Value.cells]
   refine g_off (yi (t := 10) rfl rfl) ?_
   try simp only [opv, n1, n2, n3, n4, Value.cells]
   refine g_off (yi (t := 10) rfl rfl) ?_
   try simp only [opv, n1, n2, n3, n4, Value.cells]
   refine g_off (yi (t := 10) rfl rfl) ?_
   try simp only [opv, n1, n2, n3, n4, Value.cells]
   refine s_go (s_pick_f) ?_
   try simp only [opv, n1, n2, n3, n4, Value.cells]
   refine s_go (s_assign) ?_
   try simp only [opv, n1, n2, n3, n4, Value.cells]
   refine x_nil ?_
   refine hK2 _ _ ?_
   refine x_ret ?_
   refine r_tmp rfl ?_
   exact ⟨congrArg Value.bool (by exact (decide_eq_false (by omega)).symm), hS.ext_of⟩
 ·
  try simp only [n3, n4]
  try simp only [decide_eq_true_eq, decide_eq_false_iff_not, Bool.not_eq_true', Bool.not_eq_false', Int.not_lt, Int.not_le, ne_eq, Decidable.not_not] at hp1
  refine g_off (yi (t := 5) rfl rfl) ?_
  try simp only [opv, n1, n2, n3, n4, Value.cells]
  refine g_off (yi (t := 5) rfl rfl) ?_
  try simp only [opv, n1, n2, n3, n4, Value.cells]
  refine g_off (yi (t := 5) rfl rfl) ?_
  try simp only [opv, n1, n2, n3, n4, Value.cells]
  refine s_go (s_pick_f) ?_
  try simp only [opv, n1, n2, n3, n4, Value.cells]
  refine s_go (s_move) ?_
  try simp only [opv, n1, n2, n3, n4, Value.cells]
  refine g_off (yi (t := 10) rfl rfl) ?_
  try simp only [opv, n1, n2, n3, n4, Value.cells]
  refine g_off (yi (t := 10) rfl rfl) ?_
  try simp only [opv, n1, n2, n3, n4, Value.cells]
  refine g_off (yi (t := 10) rfl rfl) ?_
  try simp only [opv, n1, n2, n3, n4, Value.cells]
  refine g_off (yi (t := 10) rfl rfl) ?_
  try simp only [opv, n1, n2, n3, n4, Value.cells]
  refine g_off (yi (t := 10) rfl rfl) ?_
  try simp only [opv, n1, n2, n3, n4, Value.cells]
  refine s_go (s_pick_f) ?_
  try simp only [opv, n1, n2, n3, n4, Value.cells]
  refine s_go (s_assign) ?_
  try simp only [opv, n1, n2, n3, n4, Value.cells]
  refine x_nil ?_
  refine hK2 _ _ ?_
  refine x_ret ?_
  refine r_tmp rfl ?_
  exact ⟨congrArg Value.bool (by exact (decide_eq_false (by omega)).symm), hS.ext_of⟩
theorem c_frChk3 (w0 : World) (q : Nat) (f : Fm) (A : Option Addr) (cp : Nat) (hq : Rd w0 (some ⟨q, 0, none⟩) 1 9 (fmL f A cp))  :
    CallR Try.prog 163 #[.pointer (some ⟨q, 0, none⟩)] w0 fun v w' => v = .bool (decide (f.d.length ≤ 65536)) ∧ Ext w0 w' := by
 have hS := St.rd1 (S := NoB) hq
 refine c_enter (l := [.pointer (some ⟨q, 0, none⟩), undef, undef, undef, undef, undef]) Try.func163 rfl (by simp only [Try.ntmps163, List.size_toArray, List.length_cons, List.length_nil, Nat.reduceAdd, Nat.reduceSub, Array.replicate_succ, Array.replicate_zero, List.push_toArray, List.append_toArray, List.nil_append, List.cons_append]) ?_
 refine x_seq fun K1 hK1 => ?_
 refine x_region ?_
 refine s_go (s_assign) ?_
 try simp only [opv, n1, n2, n3, n4, Value.cells]
 refine x_nil ?_
 refine hK1 _ _ ?_
 refine x_seq fun K2 hK2 => ?_
 refine x_region ?_
 refine s_go (m_fieldAddr Try.underlying90 (hi := ti43)) ?_
 try simp only [opv, n1, n2, n3, n4, Value.cells, Nat.zero_add, Nat.add_zero, List.getElem_toArray, List.getElem_cons_zero, List.getElem_cons_succ]
 refine s_go (m_load_bx Try.underlying43 (hS := hS)) ?_
 try simp only [opv, n1, n2, n3, n4, Value.cells, List.getElem_toArray, List.getElem_cons_zero, List.getElem_cons_succ]
 refine s_go (s_len_sl Try.underlying43) ?_
 try simp only [opv, n1, n2, n3, n4, Value.cells]
 refine s_go (s_leq) ?_
 try simp only [opv, n1, n2, n3, n4, Value.cells]
 refine s_go (s_assign) ?_
 try simp only [opv, n1, n2, n3, n4, Value.cells]
 refine x_nil ?_
 refine hK2 _ _ ?_
 refine x_ret ?_
 refine r_tmp rfl ?_
 exact ⟨congrArg Value.bool (by exact decide_eq_decide.2 (by omega)), hS.ext_of⟩
theorem c_frUnless1 (w0 : World) (g2 g3 q : Nat) (F : Nat) (e : Int) (b : Bool) (he : Enters Try.prog F) (hq : Rd w0 (some ⟨g2, 0, none⟩) 1 1 [.func (.func F) #[] #[.pointer (some ⟨q, 0, none⟩)]]) (hq3 : Rd w0 (some ⟨g3, 0, none⟩) 1 1 [.int .i64 e]) (H : ∀ w, Ext w0 w → CallR Try.prog F #[.pointer (some ⟨q, 0, none⟩)] w fun v w' => v = .bool b ∧ Ext w w')  :
    CallR Try.prog 230 #[.pointer (some ⟨g2, 0, none⟩), .pointer (some ⟨g3, 0, none⟩)] w0 fun v w' => v = .int .i64 (if b = true then 0 else e) ∧ Ext w0 w' := by
 have hS := St.rd2 (S := NoB) hq hq3
 refine c_enter (l := [.pointer (some ⟨g2, 0, none⟩), .pointer (some ⟨g3, 0, none⟩), undef, undef, undef, undef]) Try.func230 rfl (by simp only [Try.ntmps230, List.size_toArray, List.length_cons, List.length_nil, Nat.reduceAdd, Nat.reduceSub, Array.replicate_succ, Array.replicate_zero, List.push_toArray, List.append_toArray, List.nil_append, List.cons_append]) ?_
 refine x_seq fun K1 hK1 => ?_
 refine x_region ?_
 refine s_go (s_assign) ?_
 try simp only [opv, n1, n2, n3, n4, Value.cells]
 refine x_nil ?_
 refine hK1 _ _ ?_
 refine x_seq fun K2 hK2 => ?_
 refine x_seq fun K3 hK3 => ?_
 refine x_region ?_
 refine s_go (m_load_bx Try.underlying23 (hS := hS)) ?_
 try simp only [opv, n1, n2, n3, n4, Value.cells, List.getElem_toArray, List.getElem_cons_zero, List.getElem_cons_succ]
 refine s_callv (hv := rfl) he ?_
 try simp only [opv, n1, n2, n3, n4, Value.cells, List.map_toArray, List.map_cons, List.map_nil, List.append_toArray, List.cons_append, List.nil_append, Array.append_empty]
 refine CallR.mono (H _ hS.ext_of) ?_
 rintro _ w1 ⟨rfl, hE1⟩
 replace hS := hS.ext hE1
 try simp only [opv, n1, n2, n3, n4, Value.cells]
 refine x_nil ?_
 refine hK3 _ _ ?_
 refine x_cond (ht := fun hc1 => ?_) (hf := fun hc1 => ?_)
 ·
  try simp only [decide_eq_true_eq, decide_eq_false_iff_not, Bool.not_eq_true', Bool.not_eq_false', Int.not_lt, Int.not_le, ne_eq, Decidable.not_not, bne_iff_ne, beq_iff_eq, not_true_eq_false, not_false_eq_true] at hc1
  have hb : b = true := hc1
  subst hb
  refine x_seq fun K4 hK4 => ?_
  refine x_region ?_
  refine s_go (s_assign) ?_
  try simp only [opv, n1, n2, n3, n4, Value.cells]
  refine x_nil ?_
  refine hK4 _ _ ?_
  refine x_ret ?_
  refine r_tmp rfl ?_
  exact ⟨rfl, hS.ext_of⟩
 ·
  try simp only [decide_eq_true_eq, decide_eq_false_iff_not, Bool.not_eq_true', Bool.not_eq_false', Int.not_lt, Int.not_le, ne_eq, Decidable.not_not, bne_iff_ne, beq_iff_eq, not_true_eq_false, not_false_eq_true] at hc1
  have hb : b = false := by simpa using hc1
  subst hb
  refine x_skip ?_
  refine hK2 _ _ ?_
  refine x_seq fun K5 hK5 => ?_
  refine x_region ?_
  refine s_go (m_load_bx Try.underlying53 (hS := hS)) ?_
  try simp only [opv, n1, n2, n3, n4, Value.cells, List.getElem_toArray, List.getElem_cons_zero, List.getElem_cons_succ]
  refine s_go (s_assign) ?_
  try simp only [opv, n1, n2, n3, n4, Value.cells]
  refine x_nil ?_
  refine hK5 _ _ ?_
  refine x_ret ?_
  refine r_tmp rfl ?_
  exact ⟨rfl, hS.ext_of⟩
theorem c_frUnless (F q : Nat) (e : Int)  (w0 : World) :
    CallR Try.prog 154 #[.func (.func F) #[] #[.pointer (some ⟨q, 0, none⟩)], .int .i64 e] w0 fun v w' => ∃ a b, v = .func (.func 230) #[] #[.pointer (some ⟨a, 0, none⟩), .pointer (some ⟨b, 0, none⟩)] ∧ St NoB w0 w' [.obj b (.cells #[.int .i64 e] 53 (0, 0)), .obj a (.cells #[.func (.func F) #[] #[.pointer (some ⟨q, 0, none⟩)]] 23 (0, 0))] := by
 have hS : St NoB w0 w0 [] := St.start w0
 refine c_enter (l := [.func (.func F) #[] #[.pointer (some ⟨q, 0, none⟩)], .int .i64 e, undef, undef, undef, undef]) Try.func154 rfl (by simp only [Try.ntmps154, List.size_toArray, List.length_cons, List.length_nil, Nat.reduceAdd, Nat.reduceSub, Array.replicate_succ, Array.replicate_zero, List.push_toArray, List.append_toArray, List.nil_append, List.cons_append]) ?_
 refine x_seq fun K1 hK1 => ?_
 refine x_region ?_
 refine m_box hS (fun w1 g1 hS => ?_)
 try simp only [opv, n1, n2, n3, n4, Value.cells, Array.toArray_toList] at hS ⊢
 refine m_box hS (fun w2 g2 hS => ?_)
 try simp only [opv, n1, n2, n3, n4, Value.cells, Array.toArray_toList] at hS ⊢
 refine s_go (s_assign) ?_
 try simp only [opv, n1, n2, n3, n4, Value.cells]
 refine x_nil ?_
 refine hK1 _ _ ?_
 refine x_seq fun K2 hK2 => ?_
 refine x_region ?_
 refine s_go (s_makeFunc) ?_
 try simp only [opv, n1, n2, n3, n4, Value.cells, List.map_toArray, List.map_cons, List.map_nil]
 refine s_go (s_assign) ?_
 try simp only [opv, n1, n2, n3, n4, Value.cells]
 refine x_nil ?_
 refine hK2 _ _ ?_
 refine x_ret ?_
 refine r_tmp rfl ?_
 exact ⟨_, _, rfl, hS.sel (by repeat (first | exact Sel.nil | (refine Sel.cons (by repeat (exact Del.head)) ?_)))⟩
theorem c_frFirst (w0 : World) (A : Option Addr) (n c : Nat) (cl : List Cl) (hr : Rd w0 A 1 n (cl.map Cl.val)) (hl : cl.length = n) (hn : n ≤ 1000) (he : ∀ x ∈ cl, Enters Try.prog x.F) (H : ∀ x ∈ cl, ∀ w, Ext w0 w → CallR Try.prog x.F (x.B ++ x.C) w fun v w' => v = .int .i64 x.e ∧ Ext w w') :
    CallR Try.prog 153 #[.slice A n c] w0 fun v w' => v = .int .i64 (firstE (cl.map Cl.e)) ∧ Ext w0 w' := by
 have hS := St.rd1 (S := NoB) hr
 refine c_enter (l := [.slice A n c, undef, undef, undef, undef, undef, undef, undef, undef, undef, undef, undef, undef, undef, undef, undef, undef, undef]) Try.func153 rfl (by simp only [Try.ntmps153, List.size_toArray, List.length_cons, List.length_nil, Nat.reduceAdd, Nat.reduceSub, Array.replicate_succ, Array.replicate_zero, List.push_toArray, List.append_toArray, List.nil_append, List.cons_append]) ?_
 refine x_seq fun K1 hK1 => ?_
 refine x_region ?_
 refine s_go (s_assign) ?_
 try simp only [opv, n1, n2, n3, n4, Value.cells]
 refine x_nil ?_
 refine hK1 _ _ ?_
 refine x_seq fun K2 hK2 => ?_
 refine x_seq fun K3 hK3 => ?_
 refine x_region ?_
 refine s_go (s_move) ?_
 try simp only [opv, n1, n2, n3, n4, Value.cells]
 refine s_go (s_len_sl Try.underlying247) ?_
 try simp only [opv, n1, n2, n3, n4, Value.cells]
 refine s_go (s_move) ?_
 try simp only [opv, n1, n2, n3, n4, Value.cells]
 refine x_nil ?_
 refine hK3 _ _ ?_
 refine x_block ?_
 refine x_loop [2, 4, 5, 8, 9, 10, 11, 12, 13, 14, 15, 16, 17] (fun m f w => ∃ k : Nat, k ≤ n ∧ m = n - k ∧ f 8 = .int .i64 (k : Int) ∧ (∀ j, j < k → (cl.map Cl.e).getD j 0 = 0) ∧ St NoB w0 w [.rd A 1 n (cl.map Cl.val)]) (n) ?init1 (fun m1 f1 wl1 hI => ?_)
 case init1 =>
  try simp only [opv, n1, n2, n3, n4, Value.cells]
  exact ⟨0, by omega, rfl, rfl, fun j hj => absurd hj (by omega), hS⟩
 obtain ⟨k, hk, hm, h8, hz, hS⟩ := hI
 simp only [clob, List.foldl, n3, n4, h8]
 refine x_seq fun K4 hK4 => ?_
 refine x_region ?_
 refine s_go (s_lss) ?_
 try simp only [opv, n1, n2, n3, n4, Value.cells]
 refine x_nil ?_
 refine hK4 _ _ ?_
 refine x_seq fun K5 hK5 => ?_
 refine x_cond (ht := fun hc1 => ?_) (hf := fun hc1 => ?_)
 ·
  try simp only [decide_eq_true_eq, decide_eq_false_iff_not, Bool.not_eq_true', Bool.not_eq_false', Int.not_lt, Int.not_le, ne_eq, Decidable.not_not, bne_iff_ne, beq_iff_eq, not_true_eq_false, not_false_eq_true] at hc1
  have hcm := cl_mem (cl := cl) (k := k) (by omega)
  refine x_skip ?_
  refine hK5 _ _ ?_
  refine x_seq fun K6 hK6 => ?_
  refine x_block ?_
  refine x_seq fun K7 hK7 => ?_
  refine x_region ?_
  refine s_go (m_indexAddr_rd Try.underlying247 ti54 (hS := hS)) ?_
  try simp only [opv, n1, n2, n3, n4, Value.cells, Nat.mul_one, Nat.zero_add, Int.toNat_natCast, Int.reduceToNat]
  refine s_go (m_load_rd Try.underlying54 (hS := hS) (hv := cl_at (by omega))) ?_
  try simp only [opv, n1, n2, n3, n4, Value.cells, List.getElem_toArray, List.getElem_cons_zero, List.getElem_cons_succ]
  refine s_go (s_assign) ?_
  try simp only [opv, n1, n2, n3, n4, Value.cells]
  refine x_nil ?_
  refine hK7 _ _ ?_
  refine x_seq fun K8 hK8 => ?_
  refine x_region ?_
  refine s_go (s_move) ?_
  try simp only [opv, n1, n2, n3, n4, Value.cells]
  refine s_callm (hv := rfl) (he _ hcm) ?_
  try simp only [opv, n1, n2, n3, n4, Value.cells, List.map_toArray, List.map_cons, List.map_nil, List.append_toArray, List.cons_append, List.nil_append, Array.append_empty]
  refine CallR.mono (H _ hcm _ hS.ext_of) ?_
  rintro _ w1 ⟨rfl, hE1⟩
  replace hS := hS.ext hE1
  try simp only [opv, n1, n2, n3, n4, Value.cells]
  refine s_go (s_assign) ?_
  try simp only [opv, n1, n2, n3, n4, Value.cells]
  refine x_nil ?_
  refine hK8 _ _ ?_
  refine x_seq fun K9 hK9 => ?_
  refine x_region ?_
  refine s_go (s_move) ?_
  try simp only [opv, n1, n2, n3, n4, Value.cells]
  refine s_go (s_neq) ?_
  try simp only [opv, n1, n2, n3, n4, Value.cells]
  refine x_nil ?_
  refine hK9 _ _ ?_
  refine x_cond (ht := fun hc2 => ?_) (hf := fun hc2 => ?_)
  ·
   try simp only [decide_eq_true_eq, decide_eq_false_iff_not, Bool.not_eq_true', Bool.not_eq_false', Int.not_lt, Int.not_le, ne_eq, Decidable.not_not, bne_iff_ne, beq_iff_eq, not_true_eq_false, not_false_eq_true] at hc2
   have hne : ¬ (cl.getD k cl0).e = 0 := hc2
   refine x_seq fun K10 hK10 => ?_
   refine x_region ?_
   refine s_go (s_move) ?_
   try simp only [opv, n1, n2, n3, n4, Value.cells]
   refine s_go (s_assign) ?_
   try simp only [opv, n1, n2, n3, n4, Value.cells]
   refine x_nil ?_
   refine hK10 _ _ ?_
   refine x_ret ?_
   refine r_tmp rfl ?_
   exact ⟨congrArg (Value.int .i64) (by rw [firstE_at hz (by simp; omega) (by rw [cl_e]; exact hne), cl_e]), hS.ext_of⟩
  ·
   try simp only [decide_eq_true_eq, decide_eq_false_iff_not, Bool.not_eq_true', Bool.not_eq_false', Int.not_lt, Int.not_le, ne_eq, Decidable.not_not, bne_iff_ne, beq_iff_eq, not_true_eq_false, not_false_eq_true] at hc2
   have hne : (cl.getD k cl0).e = 0 := hc2
   refine x_skip ?_
   refine hK6 _ _ ?_
   refine x_region ?_
   refine s_go (s_add (hc := by exact wr_i64 (by omega) (by omega))) ?_
   try simp only [opv, n1, n2, n3, n4, Value.cells]
   refine s_go (s_move) ?_
   try simp only [opv, n1, n2, n3, n4, Value.cells]
   refine x_nil ?_
   refine loop_back (m' := n - (k + 1)) (by simp only [clob, List.foldl, n1, n2, n3, n4]) ?_ ?_
   · try simp only [opv, n1, n2, n3, n4, Value.cells]
     exact ⟨k + 1, by omega, by omega, by rfl, fun j hj => by rcases Nat.lt_or_eq_of_le (Nat.le_of_lt_succ hj) with h | rfl; exact hz j h; rw [cl_e]; exact hne, hS⟩
   · omega
 ·
  try simp only [decide_eq_true_eq, decide_eq_false_iff_not, Bool.not_eq_true', Bool.not_eq_false', Int.not_lt, Int.not_le, ne_eq, Decidable.not_not, bne_iff_ne, beq_iff_eq, not_true_eq_false, not_false_eq_true] at hc1
  obtain rfl : k = n := by omega
  refine x_exit (look_here ?_)
  refine hK2 _ _ ?_
  refine x_seq fun K11 hK11 => ?_
  refine x_region ?_
  refine s_go (s_assign) ?_
  try simp only [opv, n1, n2, n3, n4, Value.cells]
  refine x_nil ?_
  refine hK11 _ _ ?_
  refine x_ret ?_
  refine r_tmp rfl ?_
  exact ⟨congrArg (Value.int .i64) (firstE_end (fun j hj => hz j (by simp at hj; omega))).symm, hS.ext_of⟩

theorem cl_unless {w0 : World} {g2 g3 q : Nat} {F : Nat} {e : Int} {b : Bool} (he : Enters Try.prog F) (hq : Rd w0 (some ⟨g2, 0, none⟩) 1 1 [.func (.func F) #[] #[.pointer (some ⟨q, 0, none⟩)]]) (hq3 : Rd w0 (some ⟨g3, 0, none⟩) 1 1 [.int .i64 e]) (H : ∀ w, Ext w0 w → CallR Try.prog F #[.pointer (some ⟨q, 0, none⟩)] w fun v w' => v = .bool b ∧ Ext w w') :
    ∀ w, Ext w0 w → CallR Try.prog 230 (#[] ++ #[.pointer (some ⟨g2, 0, none⟩), .pointer (some ⟨g3, 0, none⟩)]) w fun v w' => v = .int .i64 (if b = true then 0 else e) ∧ Ext w w' :=
  fun w hE => c_frUnless1 w g2 g3 q F e b he (hq.ext' hE) (hq3.ext' hE) (fun w' hE' => H w' (hE.trans hE'))
theorem c_frCheck (f : Fm) (A : Option Addr) (cp : Nat)  (w0 : World) :
    CallR Try.prog 66 #[.agg (FA f A cp)] w0 fun v w' => v = .int .i64 (checkF f) ∧ Ext w0 w' := by
 have hS : St NoB w0 w0 [] := St.start w0
 refine c_enter (l := [.agg (FA f A cp), undef, undef, undef, undef, undef, undef, undef, undef, undef, undef]) Try.func66 rfl (by simp only [Try.ntmps66, List.size_toArray, List.length_cons, List.length_nil, Nat.reduceAdd, Nat.reduceSub, Array.replicate_succ, Array.replicate_zero, List.push_toArray, List.append_toArray, List.nil_append, List.cons_append]) ?_
 refine x_seq fun K1 hK1 => ?_
 refine x_region ?_
 refine m_box hS (fun w1 g1 hS => ?_)
 try simp only [opv, n1, n2, n3, n4, Value.cells, Array.toArray_toList] at hS ⊢
 refine s_go (s_assign) ?_
 try simp only [opv, n1, n2, n3, n4, Value.cells]
 refine x_nil ?_
 refine hK1 _ _ ?_
 refine x_seq fun K2 hK2 => ?_
 refine x_region ?_
 refine s_go (s_makeFunc) ?_
 try simp only [opv, n1, n2, n3, n4, Value.cells, List.map_toArray, List.map_cons, List.map_nil]
 refine s_call en154 ?_
 try simp only [opv, n1, n2, n3, n4, Value.cells, List.map_toArray, List.map_cons, List.map_nil, List.append_toArray, List.cons_append, List.nil_append, Array.append_empty]
 refine CallR.mono (c_frUnless _ _ _ _) ?_
 rintro _ w2 ⟨a1, b1, rfl, hC2⟩
 replace hS := hS.call hC2
 simp only [List.cons_append, List.nil_append] at hS
 try simp only [opv, n1, n2, n3, n4, Value.cells]
 refine s_go (s_makeFunc) ?_
 try simp only [opv, n1, n2, n3, n4, Value.cells, List.map_toArray, List.map_cons, List.map_nil]
 refine s_call en154 ?_
 try simp only [opv, n1, n2, n3, n4, Value.cells, List.map_toArray, List.map_cons, List.map_nil, List.append_toArray, List.cons_append, List.nil_append, Array.append_empty]
 refine CallR.mono (c_frUnless _ _ _ _) ?_
 rintro _ w3 ⟨a2, b2, rfl, hC3⟩
 replace hS := hS.call hC3
 simp only [List.cons_append, List.nil_append] at hS
 try simp only [opv, n1, n2, n3, n4, Value.cells]
 refine s_go (s_makeFunc) ?_
 try simp only [opv, n1, n2, n3, n4, Value.cells, List.map_toArray, List.map_cons, List.map_nil]
 refine s_call en154 ?_
 try simp only [opv, n1, n2, n3, n4, Value.cells, List.map_toArray, List.map_cons, List.map_nil, List.append_toArray, List.cons_append, List.nil_append, Array.append_empty]
 refine CallR.mono (c_frUnless _ _ _ _) ?_
 rintro _ w4 ⟨a3, b3, rfl, hC4⟩
 replace hS := hS.call hC4
 simp only [List.cons_append, List.nil_append] at hS
 try simp only [opv, n1, n2, n3, n4, Value.cells]
 refine m_buildRow (cells := #[_, _, _]) Try.underlying247 ti54 (hc := by simp only [List.map_toArray, List.map_cons, List.map_nil, opv, n1, n2, n3, n4, Value.cells, List.toList_toArray]; (repeat (refine fill_cons rfl rfl (Nat.le_of_ble_eq_true rfl) ?_)); rfl) (hS := hS) (h := fun w5 g5 hS => ?_)
 try simp only [opv, n1, n2, n3, n4, Value.cells, Array.toArray_toList] at hS ⊢
 replace hS := hS.obj_rd (sz := 1) (n := 3) rfl .head
 refine s_call en153 ?_
 try simp only [opv, n1, n2, n3, n4, Value.cells, List.map_toArray, List.map_cons, List.map_nil, List.append_toArray, List.cons_append, List.nil_append, Array.append_empty]
 refine CallR.mono (c_frFirst _ _ 3 _ [⟨230, #[], #[.pointer (some ⟨a1, 0, none⟩), .pointer (some ⟨b1, 0, none⟩)], if decide (1 ≤ f.k ∧ f.k ≤ 3) = true then 0 else 14⟩, ⟨230, #[], #[.pointer (some ⟨a2, 0, none⟩), .pointer (some ⟨b2, 0, none⟩)], if decide (f.fr < 16 ∧ f.to < 16 ∧ ¬ f.fr = f.to) = true then 0 else 1⟩, ⟨230, #[], #[.pointer (some ⟨a3, 0, none⟩), .pointer (some ⟨b3, 0, none⟩)], if decide (f.d.length ≤ 65536) = true then 0 else 15⟩] (hS.hasRd (by repeat (exact Has.head))) rfl (by decide) (by intro x hx; simp only [List.mem_cons, List.not_mem_nil, or_false] at hx; rcases hx with rfl | rfl | rfl <;> exact en230) (by intro x hx; simp only [List.mem_cons, List.not_mem_nil, or_false] at hx; rcases hx with rfl | rfl | rfl <;> first | exact cl_unless en161 (hS.objRd (g := a1) (cs := #[.func (.func 161) #[] #[.pointer (some ⟨g1, 0, none⟩)]]) (by repeat (first | exact Has.head | apply Has.tail))) (hS.objRd (g := b1) (cs := #[.int .i64 14]) (by repeat (first | exact Has.head | apply Has.tail))) (fun w hE => c_frChk1 _ g1 f A cp ((hS.objRd (g := g1) (cs := FA f A cp) (by repeat (first | exact Has.head | apply Has.tail))).ext' hE)) | exact cl_unless en162 (hS.objRd (g := a2) (cs := #[.func (.func 162) #[] #[.pointer (some ⟨g1, 0, none⟩)]]) (by repeat (first | exact Has.head | apply Has.tail))) (hS.objRd (g := b2) (cs := #[.int .i64 1]) (by repeat (first | exact Has.head | apply Has.tail))) (fun w hE => c_frChk2 _ g1 f A cp ((hS.objRd (g := g1) (cs := FA f A cp) (by repeat (first | exact Has.head | apply Has.tail))).ext' hE)) | exact cl_unless en163 (hS.objRd (g := a3) (cs := #[.func (.func 163) #[] #[.pointer (some ⟨g1, 0, none⟩)]]) (by repeat (first | exact Has.head | apply Has.tail))) (hS.objRd (g := b3) (cs := #[.int .i64 15]) (by repeat (first | exact Has.head | apply Has.tail))) (fun w hE => c_frChk3 _ g1 f A cp ((hS.objRd (g := g1) (cs := FA f A cp) (by repeat (first | exact Has.head | apply Has.tail))).ext' hE)))) ?_
 rintro _ w6 ⟨rfl, hE6⟩
 replace hS := hS.ext hE6
 try simp only [opv, n1, n2, n3, n4, Value.cells]
 refine s_go (s_assign) ?_
 try simp only [opv, n1, n2, n3, n4, Value.cells]
 refine x_nil ?_
 refine hK2 _ _ ?_
 refine x_ret ?_
 refine r_tmp rfl ?_
 exact ⟨congrArg (Value.int .i64) (chk_first f), hS.ext_of⟩
theorem c_frRoom (n : Int) (hn : n ≤ 9223372036854775807)  (w0 : World) :
    CallR Try.prog 69 #[.int .i64 n] w0 fun v w' => v = .int .i64 (if n < 32 then 0 else n - 26) ∧ Ext w0 w' := by
 have hS : St NoB w0 w0 [] := St.start w0
 refine c_enter (l := [.int .i64 n, undef, undef, undef, undef, undef, undef]) Try.func69 rfl (by simp only [Try.ntmps69, List.size_toArray, List.length_cons, List.length_nil, Nat.reduceAdd, Nat.reduceSub, Array.replicate_succ, Array.replicate_zero, List.push_toArray, List.append_toArray, List.nil_append, List.cons_append]) ?_
 refine x_seq fun K1 hK1 => ?_
 refine x_region ?_
 refine s_go (s_assign) ?_
 try simp only [opv, n1, n2, n3, n4, Value.cells]
 refine x_nil ?_
 refine hK1 _ _ ?_
 refine x_seq fun K2 hK2 => ?_
 refine x_seq fun K3 hK3 => ?_
 refine x_region ?_
 refine s_go (s_move) ?_
 try simp only [opv, n1, n2, n3, n4, Value.cells]
 refine s_go (s_lss) ?_
 try simp only [opv, n1, n2, n3, n4, Value.cells]
 refine x_nil ?_
 refine hK3 _ _ ?_
 refine x_cond (ht := fun hc1 => ?_) (hf := fun hc1 => ?_)
 ·
  try simp only [decide_eq_true_eq, decide_eq_false_iff_not, Bool.not_eq_true', Bool.not_eq_false', Int.not_lt, Int.not_le, ne_eq, Decidable.not_not, bne_iff_ne, beq_iff_eq, not_true_eq_false, not_false_eq_true] at hc1
  refine x_seq fun K4 hK4 => ?_
  refine x_region ?_
  refine s_go (s_assign) ?_
  try simp only [opv, n1, n2, n3, n4, Value.cells]
  refine x_nil ?_
  refine hK4 _ _ ?_
  refine x_ret ?_
  refine r_tmp rfl ?_
  exact ⟨congrArg (Value.int .i64) (if_pos (by omega)).symm, hS.ext_of⟩
 ·
  try simp only [decide_eq_true_eq, decide_eq_false_iff_not, Bool.not_eq_true', Bool.not_eq_false', Int.not_lt, Int.not_le, ne_eq, Decidable.not_not, bne_iff_ne, beq_iff_eq, not_true_eq_false, not_false_eq_true] at hc1
  refine x_skip ?_
  refine hK2 _ _ ?_
  refine x_seq fun K5 hK5 => ?_
  refine x_region ?_
  refine s_go (s_move) ?_
  try simp only [opv, n1, n2, n3, n4, Value.cells]
  refine s_go (s_sub (hc := by exact wr_i64 (by omega) (by omega))) ?_
  try simp only [opv, n1, n2, n3, n4, Value.cells]
  refine s_go (s_assign) ?_
  try simp only [opv, n1, n2, n3, n4, Value.cells]
  refine x_nil ?_
  refine hK5 _ _ ?_
  refine x_ret ?_
  refine r_tmp rfl ?_
  exact ⟨congrArg (Value.int .i64) (if_neg (by omega)).symm, hS.ext_of⟩
end Go.Proofs.Ytpjpaipkkcengaa
namespace Go.Proofs.Ytpjpaipkkcengaa
/-- one step of the register -/
def cst (r : Nat) : Nat := if 32768 ≤ r then (2 * r % 65536) ^^^ 4129 else 2 * r % 65536
def cstN : Nat → Nat → Nat
  | 0, r => r
  | n + 1, r => cst (cstN n r)
def crcB (r c : Nat) : Nat := cstN 8 (r ^^^ (c * 256))
def crcM (r : Nat) (l : List Int) : Nat := l.foldl (fun r c => crcB r c.toNat) r
theorem cst_lt (r : Nat) : cst r < 65536 := by
  unfold cst
  split
  · exact Nat.xor_lt_two_pow (n := 16) (by omega) (by omega)
  · omega
theorem cstN_lt {r : Nat} (h : r < 65536) : ∀ n, cstN n r < 65536
  | 0 => h
  | _ + 1 => cst_lt _
theorem crcB_lt (r c : Nat) : crcB r c < 65536 := by
  show cst (cstN 7 (r ^^^ (c * 256))) < 65536
  exact cst_lt _
theorem crcM_cons (r : Nat) (c : Int) (l : List Int) : crcM r (c :: l) = crcM (crcB r c.toNat) l := by simp only [crcM, List.foldl_cons]
theorem crcM_lt : ∀ (l : List Int) {r : Nat}, r < 65536 → crcM r l < 65536
  | [], _, h => h
  | c :: l, r, _ => by rw [crcM_cons]; exact crcM_lt l (crcB_lt r c.toNat)
theorem crcM_app (r : Nat) (a b : List Int) : crcM r (a ++ b) = crcM (crcM r a) b := by simp [crcM]
theorem crcM_snoc {r : Nat} {l : List Int} {k : Nat} (h : k < l.length) : crcM r (l.take (k + 1)) = crcB (crcM r (l.take k)) (bt l k) := by
  rw [take_succ_getD h, crcM_app, crcM_cons]
  simp only [crcM, List.foldl_nil, bt]
theorem xor_mod2 (a b : Nat) : (a ^^^ b) % 2 = (a % 2 + b % 2) % 2 := by
  have h := Nat.testBit_xor a b 0
  simp only [Nat.testBit_zero] at h
  rcases Nat.mod_two_eq_zero_or_one a with ha | ha <;> rcases Nat.mod_two_eq_zero_or_one b with hb | hb <;> rcases Nat.mod_two_eq_zero_or_one (a ^^^ b) with hx | hx <;> simp [ha, hb, hx] at h ⊢
theorem xor_divp (a b i : Nat) : (a ^^^ b) / 2 ^ i = (a / 2 ^ i) ^^^ (b / 2 ^ i) := by
  simp only [← Nat.shiftRight_eq_div_pow]; exact Nat.shiftRight_xor_distrib
theorem xor_modp (a b i : Nat) : (a ^^^ b) % 2 ^ i = (a % 2 ^ i) ^^^ (b % 2 ^ i) := Nat.xor_mod_two_pow
theorem xor_mulp (a b i : Nat) : (a ^^^ b) * 2 ^ i = (a * 2 ^ i) ^^^ (b * 2 ^ i) := by
  simp only [← Nat.shiftLeft_eq]; exact Nat.shiftLeft_xor_distrib
theorem top_xor {a b : Nat} (ha : a < 65536) (hb : b < 65536) : (32768 ≤ a ^^^ b) ↔ ((32768 ≤ a) ↔ ¬ (32768 ≤ b)) := by
  have h1 : a ^^^ b < 65536 := Nat.xor_lt_two_pow (n := 16) (by omega) (by omega)
  have h2 := xor_divp a b 15
  have h3 := xor_mod2 (a / 2 ^ 15) (b / 2 ^ 15)
  rw [← h2] at h3
  omega
theorem dbl_xor (a b : Nat) : 2 * (a ^^^ b) % 65536 = (2 * a % 65536) ^^^ (2 * b % 65536) := by
  have h1 := xor_mulp a b 1
  have h2 := xor_modp (a * 2 ^ 1) (b * 2 ^ 1) 16
  rw [← h1] at h2
  simpa [Nat.mul_comm] using h2
/-- the step is linear -/
theorem cst_xor {a b : Nat} (ha : a < 65536) (hb : b < 65536) : cst (a ^^^ b) = cst a ^^^ cst b := by
  have ht := top_xor ha hb
  unfold cst
  rw [dbl_xor]
  by_cases h1 : 32768 ≤ a <;> by_cases h2 : 32768 ≤ b
  · rw [if_neg (by rw [ht]; simp [h1, h2]), if_pos h1, if_pos h2]
    rw [Nat.xor_assoc, Nat.xor_comm 4129, Nat.xor_assoc, Nat.xor_self, Nat.xor_zero]
  · rw [if_pos (by rw [ht]; simp [h1, h2]), if_pos h1, if_neg h2]
    rw [Nat.xor_assoc, Nat.xor_comm _ 4129, Nat.xor_assoc]
  · rw [if_pos (by rw [ht]; simp [h1, h2]), if_neg h1, if_pos h2]
    rw [Nat.xor_assoc]
  · rw [if_neg (by rw [ht]; simp [h1, h2]), if_neg h1, if_neg h2]
theorem cstN_xor {a b : Nat} (ha : a < 65536) (hb : b < 65536) : ∀ n, cstN n (a ^^^ b) = cstN n a ^^^ cstN n b
  | 0 => rfl
  | n + 1 => by simp only [cstN]; rw [cstN_xor ha hb n, cst_xor (cstN_lt ha n) (cstN_lt hb n)]
theorem cstN_low {v : Nat} (hv : v < 256) : ∀ n, n ≤ 8 → cstN n v = v * 2 ^ n
  | 0, _ => by simp [cstN]
  | n + 1, h => by
    have ih := cstN_low hv n (by omega)
    have hp : 2 ^ n ≤ 2 ^ 7 := Nat.pow_le_pow_right (by omega) (by omega)
    have hm : v * 2 ^ n ≤ 255 * 2 ^ 7 := Nat.mul_le_mul (by omega) hp
    simp only [cstN, ih, cst]
    rw [if_neg (by omega), Nat.mod_eq_of_lt (by omega), Nat.pow_succ]
    rw [Nat.mul_comm 2, Nat.mul_assoc]
theorem split_at (r i : Nat) : r = (r / 2 ^ i * 2 ^ i) ^^^ (r % 2 ^ i) := by
  apply Nat.eq_of_testBit_eq
  intro j
  rw [Nat.testBit_xor, Nat.testBit_mul_two_pow, Nat.testBit_mod_two_pow, Nat.testBit_div_two_pow]
  by_cases h : i ≤ j
  · simp [h, Nat.not_lt.2 h, Nat.sub_add_cancel h]
  · simp [h, Nat.lt_of_not_le h]
theorem split_xor (r : Nat) : r = (r / 256 * 256) ^^^ (r % 256) := split_at r 8
/-- a byte at once, by the table -/
theorem tab_step {r c : Nat} (hr : r < 65536) (hc : c < 256) : (r * 256 % 65536) ^^^ cstN 8 (((r / 256) ^^^ c) * 256) = crcB r c := by
  have h1 : r ^^^ (c * 256) = (((r / 256) ^^^ c) * 256) ^^^ (r % 256) := by
    have := xor_mulp (r / 256) c 8
    simp only [Nat.reducePow] at this
    rw [this]
    conv => lhs; rw [split_xor r]
    rw [Nat.xor_assoc, Nat.xor_comm (r % 256), ← Nat.xor_assoc]
  have hx : (r / 256) ^^^ c < 256 := Nat.xor_lt_two_pow (n := 8) (by omega) (by omega)
  unfold crcB
  rw [h1, cstN_xor (by omega) (by omega), cstN_low (show r % 256 < 256 by omega) 8 (by omega), Nat.xor_comm]
  congr 1
  omega
end Go.Proofs.Ytpjpaipkkcengaa
set_option linter.unusedSimpArgs false
set_option linter.unusedVariables false
set_option maxHeartbeats 800000
set_option maxRecDepth 100000
namespace Go.Proofs.Ytpjpaipkkcengaa
open Go.RowKit

theorem cst_bits {r : Nat} (hr : r < 65536) : decide (bits .and .u16 (r : Int) 32768 ≠ 0) = decide (32768 ≤ r) := by
  have h := and_u16 (a := r) (b := 32768) hr (by omega)
  rw [show ((32768 : Nat) : Int) = 32768 from rfl] at h
  rw [h]
  have h2 := and_pow r 15
  rw [show (2 : Nat) ^ 15 = 32768 from rfl] at h2
  rw [h2]
  by_cases h3 : 32768 ≤ r
  · have : r / 32768 % 2 = 1 := by omega
    simp [h3, this]
  · have : r / 32768 % 2 = 0 := by omega
    simp [h3, this]

theorem c_crcMore1 (r : Nat) (hr : r < 65536) (w0 : World) :
    CallR Try.prog 261 #[.int .u16 (r : Int)] w0 fun v w' => v = .int .u16 ((cst r : Nat) : Int) ∧ Ext w0 w' := by
 have hS : St NoB w0 w0 [] := St.start w0
 refine c_enter (l := [.int .u16 (r : Int), undef, undef, undef, undef, undef, undef, undef, undef, undef, undef]) Try.func261 rfl (by simp only [Try.ntmps261, List.size_toArray, List.length_cons, List.length_nil, Nat.reduceAdd, Nat.reduceSub, Array.replicate_succ, Array.replicate_zero, List.push_toArray, List.append_toArray, List.nil_append, List.cons_append]) ?_
 refine x_seq fun K1 hK1 => ?_
 refine x_region ?_
 refine s_go (s_assign) ?_
 try simp only [opv, n1, n2, n3, n4, Value.cells]
 refine x_nil ?_
 refine hK1 _ _ ?_
 refine x_seq fun K2 hK2 => ?_
 refine x_seq fun K3 hK3 => ?_
 refine x_region ?_
 refine s_go (s_move) ?_
 try simp only [opv, n1, n2, n3, n4, Value.cells]
 refine s_go (s_bits (by simp) (hc := rfl)) ?_
 try simp only [opv, n1, n2, n3, n4, Value.cells]
 refine s_go (s_neq) ?_
 try simp only [opv, n1, n2, n3, n4, Value.cells]
 rw [cst_bits hr]
 refine x_nil ?_
 refine hK3 _ _ ?_
 refine x_cond (ht := fun hc1 => ?_) (hf := fun hc1 => ?_)
 ·
  try simp only [decide_eq_true_eq, decide_eq_false_iff_not, Bool.not_eq_true', Bool.not_eq_false', Int.not_lt, Int.not_le, ne_eq, Decidable.not_not, bne_iff_ne, beq_iff_eq, not_true_eq_false, not_false_eq_true] at hc1
  refine x_seq fun K4 hK4 => ?_
  refine x_region ?_
  refine s_go (s_move) ?_
  try simp only [opv, n1, n2, n3, n4, Value.cells]
  refine s_go (s_shl (hc := shl_u16 (r := r) (p := 2) (s := 2 * r % 65536) (by rw [Nat.mul_comm]))) ?_
  try simp only [opv, n1, n2, n3, n4, Value.cells]
  refine s_go (s_bits (by simp) (hc := xor_u16 (a := 2 * r % 65536) (b := 4129) (by omega) (by omega))) ?_
  try simp only [opv, n1, n2, n3, n4, Value.cells]
  refine s_go (s_assign) ?_
  try simp only [opv, n1, n2, n3, n4, Value.cells]
  refine x_nil ?_
  refine hK4 _ _ ?_
  refine x_ret ?_
  refine r_tmp rfl ?_
  exact ⟨by rw [cst, if_pos hc1]; rfl, hS.ext_of⟩
 ·
  try simp only [decide_eq_true_eq, decide_eq_false_iff_not, Bool.not_eq_true', Bool.not_eq_false', Int.not_lt, Int.not_le, ne_eq, Decidable.not_not, bne_iff_ne, beq_iff_eq, not_true_eq_false, not_false_eq_true] at hc1
  refine x_skip ?_
  refine hK2 _ _ ?_
  refine x_seq fun K5 hK5 => ?_
  refine x_region ?_
  refine s_go (s_move) ?_
  try simp only [opv, n1, n2, n3, n4, Value.cells]
  refine s_go (s_shl (hc := shl_u16 (r := r) (p := 2) (s := 2 * r % 65536) (by rw [Nat.mul_comm]))) ?_
  try simp only [opv, n1, n2, n3, n4, Value.cells]
  refine s_go (s_assign) ?_
  try simp only [opv, n1, n2, n3, n4, Value.cells]
  refine x_nil ?_
  refine hK5 _ _ ?_
  refine x_ret ?_
  refine r_tmp rfl ?_
  exact ⟨by rw [cst, if_neg hc1]; rfl, hS.ext_of⟩

def ctab : List Int := (List.range 256).map fun i => ((cstN 8 (i * 256) : Nat) : Int)
def ctabTo (k : Nat) : List Int := ctab.take k ++ List.replicate (256 - k) 0
theorem ctab_len : ctab.length = 256 := by simp [ctab]
theorem ctabTo_len {k : Nat} (h : k ≤ 256) : (ctabTo k).length = 256 := by simp [ctabTo, ctab_len]; omega
theorem ctabTo_zero : ctabTo 0 = List.replicate 256 0 := by simp [ctabTo]
theorem ctabTo_all : ctabTo 256 = ctab := by simp only [ctabTo, Nat.sub_self, List.replicate_zero, List.append_nil]; rw [← ctab_len, List.take_length]
theorem ctabTo_set {k : Nat} (h : k < 256) : (ctabTo k).set k ((cstN 8 (k * 256) : Nat) : Int) = ctabTo (k + 1) := by
  unfold ctabTo
  rw [List.set_append_right _ _ (by simp [ctab_len]; omega)]
  have e : k - (ctab.take k).length = 0 := by simp [ctab_len]; omega
  rw [e, show 256 - k = (256 - (k + 1)) + 1 by omega, List.replicate_succ, List.set_cons_zero]
  have hk : k < ctab.length := by rw [ctab_len]; exact h
  rw [List.take_succ_eq_append_getElem hk]
  simp [ctab]
theorem ctab_cell {i : Nat} (h : i < 256) : (ic .u16 ctab)[i]? = some (.int .u16 ((cstN 8 (i * 256) : Nat) : Int)) := by
  rw [ic_get (by rw [ctab_len]; exact h)]
  simp [ctab, List.getD_eq_getElem?_getD, h]

theorem c_crcTable  (w0 : World) :
    CallR Try.prog 260 #[.func (.func 261) #[] #[]] w0 fun v w' => v = .agg (ic .u16 ctab) ∧ Ext w0 w' := by
 have hS : St NoB w0 w0 [] := St.start w0
 refine c_enter (l := [.func (.func 261) #[] #[], undef, undef, undef, undef, undef, undef, undef, undef, undef, undef, undef, undef, undef, undef, undef, undef, undef, undef, undef, undef, undef]) Try.func260 rfl (by simp only [Try.ntmps260, List.size_toArray, List.length_cons, List.length_nil, Nat.reduceAdd, Nat.reduceSub, Array.replicate_succ, Array.replicate_zero, List.push_toArray, List.append_toArray, List.nil_append, List.cons_append]) ?_
 refine x_seq fun K1 hK1 => ?_
 refine x_region ?_
 refine m_alloc ti279 hS (fun w1 g1 hS => ?_)
 try simp only [opv, n1, n2, n3, n4, Value.cells, Array.toArray_toList] at hS ⊢
 refine x_nil ?_
 refine hK1 _ _ ?_
 refine x_seq fun K2 hK2 => ?_
 refine x_seq fun K3 hK3 => ?_
 refine x_region ?_
 refine s_go (s_move) ?_
 try simp only [opv, n1, n2, n3, n4, Value.cells]
 refine x_nil ?_
 refine hK3 _ _ ?_
 refine x_block ?_
 refine x_loop [3, 4, 5, 6, 7, 8, 9, 10, 11, 12, 13, 14, 15, 16, 17, 18, 19, 20] (fun m f w => ∃ k : Nat, k ≤ 256 ∧ m = 256 - k ∧ f 5 = .int .i64 (k : Int) ∧ St NoB w0 w [.obj g1 (.cells (ic .u16 (ctabTo k)) 279 (0, 0))]) (256) ?init1 (fun m1 f1 wl1 hI => ?_)
 case init1 =>
  try simp only [opv, n1, n2, n3, n4, Value.cells]
  exact ⟨0, by omega, rfl, rfl, by rw [ctabTo_zero]; exact hS⟩
 obtain ⟨k, hk, hm, h5, hS⟩ := hI
 simp only [clob, List.foldl, n3, n4, h5]
 have hkl := ctabTo_len hk
 refine x_seq fun K4 hK4 => ?_
 refine x_region ?_
 refine s_go (s_lss) ?_
 try simp only [opv, n1, n2, n3, n4, Value.cells]
 refine x_nil ?_
 refine hK4 _ _ ?_
 refine x_seq fun K5 hK5 => ?_
 refine x_cond (ht := fun hc1 => ?_) (hf := fun hc1 => ?_)
 ·
  try simp only [decide_eq_true_eq, decide_eq_false_iff_not, Bool.not_eq_true', Bool.not_eq_false', Int.not_lt, Int.not_le, ne_eq, Decidable.not_not, bne_iff_ne, beq_iff_eq, not_true_eq_false, not_false_eq_true] at hc1
  refine x_skip ?_
  refine hK5 _ _ ?_
  refine x_seq fun K6 hK6 => ?_
  refine x_block ?_
  refine x_seq fun K7 hK7 => ?_
  refine x_region ?_
  refine s_go (s_move) ?_
  try simp only [opv, n1, n2, n3, n4, Value.cells]
  refine s_go (s_assign) ?_
  try simp only [opv, n1, n2, n3, n4, Value.cells]
  refine x_nil ?_
  refine hK7 _ _ ?_
  refine x_seq fun K8 hK8 => ?_
  refine x_region ?_
  refine s_go (s_move) ?_
  try simp only [opv, n1, n2, n3, n4, Value.cells]
  refine s_go (s_conv Try.underlying3 Try.underlying58 (hc := by exact wr_u16 (by omega) (by omega))) ?_
  try simp only [opv, n1, n2, n3, n4, Value.cells]
  refine s_go (s_shl (hc := shl_u16 (r := k) (p := 256) (s := k * 256) (by omega))) ?_
  try simp only [opv, n1, n2, n3, n4, Value.cells]
  refine s_go (s_assign) ?_
  try simp only [opv, n1, n2, n3, n4, Value.cells]
  refine x_nil ?_
  refine hK8 _ _ ?_
  refine x_seq fun K9 hK9 => ?_
  refine x_seq fun K10 hK10 => ?_
  refine x_region ?_
  refine s_go (s_move) ?_
  try simp only [opv, n1, n2, n3, n4, Value.cells]
  refine x_nil ?_
  refine hK10 _ _ ?_
  refine x_block ?_
  refine x_loop [4, 11, 12, 13, 14, 15, 16] (fun m f w => ∃ j : Nat, j ≤ 8 ∧ m = 8 - j ∧ f 11 = .int .i64 (j : Int) ∧ f 4 = .int .u16 ((cstN j (k * 256) : Nat) : Int) ∧ St NoB w0 w [.obj g1 (.cells (ic .u16 (ctabTo k)) 279 (0, 0))]) (8) ?init2 (fun m2 f2 wl2 hI => ?_)
  case init2 =>
   try simp only [opv, n1, n2, n3, n4, Value.cells]
   exact ⟨0, by omega, rfl, rfl, rfl, hS⟩
  obtain ⟨j, hj, hm2, h11, h4, hS⟩ := hI
  simp only [clob, List.foldl, n3, n4, h11, h4]
  have hcl : cstN j (k * 256) < 65536 := cstN_lt (by omega) j
  refine x_seq fun K11 hK11 => ?_
  refine x_region ?_
  refine s_go (s_lss) ?_
  try simp only [opv, n1, n2, n3, n4, Value.cells]
  refine x_nil ?_
  refine hK11 _ _ ?_
  refine x_seq fun K12 hK12 => ?_
  refine x_cond (ht := fun hc2 => ?_) (hf := fun hc2 => ?_)
  ·
   try simp only [decide_eq_true_eq, decide_eq_false_iff_not, Bool.not_eq_true', Bool.not_eq_false', Int.not_lt, Int.not_le, ne_eq, Decidable.not_not, bne_iff_ne, beq_iff_eq, not_true_eq_false, not_false_eq_true] at hc2
   refine x_skip ?_
   refine hK12 _ _ ?_
   refine x_seq fun K13 hK13 => ?_
   refine x_block ?_
   refine x_region ?_
   refine s_go (s_move) ?_
   try simp only [opv, n1, n2, n3, n4, Value.cells]
   refine s_go (s_move) ?_
   try simp only [opv, n1, n2, n3, n4, Value.cells]
   refine s_callv (hv := rfl) en261 ?_
   try simp only [opv, n1, n2, n3, n4, Value.cells, List.map_toArray, List.map_cons, List.map_nil, List.append_toArray, List.cons_append, List.nil_append, Array.append_empty]
   refine CallR.mono (c_crcMore1 _ (by assumption) _) ?_
   rintro _ w2 ⟨rfl, hE2⟩
   replace hS := hS.ext hE2
   try simp only [opv, n1, n2, n3, n4, Value.cells]
   refine s_go (s_assign) ?_
   try simp only [opv, n1, n2, n3, n4, Value.cells]
   refine x_nil ?_
   refine hK13 _ _ ?_
   refine x_region ?_
   refine s_go (s_add (hc := by exact wr_i64 (by omega) (by omega))) ?_
   try simp only [opv, n1, n2, n3, n4, Value.cells]
   refine s_go (s_move) ?_
   try simp only [opv, n1, n2, n3, n4, Value.cells]
   refine x_nil ?_
   refine loop_back (m' := 8 - (j + 1)) (by simp only [clob, List.foldl, n1, n2, n3, n4]) ?_ ?_
   · try simp only [opv, n1, n2, n3, n4, Value.cells]
     exact ⟨j + 1, by omega, by omega, by rfl, by rfl, hS⟩
   · omega
  ·
   try simp only [decide_eq_true_eq, decide_eq_false_iff_not, Bool.not_eq_true', Bool.not_eq_false', Int.not_lt, Int.not_le, ne_eq, Decidable.not_not, bne_iff_ne, beq_iff_eq, not_true_eq_false, not_false_eq_true] at hc2
   obtain rfl : j = 8 := by omega
   refine x_exit (look_here ?_)
   refine hK9 _ _ ?_
   refine x_region ?_
   refine s_go (s_move) ?_
   try simp only [opv, n1, n2, n3, n4, Value.cells]
   refine s_go (s_move) ?_
   try simp only [opv, n1, n2, n3, n4, Value.cells]
   refine s_go (m_indexAddr_arr Try.underlying279 ti58) ?_
   try simp only [opv, n1, n2, n3, n4, Value.cells, Nat.mul_one, Nat.zero_add, Int.toNat_natCast, Int.reduceToNat]
   refine m_store_obj ti58 (hS := hS) (hc := by exact (splice_ic (by rw [hkl]; omega)).trans (by rw [ctabTo_set (by omega)])) (h := fun w3 hS => ?_)
   try simp only [opv, n1, n2, n3, n4, Value.cells, Array.toArray_toList] at hS ⊢
   refine x_nil ?_
   refine hK6 _ _ ?_
   refine x_region ?_
   refine s_go (s_add (hc := by exact wr_i64 (by omega) (by omega))) ?_
   try simp only [opv, n1, n2, n3, n4, Value.cells]
   refine s_go (s_move) ?_
   try simp only [opv, n1, n2, n3, n4, Value.cells]
   refine x_nil ?_
   refine loop_back (m' := 256 - (k + 1)) (by simp only [clob, List.foldl, n1, n2, n3, n4]) ?_ ?_
   · try simp only [opv, n1, n2, n3, n4, Value.cells]
     exact ⟨k + 1, by omega, by omega, by rfl, hS⟩
   · omega
 ·
  try simp only [decide_eq_true_eq, decide_eq_false_iff_not, Bool.not_eq_true', Bool.not_eq_false', Int.not_lt, Int.not_le, ne_eq, Decidable.not_not, bne_iff_ne, beq_iff_eq, not_true_eq_false, not_false_eq_true] at hc1
  obtain rfl : k = 256 := by omega
  rw [ctabTo_all] at hS
  have hcl := ctab_len
  refine x_exit (look_here ?_)
  refine hK2 _ _ ?_
  refine x_seq fun K14 hK14 => ?_
  refine x_region ?_
  refine s_go (m_load_row Try.underlying279 (hi := ti279) (hS := hS)) ?_
  try simp only [opv, n1, n2, n3, n4, Value.cells, List.getElem_toArray, List.getElem_cons_zero, List.getElem_cons_succ]
  refine m_store_obj ti279 (hS := hS) (h := fun w4 hS => ?_)
  try simp only [opv, n1, n2, n3, n4, Value.cells, Array.toArray_toList] at hS ⊢
  refine x_nil ?_
  refine hK14 _ _ ?_
  refine x_ret ?_
  refine r_cell_agg rfl Try.underlying279 ti279 (hS := hS) (hR := ?_)
  exact ⟨rfl, hS.ext_of⟩
theorem c_crcMore (w0 : World) (r : Nat) (hrr : r < 65536) (A : Option Addr) (n c : Nat) (l : List Int) (hr : Rd w0 A 1 n (l.map (Value.int .u8))) (hl : l.length = n) (hw : Byt l) (hn : n ≤ 140737488355000) (hc : n ≤ c) :
    CallR Try.prog 252 #[.int .u16 (r : Int), .slice A n c] w0 fun v w' => v = .int .u16 ((crcM r l : Nat) : Int) ∧ Ext w0 w' := by
 have hS := St.rd1 (S := NoB) hr
 refine c_enter (l := [.int .u16 (r : Int), .slice A n c, undef, undef, undef, undef, undef, undef, undef, undef, undef, undef, undef, undef, undef, undef, undef, undef, undef, undef, undef, undef, undef, undef, undef, undef, undef]) Try.func252 rfl (by simp only [Try.ntmps252, List.size_toArray, List.length_cons, List.length_nil, Nat.reduceAdd, Nat.reduceSub, Array.replicate_succ, Array.replicate_zero, List.push_toArray, List.append_toArray, List.nil_append, List.cons_append]) ?_
 refine x_seq fun K1 hK1 => ?_
 refine x_region ?_
 refine s_go (s_assign) ?_
 try simp only [opv, n1, n2, n3, n4, Value.cells]
 refine x_nil ?_
 refine hK1 _ _ ?_
 refine x_seq fun K2 hK2 => ?_
 refine x_region ?_
 refine s_call en260 ?_
 try simp only [opv, n1, n2, n3, n4, Value.cells, List.map_toArray, List.map_cons, List.map_nil, List.append_toArray, List.cons_append, List.nil_append, Array.append_empty]
 refine CallR.mono (c_crcTable _) ?_
 rintro _ w1 ⟨rfl, hE1⟩
 replace hS := hS.ext hE1
 try simp only [opv, n1, n2, n3, n4, Value.cells]
 refine m_alloc ti279 hS (fun w2 g2 hS => ?_)
 try simp only [opv, n1, n2, n3, n4, Value.cells, Array.toArray_toList] at hS ⊢
 refine m_store_obj ti279 (hS := hS) (h := fun w3 hS => ?_)
 try simp only [opv, n1, n2, n3, n4, Value.cells, Array.toArray_toList] at hS ⊢
 refine x_nil ?_
 refine hK2 _ _ ?_
 refine x_seq fun K3 hK3 => ?_
 refine x_seq fun K4 hK4 => ?_
 refine x_region ?_
 refine s_go (s_move) ?_
 try simp only [opv, n1, n2, n3, n4, Value.cells]
 refine s_go (s_len_sl Try.underlying43) ?_
 try simp only [opv, n1, n2, n3, n4, Value.cells]
 refine s_go (s_move) ?_
 try simp only [opv, n1, n2, n3, n4, Value.cells]
 refine x_nil ?_
 refine hK4 _ _ ?_
 refine x_block ?_
 refine x_loop [0, 7, 11, 12, 13, 14, 15, 16, 17, 18, 19, 20, 21, 22, 23, 24, 25] (fun m f w => ∃ k : Nat, k ≤ n ∧ m = n - k ∧ f 11 = .int .i64 (k : Int) ∧ f 0 = .int .u16 ((crcM r (l.take k) : Nat) : Int) ∧ St NoB w0 w [.obj g2 (.cells (ic .u16 ctab) 279 (0, 0)), .rd A 1 n (l.map (Value.int .u8))]) (n) ?init1 (fun m1 f1 wl1 hI => ?_)
 case init1 =>
  try simp only [opv, n1, n2, n3, n4, Value.cells]
  exact ⟨0, by omega, rfl, rfl, rfl, hS⟩
 obtain ⟨k, hk, hm, h11, h0, hS⟩ := hI
 simp only [clob, List.foldl, n3, n4, h11, h0]
 have hcl : crcM r (l.take k) < 65536 := crcM_lt _ hrr
 have hby := hw.bt k
 have hxl : (crcM r (l.take k) / 256) ^^^ bt l k < 256 := Nat.xor_lt_two_pow (n := 8) (by omega) (by omega)
 refine x_seq fun K5 hK5 => ?_
 refine x_region ?_
 refine s_go (s_lss) ?_
 try simp only [opv, n1, n2, n3, n4, Value.cells]
 refine x_nil ?_
 refine hK5 _ _ ?_
 refine x_seq fun K6 hK6 => ?_
 refine x_cond (ht := fun hc1 => ?_) (hf := fun hc1 => ?_)
 ·
  try simp only [decide_eq_true_eq, decide_eq_false_iff_not, Bool.not_eq_true', Bool.not_eq_false', Int.not_lt, Int.not_le, ne_eq, Decidable.not_not, bne_iff_ne, beq_iff_eq, not_true_eq_false, not_false_eq_true] at hc1
  refine x_skip ?_
  refine hK6 _ _ ?_
  refine x_seq fun K7 hK7 => ?_
  refine x_block ?_
  refine x_seq fun K8 hK8 => ?_
  refine x_region ?_
  refine s_go (m_indexAddr_rd Try.underlying43 ti5 (hS := hS)) ?_
  try simp only [opv, n1, n2, n3, n4, Value.cells, Nat.mul_one, Nat.zero_add, Int.toNat_natCast, Int.reduceToNat]
  refine s_go (m_load_rd Try.underlying5 (hS := hS)) ?_
  try simp only [opv, n1, n2, n3, n4, Value.cells, List.getElem_toArray, List.getElem_cons_zero, List.getElem_cons_succ]
  rw [hby.1]
  refine s_go (s_assign) ?_
  try simp only [opv, n1, n2, n3, n4, Value.cells]
  refine x_nil ?_
  refine hK8 _ _ ?_
  refine x_region ?_
  refine s_go (s_move) ?_
  try simp only [opv, n1, n2, n3, n4, Value.cells]
  refine s_go (s_shl (hc := shl_u16 (r := crcM r (l.take k)) (p := 256) (s := crcM r (l.take k) * 256 % 65536) rfl)) ?_
  try simp only [opv, n1, n2, n3, n4, Value.cells]
  refine s_go (s_move) ?_
  try simp only [opv, n1, n2, n3, n4, Value.cells]
  refine s_go (s_shr (hc := shr_u .u16 (r := crcM r (l.take k)) (p := 256) (s := crcM r (l.take k) / 256) rfl)) ?_
  try simp only [opv, n1, n2, n3, n4, Value.cells]
  refine s_go (s_conv Try.underlying58 Try.underlying5 (hc := by exact wr_u8 (by omega) (by omega))) ?_
  try simp only [opv, n1, n2, n3, n4, Value.cells]
  refine s_go (s_move) ?_
  try simp only [opv, n1, n2, n3, n4, Value.cells]
  refine s_go (s_bits (by simp) (hc := xor_u8 (a := crcM r (l.take k) / 256) (b := bt l k) (by omega) (by omega))) ?_
  try simp only [opv, n1, n2, n3, n4, Value.cells]
  refine s_go (m_indexAddr_arr Try.underlying279 ti58) ?_
  try simp only [opv, n1, n2, n3, n4, Value.cells, Nat.mul_one, Nat.zero_add, Int.toNat_natCast, Int.reduceToNat]
  refine s_go (m_load_obj Try.underlying58 (hS := hS) (hv := ctab_cell hxl)) ?_
  try simp only [opv, n1, n2, n3, n4, Value.cells, List.getElem_toArray, List.getElem_cons_zero, List.getElem_cons_succ]
  refine s_go (s_bits (by simp) (hc := (xor_u16 (by omega) (cstN_lt (by omega) 8)).trans (by rw [tab_step hcl hby.2]))) ?_
  try simp only [opv, n1, n2, n3, n4, Value.cells]
  refine s_go (s_assign) ?_
  try simp only [opv, n1, n2, n3, n4, Value.cells]
  refine x_nil ?_
  refine hK7 _ _ ?_
  refine x_region ?_
  refine s_go (s_add (hc := by exact wr_i64 (by omega) (by omega))) ?_
  try simp only [opv, n1, n2, n3, n4, Value.cells]
  refine s_go (s_move) ?_
  try simp only [opv, n1, n2, n3, n4, Value.cells]
  refine x_nil ?_
  refine loop_back (m' := n - (k + 1)) (by simp only [clob, List.foldl, n1, n2, n3, n4]) ?_ ?_
  · try simp only [opv, n1, n2, n3, n4, Value.cells]
    exact ⟨k + 1, by omega, by omega, by rfl, by rw [crcM_snoc (by omega)], hS⟩
  · omega
 ·
  try simp only [decide_eq_true_eq, decide_eq_false_iff_not, Bool.not_eq_true', Bool.not_eq_false', Int.not_lt, Int.not_le, ne_eq, Decidable.not_not, bne_iff_ne, beq_iff_eq, not_true_eq_false, not_false_eq_true] at hc1
  obtain rfl : k = n := by omega
  rw [← hl, List.take_length]
  refine x_exit (look_here ?_)
  refine hK3 _ _ ?_
  refine x_seq fun K9 hK9 => ?_
  refine x_region ?_
  refine s_go (s_move) ?_
  try simp only [opv, n1, n2, n3, n4, Value.cells]
  refine s_go (s_assign) ?_
  try simp only [opv, n1, n2, n3, n4, Value.cells]
  refine x_nil ?_
  refine hK9 _ _ ?_
  refine x_ret ?_
  refine r_tmp rfl ?_
  exact ⟨rfl, hS.ext_of⟩
theorem c_crcSum (w0 : World) (A : Option Addr) (n c : Nat) (l : List Int) (hr : Rd w0 A 1 n (l.map (Value.int .u8))) (hl : l.length = n) (hw : Byt l) (hn : n ≤ 140737488355000) (hc : n ≤ c) :
    CallR Try.prog 229 #[.slice A n c] w0 fun v w' => v = .int .u16 ((crcM 65535 l : Nat) : Int) ∧ Ext w0 w' := by
 have hS := St.rd1 (S := NoB) hr
 refine c_enter (l := [.slice A n c, undef, undef, undef, undef]) Try.func229 rfl (by simp only [Try.ntmps229, List.size_toArray, List.length_cons, List.length_nil, Nat.reduceAdd, Nat.reduceSub, Array.replicate_succ, Array.replicate_zero, List.push_toArray, List.append_toArray, List.nil_append, List.cons_append]) ?_
 refine x_seq fun K1 hK1 => ?_
 refine x_region ?_
 refine s_go (s_assign) ?_
 try simp only [opv, n1, n2, n3, n4, Value.cells]
 refine x_nil ?_
 refine hK1 _ _ ?_
 refine x_seq fun K2 hK2 => ?_
 refine x_region ?_
 refine s_go (s_move) ?_
 try simp only [opv, n1, n2, n3, n4, Value.cells]
 refine s_call en252 ?_
 try simp only [opv, n1, n2, n3, n4, Value.cells, List.map_toArray, List.map_cons, List.map_nil, List.append_toArray, List.cons_append, List.nil_append, Array.append_empty]
 refine CallR.mono (c_crcMore _ 65535 (by omega) _ _ _ _ (hS.hasRd (by repeat (exact Has.head))) (by simp [*]) (by assumption) (by omega) (by omega)) ?_
 rintro _ w1 ⟨rfl, hE1⟩
 replace hS := hS.ext hE1
 try simp only [opv, n1, n2, n3, n4, Value.cells]
 refine s_go (s_assign) ?_
 try simp only [opv, n1, n2, n3, n4, Value.cells]
 refine x_nil ?_
 refine hK2 _ _ ?_
 refine x_ret ?_
 refine r_tmp rfl ?_
 exact ⟨rfl, hS.ext_of⟩
end Go.Proofs.Ytpjpaipkkcengaa
set_option linter.unusedSimpArgs false
set_option linter.unusedVariables false
set_option maxHeartbeats 800000
set_option maxRecDepth 100000
namespace Go.Proofs.Ytpjpaipkkcengaa
open Go.RowKit

def seal2 (l : List Int) : List Int := [((crcM 65535 l / 256 : Nat) : Int), ((crcM 65535 l % 256 : Nat) : Int)]
def sealed (l : List Int) : List Int := l ++ seal2 l
def openE (l : List Int) : Int := if l.length < 2 then 4 else if crcM 65535 (l.take (l.length - 2)) ≠ bt l (l.length - 2) * 256 + bt l (l.length - 1) then 5 else 0
def openD (l : List Int) : List Int := if openE l = 0 then l.take (l.length - 2) else []
theorem or_256 {a b : Nat} (hb : b < 256) : a * 256 ||| b = a * 256 + b := by
  have := Nat.two_pow_add_eq_or_of_lt (i := 8) (b := b) hb a
  rw [show 2 ^ 8 * a = a * 256 by omega] at this
  exact this.symm

theorem c_crcSeal (w0 : World) (A : Option Addr) (n c : Nat) (l : List Int) (hr : Rd w0 A 1 n (l.map (Value.int .u8))) (hl : l.length = n) (hw : Byt l) (hn : n ≤ 140737488355000) (hc : n ≤ c) :
    CallR Try.prog 158 #[.slice A n c] w0 fun v w' => ∃ A' c', v = .slice A' (n + 2) c' ∧ St NoB w0 w' [.vec A' c' 5 1 (n + 2) ((sealed l).map (Value.int .u8))] := by
 have hS := St.rd1 (S := NoB) hr
 refine c_enter (l := [.slice A n c, undef, undef, undef, undef, undef, undef, undef, undef, undef, undef, undef, undef, undef, undef, undef, undef, undef, undef]) Try.func158 rfl (by simp only [Try.ntmps158, List.size_toArray, List.length_cons, List.length_nil, Nat.reduceAdd, Nat.reduceSub, Array.replicate_succ, Array.replicate_zero, List.push_toArray, List.append_toArray, List.nil_append, List.cons_append]) ?_
 refine x_seq fun K1 hK1 => ?_
 refine x_region ?_
 refine s_go (s_assign) ?_
 try simp only [opv, n1, n2, n3, n4, Value.cells]
 refine x_nil ?_
 refine hK1 _ _ ?_
 refine x_seq fun K2 hK2 => ?_
 refine x_region ?_
 refine s_go (s_move) ?_
 try simp only [opv, n1, n2, n3, n4, Value.cells]
 refine s_call en229 ?_
 try simp only [opv, n1, n2, n3, n4, Value.cells, List.map_toArray, List.map_cons, List.map_nil, List.append_toArray, List.cons_append, List.nil_append, Array.append_empty]
 refine CallR.mono (c_crcSum _ _ _ _ _ (hS.hasRd (by repeat (exact Has.head))) (by simp [*]) (by assumption) (by omega) (by omega)) ?_
 rintro _ w1 ⟨rfl, hE1⟩
 replace hS := hS.ext hE1
 try simp only [opv, n1, n2, n3, n4, Value.cells]
 refine s_go (s_assign) ?_
 try simp only [opv, n1, n2, n3, n4, Value.cells]
 refine x_nil ?_
 refine hK2 _ _ ?_
 refine x_seq fun K3 hK3 => ?_
 refine x_region ?_
 have hcl : crcM 65535 l < 65536 := crcM_lt _ (by omega)
 refine s_go (s_move) ?_
 try simp only [opv, n1, n2, n3, n4, Value.cells]
 refine s_go (s_move) ?_
 try simp only [opv, n1, n2, n3, n4, Value.cells]
 refine s_go (s_len_sl Try.underlying43) ?_
 try simp only [opv, n1, n2, n3, n4, Value.cells]
 refine s_go (s_move) ?_
 try simp only [opv, n1, n2, n3, n4, Value.cells]
 refine s_go (s_len_sl Try.underlying43) ?_
 try simp only [opv, n1, n2, n3, n4, Value.cells]
 refine m_slice_rd (lo := 0) (hi := n) (m := n) Try.underlying43 ti5 (hlo := rfl) (hhi := ⟨_, rfl⟩) (hmx := ⟨_, rfl⟩) (hS := hS) (h := fun A1 hA1 hS => ?_)
 try simp only [Nat.mul_one, Nat.zero_mul] at hA1
 try simp only [← List.map_append, ← List.map_drop, ← List.map_take, Nat.mul_one, Nat.zero_mul, Nat.sub_zero, List.drop_zero, List.nil_append, Nat.zero_add] at hS ⊢
 try simp only [opv, n1, n2, n3, n4, Value.cells, Array.toArray_toList] at hS ⊢
 refine s_go (s_move) ?_
 try simp only [opv, n1, n2, n3, n4, Value.cells]
 refine s_go (s_shr (hc := shr_u .u16 (r := crcM 65535 l) (p := 256) (s := crcM 65535 l / 256) rfl)) ?_
 try simp only [opv, n1, n2, n3, n4, Value.cells]
 refine s_go (s_conv Try.underlying58 Try.underlying5 (hc := by exact wr_u8 (by omega) (by omega))) ?_
 try simp only [opv, n1, n2, n3, n4, Value.cells]
 refine s_go (s_move) ?_
 try simp only [opv, n1, n2, n3, n4, Value.cells]
 refine s_go (s_conv Try.underlying58 Try.underlying5 (hc := cv_u8 (r := crcM 65535 l) (s := crcM 65535 l % 256) rfl)) ?_
 try simp only [opv, n1, n2, n3, n4, Value.cells]
 refine m_buildRow (cells := #[_, _]) Try.underlying43 ti5 (hc := by simp only [List.map_toArray, List.map_cons, List.map_nil, opv, n1, n2, n3, n4, Value.cells, List.toList_toArray]; (repeat (refine fill_cons rfl rfl (Nat.le_of_ble_eq_true rfl) ?_)); rfl) (hS := hS) (h := fun w2 g2 hS => ?_)
 try simp only [opv, n1, n2, n3, n4, Value.cells, Array.toArray_toList] at hS ⊢
 replace hS := hS.obj_rd (sz := 1) (n := 2) rfl .head
 refine m_append_copy Try.underlying43 ti5 (hS := hS) (news := (seal2 l).map (Value.int .u8)) (h := fun w3 A3 C3 hS => ?_)
 try simp only [← List.map_append, ← List.map_drop, ← List.map_take, Nat.mul_one, Nat.zero_mul, Nat.sub_zero, List.drop_zero, List.nil_append, Nat.zero_add] at hS ⊢
 try simp only [opv, n1, n2, n3, n4, Value.cells, Array.toArray_toList] at hS ⊢
 refine s_go (s_assign) ?_
 try simp only [opv, n1, n2, n3, n4, Value.cells]
 refine x_nil ?_
 refine hK3 _ _ ?_
 refine x_ret ?_
 refine r_tmp rfl ?_
 rw [show l.take n = l by rw [← hl, List.take_length]] at hS
 exact ⟨_, _, rfl, hS.sel (by repeat (first | exact Sel.nil | (refine Sel.cons (by repeat (exact Del.head)) ?_)))⟩
theorem openE_short {l : List Int} (h : l.length < 2) : openE l = 4 := by simp [openE, h]
theorem openE_bad {l : List Int} (h : ¬ l.length < 2) (hs : crcM 65535 (l.take (l.length - 2)) ≠ bt l (l.length - 2) * 256 + bt l (l.length - 1)) : openE l = 5 := by simp [openE, h, hs]
theorem openE_ok {l : List Int} (h : ¬ l.length < 2) (hs : crcM 65535 (l.take (l.length - 2)) = bt l (l.length - 2) * 256 + bt l (l.length - 1)) : openE l = 0 := by simp [openE, h, hs]
theorem openD_none {l : List Int} (h : openE l ≠ 0) : openD l = [] := by simp [openD, h]
theorem openD_ok {l : List Int} (h : openE l = 0) : openD l = l.take (l.length - 2) := by simp [openD, h]

theorem c_crcOpen (w0 : World) (A : Option Addr) (n c : Nat) (l : List Int) (hr : Rd w0 A 1 n (l.map (Value.int .u8))) (hl : l.length = n) (hw : Byt l) (hn : n ≤ 140737488355000) (hc : n ≤ c) :
    CallR Try.prog 150 #[.slice A n c] w0 fun v w' => ∃ A' m c', v = .tuple #[.slice A' m c', .int .i64 (openE l)] ∧ m = (openD l).length ∧ St NoB w0 w' [.vec A' c' 5 1 m ((openD l).map (Value.int .u8))] := by
 have hS := St.rd1 (S := NoB) hr
 refine c_enter (l := [.slice A n c, undef, undef, undef, undef, undef, undef, undef, undef, undef, undef, undef, undef, undef, undef, undef, undef, undef, undef, undef, undef, undef, undef, undef, undef, undef, undef, undef, undef, undef, undef, undef, undef, undef, undef]) Try.func150 rfl (by simp only [Try.ntmps150, List.size_toArray, List.length_cons, List.length_nil, Nat.reduceAdd, Nat.reduceSub, Array.replicate_succ, Array.replicate_zero, List.push_toArray, List.append_toArray, List.nil_append, List.cons_append]) ?_
 refine x_seq fun K1 hK1 => ?_
 refine x_region ?_
 refine s_go (s_assign) ?_
 try simp only [opv, n1, n2, n3, n4, Value.cells]
 refine s_go (s_assign) ?_
 try simp only [opv, n1, n2, n3, n4, Value.cells]
 refine x_nil ?_
 refine hK1 _ _ ?_
 refine x_seq fun K2 hK2 => ?_
 refine x_region ?_
 refine s_go (s_move) ?_
 try simp only [opv, n1, n2, n3, n4, Value.cells]
 refine s_go (s_len_sl Try.underlying43) ?_
 try simp only [opv, n1, n2, n3, n4, Value.cells]
 refine s_go (s_sub (hc := by exact wr_i64 (by omega) (by omega))) ?_
 try simp only [opv, n1, n2, n3, n4, Value.cells]
 refine s_go (s_assign) ?_
 try simp only [opv, n1, n2, n3, n4, Value.cells]
 refine x_nil ?_
 refine hK2 _ _ ?_
 refine x_seq fun K3 hK3 => ?_
 refine x_seq fun K4 hK4 => ?_
 refine x_region ?_
 refine s_go (s_move) ?_
 try simp only [opv, n1, n2, n3, n4, Value.cells]
 refine s_go (s_lss) ?_
 try simp only [opv, n1, n2, n3, n4, Value.cells]
 refine x_nil ?_
 refine hK4 _ _ ?_
 refine x_cond (ht := fun hc1 => ?_) (hf := fun hc1 => ?_)
 ·
  try simp only [decide_eq_true_eq, decide_eq_false_iff_not, Bool.not_eq_true', Bool.not_eq_false', Int.not_lt, Int.not_le, ne_eq, Decidable.not_not, bne_iff_ne, beq_iff_eq, not_true_eq_false, not_false_eq_true] at hc1
  have hE : openE l = 4 := openE_short (by omega)
  refine x_seq fun K5 hK5 => ?_
  refine x_region ?_
  refine s_go (s_assign) ?_
  try simp only [opv, n1, n2, n3, n4, Value.cells]
  refine s_go (s_assign) ?_
  try simp only [opv, n1, n2, n3, n4, Value.cells]
  refine x_nil ?_
  refine hK5 _ _ ?_
  refine x_ret ?_
  refine r_tmp2 rfl ?_
  have hD := openD_none (l := l) (by rw [hE]; decide)
  have hS := hS.nil_vec 5 1
  exact ⟨none, 0, 0, by rw [hE]; rfl, by rw [hD]; rfl, by rw [hD]; exact hS.sel (by repeat (first | exact Sel.nil | (refine Sel.cons (by repeat (exact Del.head)) ?_)))⟩
 ·
  try simp only [decide_eq_true_eq, decide_eq_false_iff_not, Bool.not_eq_true', Bool.not_eq_false', Int.not_lt, Int.not_le, ne_eq, Decidable.not_not, bne_iff_ne, beq_iff_eq, not_true_eq_false, not_false_eq_true] at hc1
  rw [show (n : Int) - 2 = ((n - 2 : Nat) : Int) by omega]
  have hcl : crcM 65535 (l.take (n - 2)) < 65536 := crcM_lt _ (by omega)
  have hb1 := hw.bt (n - 2)
  have hb2 := hw.bt (n - 1)
  refine x_skip ?_
  refine hK3 _ _ ?_
  refine x_seq fun K6 hK6 => ?_
  refine x_seq fun K7 hK7 => ?_
  refine x_region ?_
  refine s_go (s_move) ?_
  try simp only [opv, n1, n2, n3, n4, Value.cells]
  refine s_go (s_move) ?_
  try simp only [opv, n1, n2, n3, n4, Value.cells]
  refine m_slice_rd (lo := 0) (hi := n - 2) (m := _) Try.underlying43 ti5 (hlo := rfl) (hhi := ⟨_, rfl⟩) (hmx := rfl) (hS := hS) (h := fun A1 hA1 hS => ?_)
  try simp only [Nat.mul_one, Nat.zero_mul] at hA1
  try simp only [← List.map_append, ← List.map_drop, ← List.map_take, Nat.mul_one, Nat.zero_mul, Nat.sub_zero, List.drop_zero, List.nil_append, Nat.zero_add] at hS ⊢
  try simp only [opv, n1, n2, n3, n4, Value.cells, Array.toArray_toList] at hS ⊢
  refine s_call en229 ?_
  try simp only [opv, n1, n2, n3, n4, Value.cells, List.map_toArray, List.map_cons, List.map_nil, List.append_toArray, List.cons_append, List.nil_append, Array.append_empty]
  refine CallR.mono (c_crcSum _ _ _ _ _ (hS.hasRd (by repeat (exact Has.head))) (by simp [*]) (by exact Byt.take (by assumption) _) (by omega) (by omega)) ?_
  rintro _ w1 ⟨rfl, hE1⟩
  replace hS := hS.ext hE1
  try simp only [opv, n1, n2, n3, n4, Value.cells]
  refine s_go (s_assign) ?_
  try simp only [opv, n1, n2, n3, n4, Value.cells]
  refine x_nil ?_
  refine hK7 _ _ ?_
  refine x_seq fun K8 hK8 => ?_
  refine x_quiet (by kernel_rfl) (by kernel_rfl) hS ?_
  refine q_go (fun w hS => s_move) ?_
  try simp only [opv, n1, n2, n3, n4, Value.cells]
  refine q_go (fun w hS => s_move) ?_
  try simp only [opv, n1, n2, n3, n4, Value.cells]
  refine q_go (fun w hS => s_move) ?_
  try simp only [opv, n1, n2, n3, n4, Value.cells]
  refine q_go (fun w hS => m_indexAddr_rd Try.underlying43 ti5 (hS := hS)) ?_
  try simp only [opv, n1, n2, n3, n4, Value.cells, Nat.mul_one, Nat.zero_add, Int.toNat_natCast, Int.reduceToNat]
  refine q_go (fun w hS => m_load_rd Try.underlying5 (hS := hS)) ?_
  try simp only [opv, n1, n2, n3, n4, Value.cells, List.getElem_toArray, List.getElem_cons_zero, List.getElem_cons_succ]
  rw [hb1.1]
  refine q_go (fun w hS => s_conv Try.underlying5 Try.underlying58 (hc := by exact wr_u16 (by omega) (by omega))) ?_
  try simp only [opv, n1, n2, n3, n4, Value.cells]
  refine q_go (fun w hS => s_shl (hc := shl_u16 (r := bt l (n - 2)) (p := 256) (s := bt l (n - 2) * 256) (by omega))) ?_
  try simp only [opv, n1, n2, n3, n4, Value.cells]
  refine q_go (fun w hS => s_move) ?_
  try simp only [opv, n1, n2, n3, n4, Value.cells]
  refine q_go (fun w hS => s_move) ?_
  try simp only [opv, n1, n2, n3, n4, Value.cells]
  refine q_go (fun w hS => s_add (hc := by exact wr_i64 (by omega) (by omega))) ?_
  try simp only [opv, n1, n2, n3, n4, Value.cells]
  rw [show ((n - 2 : Nat) : Int) + 1 = ((n - 1 : Nat) : Int) by omega]
  refine q_go (fun w hS => m_indexAddr_rd Try.underlying43 ti5 (hS := hS)) ?_
  try simp only [opv, n1, n2, n3, n4, Value.cells, Nat.mul_one, Nat.zero_add, Int.toNat_natCast, Int.reduceToNat]
  refine q_go (fun w hS => m_load_rd Try.underlying5 (hS := hS)) ?_
  try simp only [opv, n1, n2, n3, n4, Value.cells, List.getElem_toArray, List.getElem_cons_zero, List.getElem_cons_succ]
  rw [hb2.1]
  refine q_go (fun w hS => s_conv Try.underlying5 Try.underlying58 (hc := by exact wr_u16 (by omega) (by omega))) ?_
  try simp only [opv, n1, n2, n3, n4, Value.cells]
  refine q_go (fun w hS => s_bits (by simp) (hc := (or_u16 (a := bt l (n - 2) * 256) (b := bt l (n - 1)) (by omega) (by omega)).trans (by rw [or_256 hb2.2]))) ?_
  try simp only [opv, n1, n2, n3, n4, Value.cells]
  refine q_go (fun w hS => s_neq) ?_
  try simp only [opv, n1, n2, n3, n4, Value.cells]
  clear hS
  refine q_nil fun w2 hS => ?_
  refine hK8 _ _ ?_
  refine x_cond (ht := fun hc2 => ?_) (hf := fun hc2 => ?_)
  ·
   try simp only [decide_eq_true_eq, decide_eq_false_iff_not, Bool.not_eq_true', Bool.not_eq_false', Int.not_lt, Int.not_le, ne_eq, Decidable.not_not, bne_iff_ne, beq_iff_eq, not_true_eq_false, not_false_eq_true] at hc2
   have hE : openE l = 5 := openE_bad (by omega) (by rw [hl]; exact_mod_cast hc2)
   refine x_seq fun K9 hK9 => ?_
   refine x_region ?_
   refine s_go (s_assign) ?_
   try simp only [opv, n1, n2, n3, n4, Value.cells]
   refine s_go (s_assign) ?_
   try simp only [opv, n1, n2, n3, n4, Value.cells]
   refine x_nil ?_
   refine hK9 _ _ ?_
   refine x_ret ?_
   refine r_tmp2 rfl ?_
   have hD := openD_none (l := l) (by rw [hE]; decide)
   have hS := hS.nil_vec 5 1
   exact ⟨none, 0, 0, by rw [hE]; rfl, by rw [hD]; rfl, by rw [hD]; exact hS.sel (by repeat (first | exact Sel.nil | (refine Sel.cons (by repeat (exact Del.head)) ?_)))⟩
  ·
   try simp only [decide_eq_true_eq, decide_eq_false_iff_not, Bool.not_eq_true', Bool.not_eq_false', Int.not_lt, Int.not_le, ne_eq, Decidable.not_not, bne_iff_ne, beq_iff_eq, not_true_eq_false, not_false_eq_true] at hc2
   have hE : openE l = 0 := openE_ok (by omega) (by rw [hl]; exact_mod_cast hc2)
   refine x_skip ?_
   refine hK6 _ _ ?_
   refine x_seq fun K10 hK10 => ?_
   refine x_region ?_
   refine m_buildRow (cells := #[]) Try.underlying43 ti5 (hc := by simp only [List.map_toArray, List.map_cons, List.map_nil, opv, n1, n2, n3, n4, Value.cells, List.toList_toArray]; (repeat (refine fill_cons rfl rfl (Nat.le_of_ble_eq_true rfl) ?_)); rfl) (hS := hS) (h := fun w3 g3 hS => ?_)
   try simp only [opv, n1, n2, n3, n4, Value.cells, Array.toArray_toList] at hS ⊢
   replace hS := hS.obj_vec (sz := 1) (n := 0) rfl (by decide) .head
   refine s_go (s_move) ?_
   try simp only [opv, n1, n2, n3, n4, Value.cells]
   refine s_go (s_move) ?_
   try simp only [opv, n1, n2, n3, n4, Value.cells]
   refine m_slice_rd (lo := 0) (hi := n - 2) (m := _) Try.underlying43 ti5 (hlo := rfl) (hhi := ⟨_, rfl⟩) (hmx := rfl) (hS := hS) (h := fun A2 hA2 hS => ?_)
   try simp only [Nat.mul_one, Nat.zero_mul] at hA2
   try simp only [← List.map_append, ← List.map_drop, ← List.map_take, Nat.mul_one, Nat.zero_mul, Nat.sub_zero, List.drop_zero, List.nil_append, Nat.zero_add] at hS ⊢
   try simp only [opv, n1, n2, n3, n4, Value.cells, Array.toArray_toList] at hS ⊢
   refine m_append Try.underlying43 ti5 (hS := hS) (h := fun w4 A4 C4 hS => ?_)
   try simp only [← List.map_append, ← List.map_drop, ← List.map_take, Nat.mul_one, Nat.zero_mul, Nat.sub_zero, List.drop_zero, List.nil_append, Nat.zero_add] at hS ⊢
   try simp only [opv, n1, n2, n3, n4, Value.cells, Array.toArray_toList] at hS ⊢
   refine s_go (s_assign) ?_
   try simp only [opv, n1, n2, n3, n4, Value.cells]
   refine s_go (s_assign) ?_
   try simp only [opv, n1, n2, n3, n4, Value.cells]
   refine x_nil ?_
   refine hK10 _ _ ?_
   refine x_ret ?_
   refine r_tmp2 rfl ?_
   have hD := openD_ok hE
   rw [hl] at hD
   exact ⟨_, _, _, by rw [hE]; rfl, by rw [hD]; simp; omega, by rw [hD]; exact hS.sel (by repeat (first | exact Sel.nil | (refine Sel.cons (by repeat (exact Del.head)) ?_)))⟩
end Go.Proofs.Ytpjpaipkkcengaa
set_option linter.unusedSimpArgs false
set_option linter.unusedVariables false
set_option maxHeartbeats 800000
set_option maxRecDepth 100000
namespace Go.Proofs.Ytpjpaipkkcengaa
open Go.RowKit

theorem sealed_len (l : List Int) : (sealed l).length = l.length + 2 := by simp [sealed, seal2]
end Go.Proofs.Ytpjpaipkkcengaa
namespace Go.Proofs.Ytpjpaipkkcengaa
theorem cst_zero : cst 0 = 0 := by simp [cst]
theorem cstN_zero : ∀ n, cstN n 0 = 0
  | 0 => rfl
  | n + 1 => by simp only [cstN]; rw [cstN_zero n, cst_zero]
theorem cstN_add (a : Nat) (x : Nat) : ∀ b, cstN (a + b) x = cstN b (cstN a x)
  | 0 => rfl
  | b + 1 => by
    show cst (cstN (a + b) x) = cst (cstN b (cstN a x))
    rw [cstN_add a x b]
theorem cst_inj0 {z : Nat} (hz : z < 65536) (h : cst z = 0) : z = 0 := by
  unfold cst at h
  split at h
  · have h1 : 2 * z % 65536 = 4129 := by
      have h2 : (2 * z % 65536 ^^^ 4129) ^^^ 4129 = 0 ^^^ 4129 := by rw [h]
      rw [Nat.xor_assoc, Nat.xor_self, Nat.xor_zero, Nat.zero_xor] at h2
      exact h2
    omega
  · omega
theorem cstN_inj0 {z : Nat} (hz : z < 65536) : ∀ n, cstN n z = 0 → z = 0
  | 0, h => h
  | n + 1, h => cstN_inj0 hz n (cst_inj0 (cstN_lt hz n) h)
theorem crcB_lin {r s c d : Nat} (hr : r < 65536) (hs : s < 65536) (hc : c < 256) (hd : d < 256) : crcB (r ^^^ s) (c ^^^ d) = crcB r c ^^^ crcB s d := by
  unfold crcB
  have h1 : (c ^^^ d) * 256 = (c * 256) ^^^ (d * 256) := by
    have := xor_mulp c d 8
    simpa only [Nat.reducePow] using this
  rw [h1]
  have e : (r ^^^ s) ^^^ ((c * 256) ^^^ (d * 256)) = (r ^^^ (c * 256)) ^^^ (s ^^^ (d * 256)) := by
    rw [Nat.xor_assoc, Nat.xor_assoc, ← Nat.xor_assoc s, Nat.xor_comm s (c * 256), Nat.xor_assoc]
  rw [e]
  exact cstN_xor (Nat.xor_lt_two_pow (n := 16) hr (by omega)) (Nat.xor_lt_two_pow (n := 16) hs (by omega)) 8
theorem crcB_state {r x c : Nat} (hr : r < 65536) (hx : x < 65536) (hc : c < 256) : crcB (r ^^^ x) c = crcB r c ^^^ cstN 8 x := by
  have h := crcB_lin (d := 0) hr hx hc (by omega)
  rw [Nat.xor_zero] at h
  have e : crcB x 0 = cstN 8 x := by unfold crcB; rw [Nat.zero_mul, Nat.xor_zero]
  rw [h, e]
theorem crcM_state : ∀ (l : List Int) {r x : Nat}, r < 65536 → x < 65536 → Byt l → crcM (r ^^^ x) l = crcM r l ^^^ cstN (8 * l.length) x
  | [], r, x, _, _, _ => by simp only [crcM, List.foldl_nil, List.length_nil, Nat.mul_zero, cstN]
  | c :: l, r, x, hr, hx, hb => by
    have hc : c.toNat < 256 := by have := hb c (by simp); omega
    rw [crcM_cons, crcM_cons, crcB_state hr hx hc, crcM_state l (crcB_lt _ _) (cstN_lt hx 8) (fun y hy => hb y (by simp [hy])), ← cstN_add]
    rw [List.length_cons, show 8 * (l.length + 1) = 8 + 8 * l.length by omega]
/-- the sum of what is sealed -/
theorem seal_zero {s : Nat} (hs : s < 65536) : crcM s [((s / 256 : Nat) : Int), ((s % 256 : Nat) : Int)] = 0 := by
  rw [crcM_cons, crcM_cons]
  simp only [Int.toNat_natCast, crcM, List.foldl_nil]
  rw [← tab_step hs (show s / 256 < 256 by omega), Nat.xor_self, Nat.zero_mul, cstN_zero, Nat.xor_zero]
  rw [← tab_step (show s * 256 % 65536 < 65536 by omega) (show s % 256 < 256 by omega)]
  rw [show s * 256 % 65536 / 256 = s % 256 by omega, Nat.xor_self, Nat.zero_mul, cstN_zero, Nat.xor_zero]
  omega
theorem two_zero {s x y : Nat} (hs : s < 65536) (hx : x < 256) (hy : y < 256) : crcM s [(x : Int), (y : Int)] = 0 ↔ s = x * 256 + y := by
  constructor
  · intro h
    have hz := seal_zero (s := x * 256 + y) (by omega)
    rw [show (x * 256 + y) / 256 = x by omega, show (x * 256 + y) % 256 = y by omega] at hz
    have hb : Byt [(x : Int), (y : Int)] := by intro z hz; simp at hz; rcases hz with rfl | rfl <;> omega
    have h1 := crcM_state [(x : Int), (y : Int)] (r := x * 256 + y) (x := (x * 256 + y) ^^^ s) (by omega) (Nat.xor_lt_two_pow (n := 16) (by omega) hs) hb
    rw [← Nat.xor_assoc, Nat.xor_self, Nat.zero_xor, h, hz, Nat.zero_xor] at h1
    have h2 := cstN_inj0 (Nat.xor_lt_two_pow (n := 16) (show x * 256 + y < 2 ^ 16 by omega) hs) _ h1.symm
    have h3 : (x * 256 + y) ^^^ ((x * 256 + y) ^^^ s) = (x * 256 + y) ^^^ 0 := by rw [h2]
    rw [← Nat.xor_assoc, Nat.xor_self, Nat.zero_xor, Nat.xor_zero] at h3
    exact h3
  · rintro rfl
    have hz := seal_zero (s := x * 256 + y) (by omega)
    rwa [show (x * 256 + y) / 256 = x by omega, show (x * 256 + y) % 256 = y by omega] at hz
/-- one bit turned -/
theorem cstN_pow : ∀ (b : Nat), b ≤ 15 → cstN b (2 ^ (15 - b)) = 32768
  | 0, _ => rfl
  | b + 1, h => by
    have h1 := cstN_pow b (by omega)
    rw [show b + 1 = 1 + b by omega, cstN_add]
    have h2 : cstN 1 (2 ^ (15 - (1 + b))) = 2 ^ (15 - b) := by
      have hp : 2 ^ (15 - b) = 2 * 2 ^ (15 - (1 + b)) := by rw [show 15 - b = (15 - (1 + b)) + 1 by omega, Nat.pow_succ, Nat.mul_comm]
      have hl : 2 ^ (15 - (1 + b)) ≤ 2 ^ 14 := Nat.pow_le_pow_right (by omega) (by omega)
      show cst (cstN 0 _) = _
      simp only [cstN]
      unfold cst
      rw [if_neg (by omega), Nat.mod_eq_of_lt (by omega), hp]
    rw [h2, h1]
theorem crcM_turn : ∀ (l : List Int) (j b r : Nat), j < l.length → b < 8 → r < 65536 → Byt l →
    crcM r (l.set j ((((l.getD j 0).toNat ^^^ 2 ^ (7 - b) : Nat) : Int))) = crcM r l ^^^ cstN (8 * (l.length - j) - b) 32768
  | [], j, _, _, h, _, _, _ => by simp at h
  | c :: l, 0, b, r, _, hb, hr, hw => by
    have hc : c.toNat < 256 := by have := hw c (by simp); omega
    have ht : 2 ^ (7 - b) < 256 := by
      have : 2 ^ (7 - b) ≤ 2 ^ 7 := Nat.pow_le_pow_right (by omega) (by omega)
      omega
    rw [List.set_cons_zero, crcM_cons, crcM_cons]
    simp only [List.getD_cons_zero, Int.toNat_natCast]
    have h1 := crcB_lin (r := r) (s := 0) hr (by omega) hc ht
    rw [Nat.xor_zero] at h1
    have h2 : crcB 0 (2 ^ (7 - b)) = cstN (8 - b) 32768 := by
      unfold crcB
      rw [Nat.zero_xor, show (256 : Nat) = 2 ^ 8 from rfl, ← Nat.pow_add, show 7 - b + 8 = 15 - b by omega]
      conv => lhs; rw [show (8 : Nat) = b + (8 - b) by omega]
      rw [cstN_add, cstN_pow b (by omega)]
    rw [h1, h2, crcM_state l (crcB_lt _ _) (cstN_lt (by omega) _) (fun y hy => hw y (by simp [hy])), ← cstN_add]
    rw [List.length_cons, show 8 - b + 8 * l.length = 8 * (l.length + 1 - 0) - b by omega]
  | c :: l, j + 1, b, r, h, hb, _, hw => by
    rw [List.set_cons_succ, crcM_cons, crcM_cons, List.getD_cons_succ, crcM_turn l j b (crcB r c.toNat) (by simpa using h) hb (crcB_lt _ _) (fun y hy => hw y (by simp [hy]))]
    rw [List.length_cons, show l.length + 1 - (j + 1) = l.length - j by omega]
/-- the burst as a word -/
def wk (turn : Nat) : Nat → Nat
  | 0 => 0
  | k + 1 => wk turn k ^^^ (if turn / 2 ^ k % 2 = 1 then 2 ^ (15 - k) else 0)
theorem wk_lt (turn : Nat) : ∀ k, wk turn k < 65536
  | 0 => by simp [wk]
  | k + 1 => by
    refine Nat.xor_lt_two_pow (n := 16) (wk_lt turn k) ?_
    split
    · exact Nat.lt_of_le_of_lt (Nat.pow_le_pow_right (by omega) (show 15 - k ≤ 15 by omega)) (by omega)
    · omega
theorem wk_bit (turn : Nat) : ∀ k, k ≤ 16 → ∀ i, i < 16 → (wk turn k).testBit (15 - i) = (decide (i < k) && decide (turn / 2 ^ i % 2 = 1))
  | 0, _, i, _ => by simp [wk]
  | k + 1, hk, i, hi => by
    simp only [wk, Nat.testBit_xor, wk_bit turn k (by omega) i hi]
    by_cases h : turn / 2 ^ k % 2 = 1
    · rw [if_pos h, Nat.testBit_two_pow]
      by_cases hik : i = k
      · subst hik; simp [h]
      · have e1 : ¬ (15 - k = 15 - i) := by omega
        have e2 : (i < k + 1) = (i < k) := by simp; omega
        simp [e1, e2]
    · rw [if_neg h, Nat.zero_testBit]
      by_cases hik : i = k
      · subst hik; simp [h]
      · have e2 : (i < k + 1) = (i < k) := by simp; omega
        simp [e2]
theorem wk_ne {turn : Nat} (ht : turn < 65536) (h : turn ≠ 0) : wk turn 16 ≠ 0 := by
  intro h0
  apply h
  apply Nat.eq_of_testBit_eq
  intro i
  rw [Nat.zero_testBit]
  rcases Nat.lt_or_ge i 16 with hi | hi
  · have := wk_bit turn 16 (by omega) i hi
    rw [h0, Nat.zero_testBit] at this
    rw [Nat.testBit_eq_decide_div_mod_eq]
    simpa [hi] using this.symm
  · exact Nat.testBit_lt_two_pow (Nat.lt_of_lt_of_le ht (Nat.pow_le_pow_right (n := 2) (by omega) hi))
end Go.Proofs.Ytpjpaipkkcengaa
set_option linter.unusedSimpArgs false
set_option linter.unusedVariables false
set_option maxHeartbeats 800000
set_option maxRecDepth 100000
namespace Go.Proofs.Ytpjpaipkkcengaa
open Go.RowKit

theorem seal2_byt (l : List Int) : Byt (seal2 l) := by
  have h := crcM_lt l (show 65535 < 65536 by omega)
  intro x hx
  simp only [seal2, List.mem_cons, List.not_mem_nil, or_false] at hx
  rcases hx with rfl | rfl <;> omega
theorem sealed_byt {l : List Int} (h : Byt l) : Byt (sealed l) := Byt.app h (seal2_byt l)
theorem sealed_zero (l : List Int) : crcM 65535 (sealed l) = 0 := by
  rw [sealed, crcM_app]; exact seal_zero (crcM_lt l (by omega))
theorem bt_int {l : List Int} (h : Byt l) {i : Nat} (hi : i < l.length) : l.drop i = (bt l i : Int) :: l.drop (i + 1) := by
  rw [List.drop_eq_getElem_cons hi, ← (h.bt i).1, List.getD_eq_getElem?_getD, List.getElem?_eq_getElem hi]; rfl
theorem crcM_end {d : List Int} (hb : Byt d) (h2 : ¬ d.length < 2) : crcM 65535 d = 0 ↔ crcM 65535 (d.take (d.length - 2)) = bt d (d.length - 2) * 256 + bt d (d.length - 1) := by
  have e : d.drop (d.length - 2) = [(bt d (d.length - 2) : Int), (bt d (d.length - 1) : Int)] := by
    rw [bt_int hb (by omega), show d.length - 2 + 1 = d.length - 1 by omega, bt_int hb (by omega), List.drop_eq_nil_of_le (by omega)]
  have h := two_zero (s := crcM 65535 (d.take (d.length - 2))) (crcM_lt _ (by omega)) (hb.bt (d.length - 2)).2 (hb.bt (d.length - 1)).2
  rw [← e, ← crcM_app, List.take_append_drop] at h
  exact h
theorem open_sealed {l : List Int} (h : Byt l) : openE (sealed l) = 0 ∧ openD (sealed l) = l := by
  have hl := sealed_len l
  have hE : openE (sealed l) = 0 := openE_ok (by omega) ((crcM_end (sealed_byt h) (by omega)).1 (sealed_zero l))
  refine ⟨hE, ?_⟩
  rw [openD_ok hE, hl, Nat.add_sub_cancel, sealed]
  exact List.take_left
theorem open_burst {d : List Int} (h : Byt d) (h2 : ¬ d.length < 2) (hz : crcM 65535 d ≠ 0) : openE d = 5 ∧ openD d = [] := by
  have hE : openE d = 5 := openE_bad h2 (fun e => hz ((crcM_end h h2).2 e))
  exact ⟨hE, openD_none (by rw [hE]; decide)⟩

theorem pow7 {b : Nat} (h : b < 8) : 128 / 2 ^ b = 2 ^ (7 - b) := by
  have : b = 0 ∨ b = 1 ∨ b = 2 ∨ b = 3 ∨ b = 4 ∨ b = 5 ∨ b = 6 ∨ b = 7 := by omega
  rcases this with rfl | rfl | rfl | rfl | rfl | rfl | rfl | rfl <;> rfl
theorem pow7_lt {b : Nat} : 2 ^ (7 - b) < 256 := by
  have : 2 ^ (7 - b) ≤ 2 ^ 7 := Nat.pow_le_pow_right (by omega) (by omega)
  omega
theorem burst_on {dl : List Int} {n q i turn : Nat} (hl : dl.length = n + 2) (hb : Byt dl) (hq : q ≤ 8 * n) (hi : i < 16) (hc : crcM 65535 dl = cstN (8 * (n + 2) - q) (wk turn i)) (ht : turn / 2 ^ i % 2 = 1) :
    crcM 65535 (dl.set ((q + i) / 8) (((bt dl ((q + i) / 8) ^^^ 2 ^ (7 - (q + i) % 8) : Nat) : Int))) = cstN (8 * (n + 2) - q) (wk turn (i + 1)) := by
  have h1 := crcM_turn dl ((q + i) / 8) ((q + i) % 8) 65535 (by omega) (by omega) (by omega) hb
  have e1 : 8 * (dl.length - (q + i) / 8) - (q + i) % 8 = 8 * (n + 2) - q - i := by omega
  rw [e1, hc] at h1
  have h2 : cstN (8 * (n + 2) - q) (2 ^ (15 - i)) = cstN (8 * (n + 2) - q - i) 32768 := by
    conv => lhs; rw [show 8 * (n + 2) - q = i + (8 * (n + 2) - q - i) by omega]
    rw [cstN_add, cstN_pow i (by omega)]
  have hp : 2 ^ (15 - i) < 65536 := Nat.lt_of_le_of_lt (Nat.pow_le_pow_right (by omega) (show 15 - i ≤ 15 by omega)) (by omega)
  simp only [wk, if_pos ht]
  rw [cstN_xor (wk_lt _ _) hp, h2]
  exact h1
theorem burst_off {i turn : Nat} (ht : ¬ turn / 2 ^ i % 2 = 1) : wk turn (i + 1) = wk turn i := by simp only [wk, if_neg ht, Nat.xor_zero]
theorem byt_set {l : List Int} (h : Byt l) {j v : Nat} (hv : v < 256) : Byt (l.set j (v : Int)) := fun x hx => by
  rcases List.mem_or_eq_of_mem_set hx with hx | rfl
  · exact h x hx
  · omega
end Go.Proofs.Ytpjpaipkkcengaa
set_option linter.unusedSimpArgs false
set_option linter.unusedVariables false
set_option maxHeartbeats 4000000
set_option maxRecDepth 100000
namespace Go.Proofs.Ytpjpaipkkcengaa
open Go.RowKit

def encF (fm : Fm) : List Int := if checkF fm = 0 then sealed (fmBody fm) else []
theorem encF_no {fm : Fm} (h : ¬ checkF fm = 0) : encF fm = [] := if_neg h
theorem encF_yes {fm : Fm} (h : checkF fm = 0) : encF fm = sealed (fmBody fm) := if_pos h
theorem h3_take {h3 : List Int} {k : Nat} (hk : k < h3.length) : h3.take (k + 1) = h3.take k ++ [h3.getD k 0] := by
  rw [List.take_succ_eq_append_getElem hk]; simp [List.getD_eq_getElem?_getD, List.getElem?_eq_getElem hk]

theorem c_frEncode (w0 : World) (fm : Fm) (hf : FmOk fm) (A : Option Addr) (cp : Nat) (hd : Rd w0 A 1 fm.d.length (fm.d.map (Value.int .u8))) (hdl : fm.d.length ≤ 100000)  :
    CallR Try.prog 63 #[.agg (FA fm A cp)] w0 fun v w' => ∃ (B : Option Addr) (k : Nat), v = .tuple #[.slice B (encF fm).length k, .int .i64 (checkF fm)] ∧ (encF fm).length ≤ k ∧ St NoB w0 w' [.vec B k 5 1 (encF fm).length ((encF fm).map (Value.int .u8))] := by
 have hS := (St.start (S := NoB) w0).rd_old hd
 have hbf := fmBody_byt hf
 have hfk := hf.k
 have hff := hf.fr
 have hft := hf.to
 have hfs := hf.ss
 have hfq := hf.sq
 have hfp := hf.pt
 have hfo := hf.off
 have hv1 := vari_len10 (x := fm.ss) (by omega)
 have hv2 := vari_len10 (x := fm.sq) (by omega)
 have hv3 := vari_len10 (x := fm.off) (by omega)
 have hv4 := vari_len10 (x := fm.d.length) (by omega)
 obtain ⟨h3, hh3⟩ : ∃ l : List Int, l = [(fm.k : Int), (fm.fr : Int), (fm.to : Int)] := ⟨_, rfl⟩
 have hl3 : h3.length = 3 := by rw [hh3]; rfl
 refine c_enter (l := [.agg (FA fm A cp), undef, undef, undef, undef, undef, undef, undef, undef, undef, undef, undef, undef, undef, undef, undef, undef, undef, undef, undef, undef, undef, undef, undef, undef, undef, undef, undef, undef, undef, undef, undef, undef, undef, undef, undef, undef, undef, undef, undef, undef, undef, undef, undef, undef, undef, undef, undef, undef, undef, undef, undef, undef, undef, undef, undef, undef, undef, undef, undef, undef]) Try.func63 rfl (by simp only [Try.ntmps63, List.size_toArray, List.length_cons, List.length_nil, Nat.reduceAdd, Nat.reduceSub, Array.replicate_succ, Array.replicate_zero, List.push_toArray, List.append_toArray, List.nil_append, List.cons_append]) ?_
 refine x_seq fun K1 hK1 => ?_
 refine x_region ?_
 refine m_box hS (fun w1 g1 hS => ?_)
 try simp only [opv, n1, n2, n3, n4, Value.cells, Array.toArray_toList] at hS ⊢
 refine s_go (s_assign) ?_
 try simp only [opv, n1, n2, n3, n4, Value.cells]
 refine s_go (s_assign) ?_
 try simp only [opv, n1, n2, n3, n4, Value.cells]
 refine x_nil ?_
 refine hK1 _ _ ?_
 refine x_seq fun K2 hK2 => ?_
 refine x_seq fun K3 hK3 => ?_
 refine x_region ?_
 refine s_go (m_load_row Try.underlying90 (hi := ti90) (hS := hS)) ?_
 try simp only [opv, n1, n2, n3, n4, Value.cells, List.getElem_toArray, List.getElem_cons_zero, List.getElem_cons_succ]
 refine s_call en66 ?_
 try simp only [opv, n1, n2, n3, n4, Value.cells, List.map_toArray, List.map_cons, List.map_nil, List.append_toArray, List.cons_append, List.nil_append, Array.append_empty]
 refine CallR.mono (c_frCheck _ _ _ _) ?_
 rintro _ w2 ⟨rfl, hE2⟩
 replace hS := hS.ext hE2
 try simp only [opv, n1, n2, n3, n4, Value.cells]
 refine s_go (s_assign) ?_
 try simp only [opv, n1, n2, n3, n4, Value.cells]
 refine x_nil ?_
 refine hK3 _ _ ?_
 refine x_seq fun K4 hK4 => ?_
 refine x_region ?_
 refine s_go (s_move) ?_
 try simp only [opv, n1, n2, n3, n4, Value.cells]
 refine s_go (s_neq) ?_
 try simp only [opv, n1, n2, n3, n4, Value.cells]
 refine x_nil ?_
 refine hK4 _ _ ?_
 refine x_cond (ht := fun hc1 => ?_) (hf := fun hc1 => ?_)
 ·
  try simp only [decide_eq_true_eq, decide_eq_false_iff_not, Bool.not_eq_true', Bool.not_eq_false', Int.not_lt, Int.not_le, ne_eq, Decidable.not_not, bne_iff_ne, beq_iff_eq, not_true_eq_false, not_false_eq_true] at hc1
  have hC : ¬ checkF fm = 0 := hc1
  refine x_seq fun K5 hK5 => ?_
  refine x_region ?_
  refine s_go (s_move) ?_
  try simp only [opv, n1, n2, n3, n4, Value.cells]
  refine s_go (s_assign) ?_
  try simp only [opv, n1, n2, n3, n4, Value.cells]
  refine s_go (s_assign) ?_
  try simp only [opv, n1, n2, n3, n4, Value.cells]
  refine x_nil ?_
  refine hK5 _ _ ?_
  refine x_ret ?_
  refine r_tmp2 rfl ?_
  have hE := encF_no hC
  replace hS := hS.nil_vec 5 1
  exact ⟨none, 0, by rw [hE]; rfl, by rw [hE]; exact Nat.le_refl 0, by rw [hE]; exact hS.sel (by repeat (first | exact Sel.nil | (refine Sel.cons (by repeat (exact Del.head)) ?_)))⟩
 ·
  try simp only [decide_eq_true_eq, decide_eq_false_iff_not, Bool.not_eq_true', Bool.not_eq_false', Int.not_lt, Int.not_le, ne_eq, Decidable.not_not, bne_iff_ne, beq_iff_eq, not_true_eq_false, not_false_eq_true] at hc1
  have hC : checkF fm = 0 := hc1
  refine x_skip ?_
  refine hK2 _ _ ?_
  refine x_seq fun K6 hK6 => ?_
  refine x_region ?_
  refine s_call en28 ?_
  try simp only [opv, n1, n2, n3, n4, Value.cells, List.map_toArray, List.map_cons, List.map_nil, List.append_toArray, List.cons_append, List.nil_append, Array.append_empty]
  refine CallR.mono (c_wnew _) ?_
  rintro _ w3 ⟨p, rfl, hC3⟩
  replace hS := hS.call hC3
  simp only [List.cons_append, List.nil_append] at hS
  try simp only [opv, n1, n2, n3, n4, Value.cells]
  refine s_go (s_assign) ?_
  try simp only [opv, n1, n2, n3, n4, Value.cells]
  refine x_nil ?_
  refine hK6 _ _ ?_
  refine x_seq fun K7 hK7 => ?_
  refine x_seq fun K8 hK8 => ?_
  refine x_region ?_
  refine s_go (m_fieldAddr Try.underlying90 (hi := ti5)) ?_
  try simp only [opv, n1, n2, n3, n4, Value.cells, Nat.zero_add, Nat.add_zero, List.getElem_toArray, List.getElem_cons_zero, List.getElem_cons_succ]
  refine s_go (m_load_obj Try.underlying5 (hS := hS)) ?_
  try simp only [opv, n1, n2, n3, n4, Value.cells, List.getElem_toArray, List.getElem_cons_zero, List.getElem_cons_succ]
  refine s_go (m_fieldAddr Try.underlying90 (hi := ti5)) ?_
  try simp only [opv, n1, n2, n3, n4, Value.cells, Nat.zero_add, Nat.add_zero, List.getElem_toArray, List.getElem_cons_zero, List.getElem_cons_succ]
  refine s_go (m_load_obj Try.underlying5 (hS := hS)) ?_
  try simp only [opv, n1, n2, n3, n4, Value.cells, List.getElem_toArray, List.getElem_cons_zero, List.getElem_cons_succ]
  refine s_go (m_fieldAddr Try.underlying90 (hi := ti5)) ?_
  try simp only [opv, n1, n2, n3, n4, Value.cells, Nat.zero_add, Nat.add_zero, List.getElem_toArray, List.getElem_cons_zero, List.getElem_cons_succ]
  refine s_go (m_load_obj Try.underlying5 (hS := hS)) ?_
  try simp only [opv, n1, n2, n3, n4, Value.cells, List.getElem_toArray, List.getElem_cons_zero, List.getElem_cons_succ]
  refine m_buildRow (cells := #[_, _, _]) Try.underlying43 ti5 (hc := by simp only [List.map_toArray, List.map_cons, List.map_nil, opv, n1, n2, n3, n4, Value.cells, List.toList_toArray]; (repeat (refine fill_cons rfl rfl (Nat.le_of_ble_eq_true rfl) ?_)); rfl) (hS := hS) (h := fun w4 g4 hS => ?_)
  try simp only [opv, n1, n2, n3, n4, Value.cells, Array.toArray_toList] at hS ⊢
  replace hS := hS.obj_rd (sz := 1) (n := 3) rfl .head
  obtain ⟨g6, hg6⟩ : ∃ z, z = g4 := ⟨_, rfl⟩
  rw [← hg6] at hS ⊢
  replace hS : St NoB w0 w4 (.rd (some ⟨g6, 0, none⟩) 1 3 ([(fm.k : Int), (fm.fr : Int), (fm.to : Int)].map (Value.int .u8)) :: _) := hS
  rw [← hh3] at hS
  refine s_go (s_len_sl Try.underlying43) ?_
  try simp only [opv, n1, n2, n3, n4, Value.cells]
  refine s_go (s_move) ?_
  try simp only [opv, n1, n2, n3, n4, Value.cells]
  refine x_nil ?_
  refine hK8 _ _ ?_
  refine x_block ?_
  refine x_loop [7, 22, 23, 24, 25, 26, 27, 28, 29] (fun m f w => ∃ (k : Nat) (B : Option Addr) (d : Nat), k ≤ 3 ∧ m = 3 - k ∧ f 22 = .int .i64 (k : Int) ∧ St NoB w0 w [.obj p (.cells #[.slice B (h3.take k).length d] 153 (0, 0)), .vec B d 5 1 (h3.take k).length ((h3.take k).map (Value.int .u8)), .rd (some ⟨g6, 0, none⟩) 1 3 (h3.map (Value.int .u8)), .obj g1 (.cells (FA fm A cp) 90 (0, 0)), .rd A 1 fm.d.length (fm.d.map (Value.int .u8))]) (3) ?init1 (fun m1 f1 wl1 hI => ?_)
  case init1 =>
   try simp only [opv, n1, n2, n3, n4, Value.cells]
   exact ⟨0, none, 0, by omega, rfl, rfl, hS.sel (by repeat (first | exact Sel.nil | (refine Sel.cons (by repeat (first | exact Del.head | apply Del.tail)) ?_)))⟩
  obtain ⟨k, B, d, hk, hm, h22, hS⟩ := hI
  simp only [clob, List.foldl, n3, n4, h22]
  have htk : (h3.take k).length = k := by rw [List.length_take]; omega
  refine x_seq fun K9 hK9 => ?_
  refine x_region ?_
  refine s_go (s_lss) ?_
  try simp only [opv, n1, n2, n3, n4, Value.cells]
  refine x_nil ?_
  refine hK9 _ _ ?_
  refine x_seq fun K10 hK10 => ?_
  refine x_cond (ht := fun hc2 => ?_) (hf := fun hc2 => ?_)
  ·
   try simp only [decide_eq_true_eq, decide_eq_false_iff_not, Bool.not_eq_true', Bool.not_eq_false', Int.not_lt, Int.not_le, ne_eq, Decidable.not_not, bne_iff_ne, beq_iff_eq, not_true_eq_false, not_false_eq_true] at hc2
   refine x_skip ?_
   refine hK10 _ _ ?_
   refine x_seq fun K11 hK11 => ?_
   refine x_block ?_
   refine x_seq fun K12 hK12 => ?_
   refine x_region ?_
   refine s_go (m_indexAddr_rd Try.underlying43 ti5 (hS := hS)) ?_
   try simp only [opv, n1, n2, n3, n4, Value.cells, Nat.mul_one, Nat.zero_add, Int.toNat_natCast, Int.reduceToNat]
   refine s_go (m_load_rd Try.underlying5 (hS := hS)) ?_
   try simp only [opv, n1, n2, n3, n4, Value.cells, List.getElem_toArray, List.getElem_cons_zero, List.getElem_cons_succ]
   refine s_go (s_assign) ?_
   try simp only [opv, n1, n2, n3, n4, Value.cells]
   refine x_nil ?_
   refine hK12 _ _ ?_
   refine x_region ?_
   refine s_go (s_move) ?_
   try simp only [opv, n1, n2, n3, n4, Value.cells]
   refine s_go (s_move) ?_
   try simp only [opv, n1, n2, n3, n4, Value.cells]
   refine s_call en120 ?_
   try simp only [opv, n1, n2, n3, n4, Value.cells, List.map_toArray, List.map_cons, List.map_nil, List.append_toArray, List.cons_append, List.nil_append, Array.append_empty]
   refine CallR.mono (c_wbyte _ p B d (h3.take k) (by omega) _ (hS.owns (by repeat (first | exact Spl.nil | (apply Spl.cons (by repeat (exact Del.head))))))) ?_
   rintro _ w5 ⟨rfl, A5, c5, hC5⟩
   replace hS := hS.frame (by repeat (first | exact Spl.nil | (apply Spl.cons (by repeat (exact Del.head))))) hC5 (by intro r hr g hg; simp only [List.mem_cons, List.not_mem_nil, or_false] at hr; rcases hr with rfl | rfl | rfl <;> (simp [Res.reads] at hg; done))
   simp only [List.cons_append, List.nil_append] at hS
   try simp only [opv, n1, n2, n3, n4, Value.cells]
   refine x_nil ?_
   refine hK11 _ _ ?_
   refine x_region ?_
   refine s_go (s_add (hc := by exact wr_i64 (by omega) (by omega))) ?_
   try simp only [opv, n1, n2, n3, n4, Value.cells]
   refine s_go (s_move) ?_
   try simp only [opv, n1, n2, n3, n4, Value.cells]
   refine x_nil ?_
   refine loop_back (m' := 3 - (k + 1)) (by simp only [clob, List.foldl, n1, n2, n3, n4]) ?_ ?_
   · try simp only [opv, n1, n2, n3, n4, Value.cells]
     rw [← h3_take (by omega)] at hS
     exact ⟨k + 1, _, _, by omega, by omega, by rfl, hS.sel (by repeat (first | exact Sel.nil | (refine Sel.cons (by repeat (exact Del.head)) ?_)))⟩
   · omega
  ·
   try simp only [decide_eq_true_eq, decide_eq_false_iff_not, Bool.not_eq_true', Bool.not_eq_false', Int.not_lt, Int.not_le, ne_eq, Decidable.not_not, bne_iff_ne, beq_iff_eq, not_true_eq_false, not_false_eq_true] at hc2
   obtain rfl : k = 3 := by omega
   rw [List.take_of_length_le (by omega)] at hS
   refine x_exit (look_here ?_)
   refine hK7 _ _ ?_
   refine x_seq fun K13 hK13 => ?_
   refine x_region ?_
   refine s_go (s_move) ?_
   try simp only [opv, n1, n2, n3, n4, Value.cells]
   refine s_go (m_fieldAddr Try.underlying90 (hi := ti25)) ?_
   try simp only [opv, n1, n2, n3, n4, Value.cells, Nat.zero_add, Nat.add_zero, List.getElem_toArray, List.getElem_cons_zero, List.getElem_cons_succ]
   refine s_go (m_load_obj Try.underlying25 (hS := hS)) ?_
   try simp only [opv, n1, n2, n3, n4, Value.cells, List.getElem_toArray, List.getElem_cons_zero, List.getElem_cons_succ]
   refine s_go (s_conv Try.underlying25 Try.underlying40 (hc := by exact wr_u64 (by omega) (by omega))) ?_
   try simp only [opv, n1, n2, n3, n4, Value.cells]
   refine s_call en115 ?_
   try simp only [opv, n1, n2, n3, n4, Value.cells, List.map_toArray, List.map_cons, List.map_nil, List.append_toArray, List.cons_append, List.nil_append, Array.append_empty]
   refine CallR.mono (c_wnum _ p _ _ (h3) (by (try simp only [List.length_append, List.length_cons, List.length_nil]); omega) (fm.ss) (by omega) (hS.owns (by repeat (first | exact Spl.nil | (apply Spl.cons (by repeat (exact Del.head))))))) ?_
   rintro _ w6 ⟨rfl, A6, c6, hC6⟩
   replace hS := hS.frame (by repeat (first | exact Spl.nil | (apply Spl.cons (by repeat (exact Del.head))))) hC6 (by intro r hr g hg; simp only [List.mem_cons, List.not_mem_nil, or_false] at hr; rcases hr with rfl | rfl | rfl <;> (simp [Res.reads] at hg; done))
   simp only [List.cons_append, List.nil_append] at hS
   try simp only [opv, n1, n2, n3, n4, Value.cells]
   refine x_nil ?_
   refine hK13 _ _ ?_
   refine x_seq fun K14 hK14 => ?_
   refine x_region ?_
   refine s_go (s_move) ?_
   try simp only [opv, n1, n2, n3, n4, Value.cells]
   refine s_go (m_fieldAddr Try.underlying90 (hi := ti25)) ?_
   try simp only [opv, n1, n2, n3, n4, Value.cells, Nat.zero_add, Nat.add_zero, List.getElem_toArray, List.getElem_cons_zero, List.getElem_cons_succ]
   refine s_go (m_load_obj Try.underlying25 (hS := hS)) ?_
   try simp only [opv, n1, n2, n3, n4, Value.cells, List.getElem_toArray, List.getElem_cons_zero, List.getElem_cons_succ]
   refine s_go (s_conv Try.underlying25 Try.underlying40 (hc := by exact wr_u64 (by omega) (by omega))) ?_
   try simp only [opv, n1, n2, n3, n4, Value.cells]
   refine s_call en115 ?_
   try simp only [opv, n1, n2, n3, n4, Value.cells, List.map_toArray, List.map_cons, List.map_nil, List.append_toArray, List.cons_append, List.nil_append, Array.append_empty]
   refine CallR.mono (c_wnum _ p _ _ (h3 ++ vari fm.ss) (by (try simp only [List.length_append, List.length_cons, List.length_nil]); omega) (fm.sq) (by omega) (hS.owns (by repeat (first | exact Spl.nil | (apply Spl.cons (by repeat (exact Del.head))))))) ?_
   rintro _ w7 ⟨rfl, A7, c7, hC7⟩
   replace hS := hS.frame (by repeat (first | exact Spl.nil | (apply Spl.cons (by repeat (exact Del.head))))) hC7 (by intro r hr g hg; simp only [List.mem_cons, List.not_mem_nil, or_false] at hr; rcases hr with rfl | rfl | rfl <;> (simp [Res.reads] at hg; done))
   simp only [List.cons_append, List.nil_append] at hS
   try simp only [opv, n1, n2, n3, n4, Value.cells]
   refine x_nil ?_
   refine hK14 _ _ ?_
   refine x_seq fun K15 hK15 => ?_
   refine x_region ?_
   refine s_go (s_move) ?_
   try simp only [opv, n1, n2, n3, n4, Value.cells]
   refine s_go (m_fieldAddr Try.underlying90 (hi := ti5)) ?_
   try simp only [opv, n1, n2, n3, n4, Value.cells, Nat.zero_add, Nat.add_zero, List.getElem_toArray, List.getElem_cons_zero, List.getElem_cons_succ]
   refine s_go (m_load_obj Try.underlying5 (hS := hS)) ?_
   try simp only [opv, n1, n2, n3, n4, Value.cells, List.getElem_toArray, List.getElem_cons_zero, List.getElem_cons_succ]
   refine s_call en120 ?_
   try simp only [opv, n1, n2, n3, n4, Value.cells, List.map_toArray, List.map_cons, List.map_nil, List.append_toArray, List.cons_append, List.nil_append, Array.append_empty]
   refine CallR.mono (c_wbyte _ p _ _ (h3 ++ vari fm.ss ++ vari fm.sq) (by (try simp only [List.length_append, List.length_cons, List.length_nil]); omega) _ (hS.owns (by repeat (first | exact Spl.nil | (apply Spl.cons (by repeat (exact Del.head))))))) ?_
   rintro _ w8 ⟨rfl, A8, c8, hC8⟩
   replace hS := hS.frame (by repeat (first | exact Spl.nil | (apply Spl.cons (by repeat (exact Del.head))))) hC8 (by intro r hr g hg; simp only [List.mem_cons, List.not_mem_nil, or_false] at hr; rcases hr with rfl | rfl | rfl <;> (simp [Res.reads] at hg; done))
   simp only [List.cons_append, List.nil_append] at hS
   try simp only [opv, n1, n2, n3, n4, Value.cells]
   refine x_nil ?_
   refine hK15 _ _ ?_
   refine x_seq fun K16 hK16 => ?_
   refine x_region ?_
   refine s_go (s_move) ?_
   try simp only [opv, n1, n2, n3, n4, Value.cells]
   refine s_go (m_fieldAddr Try.underlying90 (hi := ti25)) ?_
   try simp only [opv, n1, n2, n3, n4, Value.cells, Nat.zero_add, Nat.add_zero, List.getElem_toArray, List.getElem_cons_zero, List.getElem_cons_succ]
   refine s_go (m_load_obj Try.underlying25 (hS := hS)) ?_
   try simp only [opv, n1, n2, n3, n4, Value.cells, List.getElem_toArray, List.getElem_cons_zero, List.getElem_cons_succ]
   refine s_go (s_conv Try.underlying25 Try.underlying40 (hc := by exact wr_u64 (by omega) (by omega))) ?_
   try simp only [opv, n1, n2, n3, n4, Value.cells]
   refine s_call en115 ?_
   try simp only [opv, n1, n2, n3, n4, Value.cells, List.map_toArray, List.map_cons, List.map_nil, List.append_toArray, List.cons_append, List.nil_append, Array.append_empty]
   refine CallR.mono (c_wnum _ p _ _ (h3 ++ vari fm.ss ++ vari fm.sq ++ [(fm.pt : Int)]) (by (try simp only [List.length_append, List.length_cons, List.length_nil]); omega) (fm.off) (by omega) (hS.owns (by repeat (first | exact Spl.nil | (apply Spl.cons (by repeat (exact Del.head))))))) ?_
   rintro _ w9 ⟨rfl, A9, c9, hC9⟩
   replace hS := hS.frame (by repeat (first | exact Spl.nil | (apply Spl.cons (by repeat (exact Del.head))))) hC9 (by intro r hr g hg; simp only [List.mem_cons, List.not_mem_nil, or_false] at hr; rcases hr with rfl | rfl | rfl <;> (simp [Res.reads] at hg; done))
   simp only [List.cons_append, List.nil_append] at hS
   try simp only [opv, n1, n2, n3, n4, Value.cells]
   refine x_nil ?_
   refine hK16 _ _ ?_
   refine x_seq fun K17 hK17 => ?_
   refine x_region ?_
   refine s_go (s_move) ?_
   try simp only [opv, n1, n2, n3, n4, Value.cells]
   refine s_go (m_fieldAddr Try.underlying90 (hi := ti4)) ?_
   try simp only [opv, n1, n2, n3, n4, Value.cells, Nat.zero_add, Nat.add_zero, List.getElem_toArray, List.getElem_cons_zero, List.getElem_cons_succ]
   refine s_go (m_load_obj Try.underlying4 (hS := hS)) ?_
   try simp only [opv, n1, n2, n3, n4, Value.cells, List.getElem_toArray, List.getElem_cons_zero, List.getElem_cons_succ]
   refine s_call en152 ?_
   try simp only [opv, n1, n2, n3, n4, Value.cells, List.map_toArray, List.map_cons, List.map_nil, List.append_toArray, List.cons_append, List.nil_append, Array.append_empty]
   refine CallR.mono (c_frTruth _ _) ?_
   rintro _ w10 ⟨rfl, hE10⟩
   replace hS := hS.ext hE10
   try simp only [opv, n1, n2, n3, n4, Value.cells]
   refine s_call en120 ?_
   try simp only [opv, n1, n2, n3, n4, Value.cells, List.map_toArray, List.map_cons, List.map_nil, List.append_toArray, List.cons_append, List.nil_append, Array.append_empty]
   refine CallR.mono (c_wbyte _ p _ _ (h3 ++ vari fm.ss ++ vari fm.sq ++ [(fm.pt : Int)] ++ vari fm.off) (by (try simp only [List.length_append, List.length_cons, List.length_nil]); omega) _ (hS.owns (by repeat (first | exact Spl.nil | (apply Spl.cons (by repeat (exact Del.head))))))) ?_
   rintro _ w11 ⟨rfl, A11, c11, hC11⟩
   replace hS := hS.frame (by repeat (first | exact Spl.nil | (apply Spl.cons (by repeat (exact Del.head))))) hC11 (by intro r hr g hg; simp only [List.mem_cons, List.not_mem_nil, or_false] at hr; rcases hr with rfl | rfl | rfl <;> (simp [Res.reads] at hg; done))
   simp only [List.cons_append, List.nil_append] at hS
   try simp only [opv, n1, n2, n3, n4, Value.cells]
   refine x_nil ?_
   refine hK17 _ _ ?_
   refine x_seq fun K18 hK18 => ?_
   refine x_region ?_
   refine s_go (s_move) ?_
   try simp only [opv, n1, n2, n3, n4, Value.cells]
   refine s_go (m_fieldAddr Try.underlying90 (hi := ti43)) ?_
   try simp only [opv, n1, n2, n3, n4, Value.cells, Nat.zero_add, Nat.add_zero, List.getElem_toArray, List.getElem_cons_zero, List.getElem_cons_succ]
   refine s_go (m_load_obj Try.underlying43 (hS := hS)) ?_
   try simp only [opv, n1, n2, n3, n4, Value.cells, List.getElem_toArray, List.getElem_cons_zero, List.getElem_cons_succ]
   have hbl : (fmBody fm).length ≤ 200000 := by have := fmBody_len hf (by omega); omega
   refine s_call en121 ?_
   try simp only [opv, n1, n2, n3, n4, Value.cells, List.map_toArray, List.map_cons, List.map_nil, List.append_toArray, List.cons_append, List.nil_append, Array.append_empty]
   refine CallR.mono (c_wbytes _ p _ _ (h3 ++ vari fm.ss ++ vari fm.sq ++ [(fm.pt : Int)] ++ vari fm.off ++ [boolN fm.la]) (by (try simp only [List.length_append, List.length_cons, List.length_nil]); omega) A cp fm.d hdl (hS.owns (by repeat (first | exact Spl.nil | (apply Spl.cons (by repeat (first | exact Del.head | apply Del.tail))))))) ?_
   rintro _ w12 ⟨rfl, A12, c12, hC12⟩
   replace hS := hS.frame (by repeat (first | exact Spl.nil | (apply Spl.cons (by repeat (first | exact Del.head | apply Del.tail))))) hC12 (by intro r hr g hg; simp only [List.mem_cons, List.not_mem_nil, or_false] at hr; rcases hr with rfl | rfl | rfl <;> first | (simp [Res.reads] at hg; done) | exact .inr ⟨_, by simp, .inr hg⟩)
   simp only [List.cons_append, List.nil_append] at hS
   rw [show h3 ++ vari fm.ss ++ vari fm.sq ++ [(fm.pt : Int)] ++ vari fm.off ++ [boolN fm.la] ++ (vari fm.d.length ++ fm.d) = fmBody fm from by rw [hh3]; simp [fmBody]] at hS
   try simp only [opv, n1, n2, n3, n4, Value.cells]
   refine x_nil ?_
   refine hK18 _ _ ?_
   refine x_seq fun K19 hK19 => ?_
   refine x_region ?_
   refine s_go (s_move) ?_
   try simp only [opv, n1, n2, n3, n4, Value.cells]
   refine s_call en32 ?_
   try simp only [opv, n1, n2, n3, n4, Value.cells, List.map_toArray, List.map_cons, List.map_nil, List.append_toArray, List.cons_append, List.nil_append, Array.append_empty]
   refine CallR.mono (c_wout _ p _ _ (fmBody fm) (by omega) (hS.owns (by repeat (first | exact Spl.nil | (apply Spl.cons (by repeat (exact Del.head))))))) ?_
   rintro _ w13 ⟨A13, c13, rfl, hC13⟩
   replace hS := hS.frame (by repeat (first | exact Spl.nil | (apply Spl.cons (by repeat (exact Del.head))))) hC13 (by intro r hr g hg; simp only [List.mem_cons, List.not_mem_nil, or_false] at hr; rcases hr with rfl | rfl | rfl <;> (simp [Res.reads] at hg; done))
   simp only [List.cons_append, List.nil_append] at hS
   have hcap := hS.vec_cap (by exact Has.head)
   try simp only [opv, n1, n2, n3, n4, Value.cells]
   refine s_call en158 ?_
   try simp only [opv, n1, n2, n3, n4, Value.cells, List.map_toArray, List.map_cons, List.map_nil, List.append_toArray, List.cons_append, List.nil_append, Array.append_empty]
   refine CallR.mono (c_crcSeal _ _ _ _ (fmBody fm) (hS.vecRd (by repeat (exact Has.head))) rfl hbf (by omega) hcap) ?_
   rintro _ w14 ⟨AS, CS, rfl, hC14⟩
   replace hS := hS.call hC14
   simp only [List.cons_append, List.nil_append] at hS
   have hcs := hS.vec_cap (by exact Has.head)
   try simp only [opv, n1, n2, n3, n4, Value.cells]
   refine s_go (s_assign) ?_
   try simp only [opv, n1, n2, n3, n4, Value.cells]
   refine s_go (s_assign) ?_
   try simp only [opv, n1, n2, n3, n4, Value.cells]
   refine x_nil ?_
   refine hK19 _ _ ?_
   refine x_ret ?_
   refine r_tmp2 rfl ?_
   have hE := encF_yes hC
   have hsl := sealed_len (fmBody fm)
   have hel : (encF fm).length = (fmBody fm).length + 2 := by rw [hE]; exact hsl
   try rw [show 3 + (vari fm.ss).length + (vari fm.sq).length + 1 + (vari fm.off).length + 1 + (vari fm.d.length).length + fm.d.length = (fmBody fm).length from by omega] at hS hcs ⊢
   exact ⟨AS, CS, by rw [hel, hC]; rfl, by rw [hel]; exact hcs, by rw [hel, hE]; exact hS.sel (by repeat (first | exact Sel.nil | (refine Sel.cons (by repeat (exact Del.head)) ?_)))⟩
end Go.Proofs.Ytpjpaipkkcengaa
set_option linter.unusedSimpArgs false
set_option linter.unusedVariables false
set_option maxHeartbeats 2000000
set_option maxRecDepth 100000
namespace Go.Proofs.Ytpjpaipkkcengaa
open Go.RowKit

theorem openD_byt {l : List Int} (h : Byt l) : Byt (openD l) := by
  unfold openD; split
  · exact h.take _
  · intro y hy; cases hy
theorem openD_le (l : List Int) : (openD l).length ≤ l.length := by
  unfold openD; split <;> simp
def decE (l : List Int) : Int := if openE l = 0 then frE (openD l) else openE l
def decF (l : List Int) : Fm := if openE l = 0 then frF (openD l) else fm0
theorem fr_first (d : List Int) : firstE [(frSt d).s9.1, if decide (valB (frSt d).s7 ≤ 1) = true then 0 else 3, if 0 < (frSt d).s9.2.length then 3 else (frSt d).s9.1, checkF (frRaw d)] = frE d := by
  unfold frE
  by_cases h0 : (frSt d).s9.1 = 0
  · rw [if_pos h0, firstE, if_pos h0]
    by_cases h1 : valB (frSt d).s7 ≤ 1
    · rw [if_pos (decide_eq_true h1), firstE, if_pos rfl]
      by_cases h2 : 0 < (frSt d).s9.2.length
      · have h12 : 1 < valB (frSt d).s7 ∨ 0 < (frSt d).s9.2.length := .inr h2
        rw [if_pos h2, if_pos h12]; rfl
      · have h12 : ¬ (1 < valB (frSt d).s7 ∨ 0 < (frSt d).s9.2.length) := by omega
        rw [if_neg h2, if_neg h12, firstE, if_pos h0]
        by_cases h3 : checkF (frRaw d) = 0
        · simp [firstE, h3]
        · simp [firstE, h3]
    · have h12 : 1 < valB (frSt d).s7 ∨ 0 < (frSt d).s9.2.length := .inl (by omega)
      rw [if_neg (show ¬ decide (valB (frSt d).s7 ≤ 1) = true by simpa using h1), if_pos h12]; rfl
  · rw [if_neg h0, firstE, if_neg h0]
theorem fr_cells {d : List Int} (hb : Byt d) (B : Option Addr) (k : Nat) : (#[.int .u8 (valB (0, d)), .int .u8 (valB (frSt d).s1), .int .u8 (valB (frSt d).s2), .int .u32 (valN (frSt d).s3 : Int), .int .u32 (valN (frSt d).s4 : Int), .int .u8 (valB (frSt d).s5), .int .u32 (valN (frSt d).s6 : Int), .bool (decide (valB (frSt d).s7 = 1)), .slice B (bytS 65536 (frSt d).s8.1 (frSt d).s8.2).1.length k] : Array Value) = FA (frRaw d) B k := by
  have b1 : Byt (frSt d).s1.2 := oneS_byt hb
  have b2 : Byt (frSt d).s2.2 := oneS_byt b1
  have b3 : Byt (frSt d).s3.2 := oneS_byt b2
  have b4 : Byt (frSt d).s4.2 := numS_byt b3
  have b5 : Byt (frSt d).s5.2 := numS_byt b4
  have v : ∀ (s : Rs), Byt s.2 → (((valB s).toNat : Nat) : Int) = valB s := fun s hs => by have := oneS_val (e := s.1) hs; unfold valB; omega
  show _ = (#[.int .u8 (((valB (0, d)).toNat : Nat) : Int), .int .u8 (((valB (frSt d).s1).toNat : Nat) : Int), .int .u8 (((valB (frSt d).s2).toNat : Nat) : Int), _, _, .int .u8 (((valB (frSt d).s5).toNat : Nat) : Int), _, _, _] : Array Value)
  rw [v _ hb, v _ b1, v _ b2, v _ b5]
  rfl
structure FrB (d : List Int) : Prop where
  b1 : Byt (frSt d).s1.2
  b2 : Byt (frSt d).s2.2
  b3 : Byt (frSt d).s3.2
  b4 : Byt (frSt d).s4.2
  b5 : Byt (frSt d).s5.2
  b6 : Byt (frSt d).s6.2
  b7 : Byt (frSt d).s7.2
  b8 : Byt (frSt d).s8.2
  l1 : (frSt d).s1.2.length ≤ d.length
  l2 : (frSt d).s2.2.length ≤ d.length
  l3 : (frSt d).s3.2.length ≤ d.length
  l4 : (frSt d).s4.2.length ≤ d.length
  l5 : (frSt d).s5.2.length ≤ d.length
  l6 : (frSt d).s6.2.length ≤ d.length
  l7 : (frSt d).s7.2.length ≤ d.length
  l8 : (frSt d).s8.2.length ≤ d.length
theorem frB {d : List Int} (hb : Byt d) : FrB d := by
  have b1 : Byt (frSt d).s1.2 := oneS_byt hb
  have b2 : Byt (frSt d).s2.2 := oneS_byt b1
  have b3 : Byt (frSt d).s3.2 := oneS_byt b2
  have b4 : Byt (frSt d).s4.2 := numS_byt b3
  have b5 : Byt (frSt d).s5.2 := numS_byt b4
  have b6 : Byt (frSt d).s6.2 := oneS_byt b5
  have b7 : Byt (frSt d).s7.2 := numS_byt b6
  have b8 : Byt (frSt d).s8.2 := oneS_byt b7
  have l1 : (frSt d).s1.2.length ≤ d.length := oneS_len 0 d
  have l2 : (frSt d).s2.2.length ≤ (frSt d).s1.2.length := oneS_len _ _
  have l3 : (frSt d).s3.2.length ≤ (frSt d).s2.2.length := oneS_len _ _
  have l4 : (frSt d).s4.2.length ≤ (frSt d).s3.2.length := numS_len _ _ _
  have l5 : (frSt d).s5.2.length ≤ (frSt d).s4.2.length := numS_len _ _ _
  have l6 : (frSt d).s6.2.length ≤ (frSt d).s5.2.length := oneS_len _ _
  have l7 : (frSt d).s7.2.length ≤ (frSt d).s6.2.length := numS_len _ _ _
  have l8 : (frSt d).s8.2.length ≤ (frSt d).s7.2.length := oneS_len _ _
  exact ⟨b1, b2, b3, b4, b5, b6, b7, b8, by omega, by omega, by omega, by omega, by omega, by omega, by omega, by omega⟩

theorem c_cErrR (w0 : World) (q : Nat) (e : Int) (A : Option Addr) (n c : Nat) (hq : Rd w0 (some ⟨q, 0, none⟩) 1 2 [.int .i64 e, .slice A n c])  :
    CallR Try.prog 35 #[.pointer (some ⟨q, 0, none⟩)] w0 fun v w' => v = .int .i64 e ∧ Ext w0 w' := by
 have hS := St.rd1 (S := NoB) hq
 refine c_enter (l := [.pointer (some ⟨q, 0, none⟩), undef, undef, undef, undef, undef, undef, undef, undef, undef]) Try.func35 rfl (by simp only [Try.ntmps35, List.size_toArray, List.length_cons, List.length_nil, Nat.reduceAdd, Nat.reduceSub, Array.replicate_succ, Array.replicate_zero, List.push_toArray, List.append_toArray, List.nil_append, List.cons_append]) ?_
 refine x_seq fun K1 hK1 => ?_
 refine x_region ?_
 refine s_go (s_assign) ?_
 try simp only [opv, n1, n2, n3, n4, Value.cells]
 refine x_nil ?_
 refine hK1 _ _ ?_
 refine x_seq fun K2 hK2 => ?_
 refine x_seq fun K3 hK3 => ?_
 refine x_region ?_
 refine s_go (s_move) ?_
 try simp only [opv, n1, n2, n3, n4, Value.cells]
 refine s_go (s_eql_pointer Try.underlying48) ?_
 try simp only [opv, n1, n2, n3, n4, Value.cells]
 refine x_nil ?_
 refine hK3 _ _ ?_
 refine x_cond_f (h := ?_)
 refine x_skip ?_
 refine hK2 _ _ ?_
 refine x_seq fun K4 hK4 => ?_
 refine x_region ?_
 refine s_go (s_move) ?_
 try simp only [opv, n1, n2, n3, n4, Value.cells]
 refine s_go (s_nilCheck) ?_
 try simp only [opv, n1, n2, n3, n4, Value.cells]
 refine s_go (m_fieldAddr Try.underlying162 (hi := ti160)) ?_
 try simp only [opv, n1, n2, n3, n4, Value.cells, Nat.zero_add, Nat.add_zero, List.getElem_toArray, List.getElem_cons_zero, List.getElem_cons_succ]
 refine s_go (m_fieldAddr Try.underlying160 (hi := ti53)) ?_
 try simp only [opv, n1, n2, n3, n4, Value.cells, Nat.zero_add, Nat.add_zero, List.getElem_toArray, List.getElem_cons_zero, List.getElem_cons_succ]
 refine s_go (m_load_bx Try.underlying53 (hS := hS)) ?_
 try simp only [opv, n1, n2, n3, n4, Value.cells, List.getElem_toArray, List.getElem_cons_zero, List.getElem_cons_succ]
 refine s_go (s_assign) ?_
 try simp only [opv, n1, n2, n3, n4, Value.cells]
 refine x_nil ?_
 refine hK4 _ _ ?_
 refine x_ret ?_
 refine r_tmp rfl ?_
 exact ⟨rfl, hS.ext_of⟩
theorem c_cLeftR (w0 : World) (q : Nat) (e : Int) (A : Option Addr) (n c : Nat) (hq : Rd w0 (some ⟨q, 0, none⟩) 1 2 [.int .i64 e, .slice A n c])  :
    CallR Try.prog 39 #[.pointer (some ⟨q, 0, none⟩)] w0 fun v w' => v = .int .i64 (n : Int) ∧ Ext w0 w' := by
 have hS := St.rd1 (S := NoB) hq
 refine c_enter (l := [.pointer (some ⟨q, 0, none⟩), undef, undef, undef, undef, undef, undef, undef, undef, undef]) Try.func39 rfl (by simp only [Try.ntmps39, List.size_toArray, List.length_cons, List.length_nil, Nat.reduceAdd, Nat.reduceSub, Array.replicate_succ, Array.replicate_zero, List.push_toArray, List.append_toArray, List.nil_append, List.cons_append]) ?_
 refine x_seq fun K1 hK1 => ?_
 refine x_region ?_
 refine s_go (s_assign) ?_
 try simp only [opv, n1, n2, n3, n4, Value.cells]
 refine x_nil ?_
 refine hK1 _ _ ?_
 refine x_seq fun K2 hK2 => ?_
 refine x_seq fun K3 hK3 => ?_
 refine x_region ?_
 refine s_go (s_move) ?_
 try simp only [opv, n1, n2, n3, n4, Value.cells]
 refine s_go (s_eql_pointer Try.underlying48) ?_
 try simp only [opv, n1, n2, n3, n4, Value.cells]
 refine x_nil ?_
 refine hK3 _ _ ?_
 refine x_cond_f (h := ?_)
 refine x_skip ?_
 refine hK2 _ _ ?_
 refine x_seq fun K4 hK4 => ?_
 refine x_region ?_
 refine s_go (s_move) ?_
 try simp only [opv, n1, n2, n3, n4, Value.cells]
 refine s_go (s_nilCheck) ?_
 try simp only [opv, n1, n2, n3, n4, Value.cells]
 refine s_go (m_fieldAddr Try.underlying162 (hi := ti43)) ?_
 try simp only [opv, n1, n2, n3, n4, Value.cells, Nat.zero_add, Nat.add_zero, List.getElem_toArray, List.getElem_cons_zero, List.getElem_cons_succ]
 refine s_go (m_load_bx Try.underlying43 (hS := hS)) ?_
 try simp only [opv, n1, n2, n3, n4, Value.cells, List.getElem_toArray, List.getElem_cons_zero, List.getElem_cons_succ]
 refine s_go (s_len_sl Try.underlying43) ?_
 try simp only [opv, n1, n2, n3, n4, Value.cells]
 refine s_go (s_assign) ?_
 try simp only [opv, n1, n2, n3, n4, Value.cells]
 refine x_nil ?_
 refine hK4 _ _ ?_
 refine x_ret ?_
 refine r_tmp rfl ?_
 exact ⟨rfl, hS.ext_of⟩
theorem c_cDoneR (w0 : World) (q : Nat) (e : Int) (A : Option Addr) (n c : Nat) (hq : Rd w0 (some ⟨q, 0, none⟩) 1 2 [.int .i64 e, .slice A n c])  :
    CallR Try.prog 37 #[.pointer (some ⟨q, 0, none⟩)] w0 fun v w' => v = .int .i64 (if 0 < n then 3 else e) ∧ Ext w0 w' := by
 have hS := St.rd1 (S := NoB) hq
 refine c_enter (l := [.pointer (some ⟨q, 0, none⟩), undef, undef, undef, undef, undef, undef, undef]) Try.func37 rfl (by simp only [Try.ntmps37, List.size_toArray, List.length_cons, List.length_nil, Nat.reduceAdd, Nat.reduceSub, Array.replicate_succ, Array.replicate_zero, List.push_toArray, List.append_toArray, List.nil_append, List.cons_append]) ?_
 refine x_seq fun K1 hK1 => ?_
 refine x_region ?_
 refine s_go (s_assign) ?_
 try simp only [opv, n1, n2, n3, n4, Value.cells]
 refine x_nil ?_
 refine hK1 _ _ ?_
 refine x_seq fun K2 hK2 => ?_
 refine x_seq fun K3 hK3 => ?_
 refine x_region ?_
 refine s_go (s_move) ?_
 try simp only [opv, n1, n2, n3, n4, Value.cells]
 refine s_call en39 ?_
 try simp only [opv, n1, n2, n3, n4, Value.cells, List.map_toArray, List.map_cons, List.map_nil, List.append_toArray, List.cons_append, List.nil_append, Array.append_empty]
 refine CallR.mono (c_cLeftR _ q e A n c (hS.hasRd (by repeat (exact Has.head)))) ?_
 rintro _ w1 ⟨rfl, hE1⟩
 replace hS := hS.ext hE1
 try simp only [opv, n1, n2, n3, n4, Value.cells]
 refine s_go (s_gtr) ?_
 try simp only [opv, n1, n2, n3, n4, Value.cells]
 refine x_nil ?_
 refine hK3 _ _ ?_
 refine x_cond (ht := fun hc1 => ?_) (hf := fun hc1 => ?_)
 ·
  try simp only [decide_eq_true_eq, decide_eq_false_iff_not, Bool.not_eq_true', Bool.not_eq_false', Int.not_lt, Int.not_le, ne_eq, Decidable.not_not, bne_iff_ne, beq_iff_eq, not_true_eq_false, not_false_eq_true] at hc1
  have hL : (if 0 < n then (3 : Int) else e) = 3 := if_pos (by omega)
  refine x_seq fun K4 hK4 => ?_
  refine x_region ?_
  refine s_go (s_assign) ?_
  try simp only [opv, n1, n2, n3, n4, Value.cells]
  refine x_nil ?_
  refine hK4 _ _ ?_
  refine x_ret ?_
  refine r_tmp rfl ?_
  exact ⟨by rw [hL]; rfl, hS.ext_of⟩
 ·
  try simp only [decide_eq_true_eq, decide_eq_false_iff_not, Bool.not_eq_true', Bool.not_eq_false', Int.not_lt, Int.not_le, ne_eq, Decidable.not_not, bne_iff_ne, beq_iff_eq, not_true_eq_false, not_false_eq_true] at hc1
  have hL : (if 0 < n then (3 : Int) else e) = e := if_neg (by omega)
  refine x_skip ?_
  refine hK2 _ _ ?_
  refine x_seq fun K5 hK5 => ?_
  refine x_region ?_
  refine s_go (s_move) ?_
  try simp only [opv, n1, n2, n3, n4, Value.cells]
  refine s_call en35 ?_
  try simp only [opv, n1, n2, n3, n4, Value.cells, List.map_toArray, List.map_cons, List.map_nil, List.append_toArray, List.cons_append, List.nil_append, Array.append_empty]
  refine CallR.mono (c_cErrR _ q e A n c (hS.hasRd (by repeat (exact Has.head)))) ?_
  rintro _ w2 ⟨rfl, hE2⟩
  replace hS := hS.ext hE2
  try simp only [opv, n1, n2, n3, n4, Value.cells]
  refine s_go (s_assign) ?_
  try simp only [opv, n1, n2, n3, n4, Value.cells]
  refine x_nil ?_
  refine hK5 _ _ ?_
  refine x_ret ?_
  refine r_tmp rfl ?_
  exact ⟨by rw [hL]; rfl, hS.ext_of⟩
theorem c_frDec2 (w0 : World) (q : Nat) (x : Int) (hq : Rd w0 (some ⟨q, 0, none⟩) 1 1 [.int .u8 x])  :
    CallR Try.prog 155 #[.pointer (some ⟨q, 0, none⟩)] w0 fun v w' => v = .bool (decide (x ≤ 1)) ∧ Ext w0 w' := by
 have hS := St.rd1 (S := NoB) hq
 refine c_enter (l := [.pointer (some ⟨q, 0, none⟩), undef, undef, undef, undef]) Try.func155 rfl (by simp only [Try.ntmps155, List.size_toArray, List.length_cons, List.length_nil, Nat.reduceAdd, Nat.reduceSub, Array.replicate_succ, Array.replicate_zero, List.push_toArray, List.append_toArray, List.nil_append, List.cons_append]) ?_
 refine x_seq fun K1 hK1 => ?_
 refine x_region ?_
 refine s_go (s_assign) ?_
 try simp only [opv, n1, n2, n3, n4, Value.cells]
 refine x_nil ?_
 refine hK1 _ _ ?_
 refine x_seq fun K2 hK2 => ?_
 refine x_quiet (by kernel_rfl) (by kernel_rfl) hS ?_
 refine q_go (fun w hS => m_load_bx Try.underlying5 (hS := hS)) ?_
 try simp only [opv, n1, n2, n3, n4, Value.cells, List.getElem_toArray, List.getElem_cons_zero, List.getElem_cons_succ]
 apply q_call en152
 case H =>
   intro w hS
   try simp only [opv, n1, n2, n3, n4, List.map_toArray, List.map_cons, List.map_nil, List.append_toArray, List.cons_append, List.nil_append, Array.append_empty]
   refine CallR.mono (c_frTruth _ _) ?_
   rintro _ w1 ⟨rfl, hE⟩; exact ⟨rfl, hS.ext hE⟩
 try simp only [opv, n1, n2, n3, n4, Value.cells]
 rw [show boolN true = 1 from rfl]
 refine q_go (fun w hS => s_leq) ?_
 try simp only [opv, n1, n2, n3, n4, Value.cells]
 refine q_go (fun w hS => s_assign) ?_
 try simp only [opv, n1, n2, n3, n4, Value.cells]
 clear hS
 refine q_nil fun w1 hS => ?_
 refine hK2 _ _ ?_
 refine x_ret ?_
 refine r_tmp rfl ?_
 exact ⟨rfl, hS.ext_of⟩
theorem c_frDec3 (w0 : World) (q : Nat) (fm : Fm) (A : Option Addr) (cp : Nat) (hq : Rd w0 (some ⟨q, 0, none⟩) 1 9 (fmL fm A cp))  :
    CallR Try.prog 156 #[.pointer (some ⟨q, 0, none⟩)] w0 fun v w' => v = .int .i64 (checkF fm) ∧ Ext w0 w' := by
 have hS := St.rd1 (S := NoB) hq
 refine c_enter (l := [.pointer (some ⟨q, 0, none⟩), undef, undef, undef]) Try.func156 rfl (by simp only [Try.ntmps156, List.size_toArray, List.length_cons, List.length_nil, Nat.reduceAdd, Nat.reduceSub, Array.replicate_succ, Array.replicate_zero, List.push_toArray, List.append_toArray, List.nil_append, List.cons_append]) ?_
 refine x_seq fun K1 hK1 => ?_
 refine x_region ?_
 refine s_go (s_assign) ?_
 try simp only [opv, n1, n2, n3, n4, Value.cells]
 refine x_nil ?_
 refine hK1 _ _ ?_
 refine x_seq fun K2 hK2 => ?_
 refine x_region ?_
 refine s_go (m_loada_bx Try.underlying90 (hi := ti90) (hS := hS) (hfit := by (simp [fmL]; done))) ?_
 try simp only [opv, n1, n2, n3, n4, Value.cells, List.getElem_toArray, List.getElem_cons_zero, List.getElem_cons_succ]
 refine s_call en66 ?_
 try simp only [opv, n1, n2, n3, n4, Value.cells, List.map_toArray, List.map_cons, List.map_nil, List.append_toArray, List.cons_append, List.nil_append, Array.append_empty]
 refine CallR.mono (c_frCheck fm A cp _) ?_
 rintro _ w1 ⟨rfl, hE1⟩
 replace hS := hS.ext hE1
 try simp only [opv, n1, n2, n3, n4, Value.cells]
 refine s_go (s_assign) ?_
 try simp only [opv, n1, n2, n3, n4, Value.cells]
 refine x_nil ?_
 refine hK2 _ _ ?_
 refine x_ret ?_
 refine r_tmp rfl ?_
 exact ⟨rfl, hS.ext_of⟩
theorem c_frNum (w0 : World) (g : Nat) (e : Int) (A : Option Addr) (c : Nat) (xs : List Int) (hc : xs.length ≤ c) (hw : Byt xs) (hn : xs.length ≤ 1000000000) (b : Nat) (hM : St (OwnB [.obj g (.cells #[.int .i64 e, .slice A xs.length c] 162 (0, 0)), .rd A 1 xs.length (xs.map (Value.int .u8)), .obj b (.cells #[.pointer (some ⟨g, 0, none⟩)] 48 (0, 0))]) w0 w0 [.obj g (.cells #[.int .i64 e, .slice A xs.length c] 162 (0, 0)), .rd A 1 xs.length (xs.map (Value.int .u8)), .obj b (.cells #[.pointer (some ⟨g, 0, none⟩)] 48 (0, 0))]) :
    CallR Try.prog 151 #[.pointer (some ⟨b, 0, none⟩)] w0 fun v w' => v = .int .u32 ((numS 4294967295 e xs).1 : Int) ∧ CuSt w0 w' [.obj g (.cells #[.int .i64 e, .slice A xs.length c] 162 (0, 0)), .rd A 1 xs.length (xs.map (Value.int .u8)), .obj b (.cells #[.pointer (some ⟨g, 0, none⟩)] 48 (0, 0))] g (numS 4294967295 e xs).2.1 (numS 4294967295 e xs).2.2 [.obj b (.cells #[.pointer (some ⟨g, 0, none⟩)] 48 (0, 0))] := by
 have hS := hM
 have hnl := numS_le 4294967295 e xs
 refine c_enter (l := [.pointer (some ⟨b, 0, none⟩), undef, undef, undef, undef]) Try.func151 rfl (by simp only [Try.ntmps151, List.size_toArray, List.length_cons, List.length_nil, Nat.reduceAdd, Nat.reduceSub, Array.replicate_succ, Array.replicate_zero, List.push_toArray, List.append_toArray, List.nil_append, List.cons_append]) ?_
 refine x_seq fun K1 hK1 => ?_
 refine x_region ?_
 refine s_go (s_assign) ?_
 try simp only [opv, n1, n2, n3, n4, Value.cells]
 refine x_nil ?_
 refine hK1 _ _ ?_
 refine x_seq fun K2 hK2 => ?_
 refine x_region ?_
 refine s_go (m_load_obj Try.underlying48 (hS := hS)) ?_
 try simp only [opv, n1, n2, n3, n4, Value.cells, List.getElem_toArray, List.getElem_cons_zero, List.getElem_cons_succ]
 refine s_call en122 ?_
 try simp only [opv, n1, n2, n3, n4, Value.cells, List.map_toArray, List.map_cons, List.map_nil, List.append_toArray, List.cons_append, List.nil_append, Array.append_empty]
 refine CallR.mono (c_cNum _ g e A c xs hc hw hn 4294967295 (by omega) (hS.owns (by repeat (first | exact Spl.nil | (apply Spl.cons (by repeat (exact Del.head))))))) ?_
 rintro _ w1 ⟨rfl, A1, c1, hcp1, hR1, hC1⟩
 have hY1 := RdIn.trans hM hS (by repeat (first | exact Spl.nil | (apply Spl.cons (by repeat (exact Del.head))))) hR1 (by intro s hs q hb; simp only [List.mem_cons, List.not_mem_nil, or_false] at hs; rcases hs with rfl | rfl <;> first | (simp [Res.reads] at hb; done) | exact .inr ⟨_, List.mem_cons_of_mem _ (List.mem_cons_self ..), .inr hb⟩)
 replace hS := hS.frame (by repeat (first | exact Spl.nil | (apply Spl.cons (by repeat (exact Del.head))))) hC1 (by intro r hr b hb; simp only [List.mem_cons, List.not_mem_nil, or_false] at hr; rcases hr with rfl | rfl <;> first | (simp [Res.reads] at hb; done) | exact hR1 b hb)
 replace hR1 := hY1
 simp only [List.cons_append, List.nil_append] at hS
 try simp only [opv, n1, n2, n3, n4, Value.cells]
 refine s_go (s_conv Try.underlying40 Try.underlying25 (hc := by exact wr_u32 (by omega) (by omega))) ?_
 try simp only [opv, n1, n2, n3, n4, Value.cells]
 refine s_go (s_assign) ?_
 try simp only [opv, n1, n2, n3, n4, Value.cells]
 refine x_nil ?_
 refine hK2 _ _ ?_
 refine x_ret ?_
 refine r_tmp rfl ?_
 exact ⟨rfl, _, _, by assumption, by assumption, hS.sel (by repeat (first | exact Sel.nil | (refine Sel.cons (by repeat (exact Del.head)) ?_)))⟩
theorem c_frDecode (w0 : World) (A : Option Addr) (n c : Nat) (l : List Int) (hr : Rd w0 A 1 n (l.map (Value.int .u8))) (hl : l.length = n) (hw : Byt l) (hn : n ≤ 1000000) (hc : n ≤ c) :
    CallR Try.prog 60 #[.slice A n c] w0 fun v w' => ∃ (B : Option Addr) (k : Nat), v = .tuple #[.agg (FA (decF l) B k), .int .i64 (decE l)] ∧ St NoB w0 w' [.vec B k 5 1 (decF l).d.length ((decF l).d.map (Value.int .u8))] := by
 have hS := St.rd1 (S := NoB) hr
 refine c_enter (l := [.slice A n c, undef, undef, undef, undef, undef, undef, undef, undef, undef, undef, undef, undef, undef, undef, undef, undef, undef, undef, undef, undef, undef, undef, undef, undef, undef, undef, undef, undef, undef, undef, undef, undef, undef, undef, undef, undef, undef, undef, undef, undef, undef, undef, undef, undef, undef, undef, undef, undef, undef, undef, undef, undef, undef, undef, undef, undef, undef, undef, undef, undef, undef, undef, undef, undef, undef, undef]) Try.func60 rfl (by simp only [Try.ntmps60, List.size_toArray, List.length_cons, List.length_nil, Nat.reduceAdd, Nat.reduceSub, Array.replicate_succ, Array.replicate_zero, List.push_toArray, List.append_toArray, List.nil_append, List.cons_append]) ?_
 refine x_seq fun K1 hK1 => ?_
 refine x_region ?_
 refine m_alloc ti90 hS (fun w1 g1 hS => ?_)
 try simp only [opv, n1, n2, n3, n4, Value.cells, Array.toArray_toList] at hS ⊢
 obtain ⟨gr, hgr⟩ : ∃ z, z = g1 := ⟨_, rfl⟩
 rw [← hgr] at hS ⊢
 replace hS : St NoB w0 w1 (.obj gr (.cells #[.int .u8 0, .int .u8 0, .int .u8 0, .int .u32 0, .int .u32 0, .int .u8 0, .int .u32 0, .bool false, .slice none 0 0] 90 (0, 0)) :: _) := hS
 refine s_go (s_assign) ?_
 try simp only [opv, n1, n2, n3, n4, Value.cells]
 refine x_nil ?_
 refine hK1 _ _ ?_
 refine x_seq fun K2 hK2 => ?_
 refine x_region ?_
 refine s_go (s_move) ?_
 try simp only [opv, n1, n2, n3, n4, Value.cells]
 refine s_call en150 ?_
 try simp only [opv, n1, n2, n3, n4, Value.cells, List.map_toArray, List.map_cons, List.map_nil, List.append_toArray, List.cons_append, List.nil_append, Array.append_empty]
 refine CallR.mono (c_crcOpen _ A n c l (hS.hasRd (by repeat (first | exact Has.head | apply Has.tail))) hl hw (by omega) hc) ?_
 rintro _ w2 ⟨A1, m1, c1, rfl, hm1, hC2⟩
 replace hS := hS.call hC2
 simp only [List.cons_append, List.nil_append] at hS
 try simp only [opv, n1, n2, n3, n4, Value.cells]
 refine s_go (s_move) ?_
 try simp only [opv, n1, n2, n3, n4, Value.cells]
 refine s_go (s_extract (hv := rfl)) ?_
 try simp only [List.getElem_toArray, List.getElem_cons_zero, List.getElem_cons_succ]
 try simp only [opv, n1, n2, n3, n4, Value.cells]
 refine s_go (s_extract (hv := rfl)) ?_
 try simp only [List.getElem_toArray, List.getElem_cons_zero, List.getElem_cons_succ]
 try simp only [opv, n1, n2, n3, n4, Value.cells]
 refine s_go (s_assign) ?_
 try simp only [opv, n1, n2, n3, n4, Value.cells]
 refine s_go (s_assign) ?_
 try simp only [opv, n1, n2, n3, n4, Value.cells]
 refine x_nil ?_
 refine hK2 _ _ ?_
 refine x_seq fun K3 hK3 => ?_
 refine x_seq fun K4 hK4 => ?_
 refine x_region ?_
 refine s_go (s_move) ?_
 try simp only [opv, n1, n2, n3, n4, Value.cells]
 refine s_go (s_neq) ?_
 try simp only [opv, n1, n2, n3, n4, Value.cells]
 refine x_nil ?_
 refine hK4 _ _ ?_
 refine x_cond (ht := fun hc1 => ?_) (hf := fun hc1 => ?_)
 ·
  try simp only [decide_eq_true_eq, decide_eq_false_iff_not, Bool.not_eq_true', Bool.not_eq_false', Int.not_lt, Int.not_le, ne_eq, Decidable.not_not, bne_iff_ne, beq_iff_eq, not_true_eq_false, not_false_eq_true] at hc1
  have hO : ¬ openE l = 0 := hc1
  have hdE : decE l = openE l := if_neg hO
  have hdF : decF l = fm0 := if_neg hO
  refine x_seq fun K5 hK5 => ?_
  refine x_region ?_
  refine s_go (s_build_struct (cells := #[.int .u8 0, .int .u8 0, .int .u8 0, .int .u32 0, .int .u32 0, .int .u8 0, .int .u32 0, .bool false, .slice none 0 0]) Try.underlying90 ti90 bp90 (hc := by simp only [List.map_toArray, List.map_cons, List.map_nil, opv, n1, n2, n3, n4, Value.cells, List.toList_toArray]; (repeat (refine fill_cons rfl rfl (Nat.le_of_ble_eq_true rfl) ?_)); rfl)) ?_
  try simp only [opv, n1, n2, n3, n4, Value.cells]
  refine s_go (s_move) ?_
  try simp only [opv, n1, n2, n3, n4, Value.cells]
  refine m_store_obj ti90 (hS := hS) (h := fun w3 hS => ?_)
  try simp only [opv, n1, n2, n3, n4, Value.cells, Array.toArray_toList] at hS ⊢
  refine s_go (s_assign) ?_
  try simp only [opv, n1, n2, n3, n4, Value.cells]
  refine x_nil ?_
  refine hK5 _ _ ?_
  refine x_ret ?_
  refine r_cell_tmp_agg rfl Try.underlying90 ti90 (hS := hS) (hR := ?_)
  replace hS := hS.nil_vec 5 1
  exact ⟨none, 0, by rw [hdE, hdF]; rfl, by rw [hdF]; exact hS.sel (by repeat (first | exact Sel.nil | (refine Sel.cons (by repeat (exact Del.head)) ?_)))⟩
 ·
  try simp only [decide_eq_true_eq, decide_eq_false_iff_not, Bool.not_eq_true', Bool.not_eq_false', Int.not_lt, Int.not_le, ne_eq, Decidable.not_not, bne_iff_ne, beq_iff_eq, not_true_eq_false, not_false_eq_true] at hc1
  have hO : openE l = 0 := by simpa using hc1
  obtain ⟨d, hod⟩ : ∃ d, openD l = d := ⟨_, rfl⟩
  have hdb : Byt d := by rw [← hod]; exact openD_byt hw
  have hdl : d.length ≤ n := by rw [← hod, ← hl]; exact openD_le l
  have hB := frB hdb
  rw [hod] at hS hm1
  subst hm1
  have hE1 : decE l = frE d := by rw [decE, if_pos hO, hod]
  have hF1 : decF l = frF d := by rw [decF, if_pos hO, hod]
  refine x_skip ?_
  refine hK3 _ _ ?_
  refine x_seq fun K6 hK6 => ?_
  refine x_region ?_
  refine s_go (s_move) ?_
  try simp only [opv, n1, n2, n3, n4, Value.cells]
  refine s_call en31 ?_
  try simp only [opv, n1, n2, n3, n4, Value.cells, List.map_toArray, List.map_cons, List.map_nil, List.append_toArray, List.cons_append, List.nil_append, Array.append_empty]
  refine CallR.mono (c_cFrom _ A1 c1 d (hS.vecRd (by repeat (exact Has.head))) (by omega)) ?_
  rintro _ w4 ⟨q, Aq, cq, rfl, hcq, hC4⟩
  replace hS := hS.call hC4
  simp only [List.cons_append, List.nil_append] at hS
  replace hS := hS.vec_rd (by exact Upd.tail Upd.head)
  try simp only [opv, n1, n2, n3, n4, Value.cells]
  refine m_alloc ti48 hS (fun w5 g5 hS => ?_)
  try simp only [opv, n1, n2, n3, n4, Value.cells, Array.toArray_toList] at hS ⊢
  obtain ⟨gp, hgp⟩ : ∃ z, z = g5 := ⟨_, rfl⟩
  rw [← hgp] at hS ⊢
  refine m_store_obj ti48 (hS := hS) (h := fun w6 hS => ?_)
  try simp only [opv, n1, n2, n3, n4, Value.cells, Array.toArray_toList] at hS ⊢
  refine x_nil ?_
  refine hK6 _ _ ?_
  refine x_seq fun K7 hK7 => ?_
  refine x_region ?_
  refine s_go (m_load_obj Try.underlying48 (hS := hS)) ?_
  try simp only [opv, n1, n2, n3, n4, Value.cells, List.getElem_toArray, List.getElem_cons_zero, List.getElem_cons_succ]
  refine s_go (s_makeFunc) ?_
  try simp only [opv, n1, n2, n3, n4, Value.cells, List.map_toArray, List.map_cons, List.map_nil]
  refine s_go (s_assign) ?_
  try simp only [opv, n1, n2, n3, n4, Value.cells]
  refine x_nil ?_
  refine hK7 _ _ ?_
  refine x_seq fun K8 hK8 => ?_
  refine x_region ?_
  refine s_go (s_makeFunc) ?_
  try simp only [opv, n1, n2, n3, n4, Value.cells, List.map_toArray, List.map_cons, List.map_nil]
  refine s_go (s_assign) ?_
  try simp only [opv, n1, n2, n3, n4, Value.cells]
  refine x_nil ?_
  refine hK8 _ _ ?_
  refine x_seq fun K9 hK9 => ?_
  refine x_region ?_
  refine s_go (s_move) ?_
  try simp only [opv, n1, n2, n3, n4, Value.cells]
  refine s_callm (hv := rfl) en123 ?_
  try simp only [opv, n1, n2, n3, n4, Value.cells, List.map_toArray, List.map_cons, List.map_nil, List.append_toArray, List.cons_append, List.nil_append, Array.append_empty]
  refine CallR.mono (c_cByte _ q (0) Aq cq (d) hcq (hdb) (by omega)  (hS.owns (by repeat (first | exact Spl.nil | (apply Spl.cons (by repeat (first | exact Del.head | apply Del.tail))))))) ?_
  rintro _ w7 ⟨rfl, Ac1, cc1, hcp1, hR7, hC7⟩
  replace hS := hS.frame (by repeat (first | exact Spl.nil | (apply Spl.cons (by repeat (first | exact Del.head | apply Del.tail))))) hC7 (by intro r hr b hb; simp only [List.mem_cons, List.not_mem_nil, or_false] at hr; rcases hr with rfl | rfl <;> first | (simp [Res.reads] at hb; done) | exact hR7 b hb)
  simp only [List.cons_append, List.nil_append] at hS
  replace hcp1 : ((frSt d).s1.2).length ≤ cc1 := hcp1
  replace hS : St NoB w0 w7 (.obj q (.cells #[.int .i64 (frSt d).s1.1, .slice Ac1 ((frSt d).s1.2).length cc1] 162 (0, 0)) :: .rd Ac1 1 ((frSt d).s1.2).length (((frSt d).s1.2).map (Value.int .u8)) :: _) := hS
  try simp only [opv, n1, n2, n3, n4, Value.cells]
  rw [show (oneS 0 d).1 = valB (0, d) from rfl]
  refine s_go (s_move) ?_
  try simp only [opv, n1, n2, n3, n4, Value.cells]
  refine s_callm (hv := rfl) en123 ?_
  try simp only [opv, n1, n2, n3, n4, Value.cells, List.map_toArray, List.map_cons, List.map_nil, List.append_toArray, List.cons_append, List.nil_append, Array.append_empty]
  refine CallR.mono (c_cByte _ q ((frSt d).s1.1) Ac1 cc1 ((frSt d).s1.2) hcp1 (hB.b1) (by have := hB.l1; omega)  (hS.owns (by repeat (first | exact Spl.nil | (apply Spl.cons (by repeat (exact Del.head))))))) ?_
  rintro _ w8 ⟨rfl, Ac2, cc2, hcp2, hR8, hC8⟩
  replace hS := hS.frame (by repeat (first | exact Spl.nil | (apply Spl.cons (by repeat (exact Del.head))))) hC8 (by intro r hr b hb; simp only [List.mem_cons, List.not_mem_nil, or_false] at hr; rcases hr with rfl | rfl <;> first | (simp [Res.reads] at hb; done) | exact hR8 b hb)
  simp only [List.cons_append, List.nil_append] at hS
  replace hcp2 : ((frSt d).s2.2).length ≤ cc2 := hcp2
  replace hS : St NoB w0 w8 (.obj q (.cells #[.int .i64 (frSt d).s2.1, .slice Ac2 ((frSt d).s2.2).length cc2] 162 (0, 0)) :: .rd Ac2 1 ((frSt d).s2.2).length (((frSt d).s2.2).map (Value.int .u8)) :: _) := hS
  try simp only [opv, n1, n2, n3, n4, Value.cells]
  rw [show (oneS (frSt d).s1.1 (frSt d).s1.2).1 = valB (frSt d).s1 from rfl]
  refine s_go (s_move) ?_
  try simp only [opv, n1, n2, n3, n4, Value.cells]
  refine s_callm (hv := rfl) en123 ?_
  try simp only [opv, n1, n2, n3, n4, Value.cells, List.map_toArray, List.map_cons, List.map_nil, List.append_toArray, List.cons_append, List.nil_append, Array.append_empty]
  refine CallR.mono (c_cByte _ q ((frSt d).s2.1) Ac2 cc2 ((frSt d).s2.2) hcp2 (hB.b2) (by have := hB.l2; omega)  (hS.owns (by repeat (first | exact Spl.nil | (apply Spl.cons (by repeat (exact Del.head))))))) ?_
  rintro _ w9 ⟨rfl, Ac3, cc3, hcp3, hR9, hC9⟩
  replace hS := hS.frame (by repeat (first | exact Spl.nil | (apply Spl.cons (by repeat (exact Del.head))))) hC9 (by intro r hr b hb; simp only [List.mem_cons, List.not_mem_nil, or_false] at hr; rcases hr with rfl | rfl <;> first | (simp [Res.reads] at hb; done) | exact hR9 b hb)
  simp only [List.cons_append, List.nil_append] at hS
  replace hcp3 : ((frSt d).s3.2).length ≤ cc3 := hcp3
  replace hS : St NoB w0 w9 (.obj q (.cells #[.int .i64 (frSt d).s3.1, .slice Ac3 ((frSt d).s3.2).length cc3] 162 (0, 0)) :: .rd Ac3 1 ((frSt d).s3.2).length (((frSt d).s3.2).map (Value.int .u8)) :: _) := hS
  try simp only [opv, n1, n2, n3, n4, Value.cells]
  rw [show (oneS (frSt d).s2.1 (frSt d).s2.2).1 = valB (frSt d).s2 from rfl]
  refine s_go (s_build_struct (cells := #[_, _, _, .int .u32 0, .int .u32 0, .int .u8 0, .int .u32 0, .bool false, .slice none 0 0]) Try.underlying90 ti90 bp90 (hc := by simp only [List.map_toArray, List.map_cons, List.map_nil, opv, n1, n2, n3, n4, Value.cells, List.toList_toArray]; (repeat (refine fill_cons rfl rfl (Nat.le_of_ble_eq_true rfl) ?_)); rfl)) ?_
  try simp only [opv, n1, n2, n3, n4, Value.cells]
  refine m_alloc ti90 hS (fun w10 g10 hS => ?_)
  try simp only [opv, n1, n2, n3, n4, Value.cells, Array.toArray_toList] at hS ⊢
  obtain ⟨g9, hg9⟩ : ∃ z, z = g10 := ⟨_, rfl⟩
  rw [← hg9] at hS ⊢
  refine m_store_obj ti90 (hS := hS) (h := fun w11 hS => ?_)
  try simp only [opv, n1, n2, n3, n4, Value.cells, Array.toArray_toList] at hS ⊢
  refine x_nil ?_
  refine hK9 _ _ ?_
  refine x_seq fun K10 hK10 => ?_
  refine x_region ?_
  refine s_go (s_move) ?_
  try simp only [opv, n1, n2, n3, n4, Value.cells]
  refine s_callv (hv := rfl) en151 ?_
  try simp only [opv, n1, n2, n3, n4, Value.cells, List.map_toArray, List.map_cons, List.map_nil, List.append_toArray, List.cons_append, List.nil_append, Array.append_empty]
  refine CallR.mono (c_frNum _ q ((frSt d).s3.1) Ac3 cc3 ((frSt d).s3.2) hcp3 (hB.b3) (by have := hB.l3; omega) gp (hS.owns (by repeat (first | exact Spl.nil | (apply Spl.cons (by repeat (first | exact Del.head | apply Del.tail))))))) ?_
  rintro _ w12 ⟨rfl, Ac4, cc4, hcp4, hR12, hC12⟩
  replace hS := hS.frame (by repeat (first | exact Spl.nil | (apply Spl.cons (by repeat (first | exact Del.head | apply Del.tail))))) hC12 (by intro r hr b hb; simp only [List.mem_cons, List.not_mem_nil, or_false] at hr; rcases hr with rfl | rfl | rfl <;> first | (simp [Res.reads] at hb; done) | exact hR12 b hb)
  simp only [List.cons_append, List.nil_append] at hS
  replace hcp4 : ((frSt d).s4.2).length ≤ cc4 := hcp4
  replace hS : St NoB w0 w12 (.obj q (.cells #[.int .i64 (frSt d).s4.1, .slice Ac4 ((frSt d).s4.2).length cc4] 162 (0, 0)) :: .rd Ac4 1 ((frSt d).s4.2).length (((frSt d).s4.2).map (Value.int .u8)) :: _) := hS
  try simp only [opv, n1, n2, n3, n4, Value.cells]
  rw [show (numS 4294967295 (frSt d).s3.1 (frSt d).s3.2).1 = valN (frSt d).s3 from rfl]
  refine s_go (s_move) ?_
  try simp only [opv, n1, n2, n3, n4, Value.cells]
  refine s_callv (hv := rfl) en151 ?_
  try simp only [opv, n1, n2, n3, n4, Value.cells, List.map_toArray, List.map_cons, List.map_nil, List.append_toArray, List.cons_append, List.nil_append, Array.append_empty]
  refine CallR.mono (c_frNum _ q ((frSt d).s4.1) Ac4 cc4 ((frSt d).s4.2) hcp4 (hB.b4) (by have := hB.l4; omega) gp (hS.owns (by repeat (first | exact Spl.nil | (apply Spl.cons (by repeat (exact Del.head))))))) ?_
  rintro _ w13 ⟨rfl, Ac5, cc5, hcp5, hR13, hC13⟩
  replace hS := hS.frame (by repeat (first | exact Spl.nil | (apply Spl.cons (by repeat (exact Del.head))))) hC13 (by intro r hr b hb; simp only [List.mem_cons, List.not_mem_nil, or_false] at hr; rcases hr with rfl | rfl | rfl <;> first | (simp [Res.reads] at hb; done) | exact hR13 b hb)
  simp only [List.cons_append, List.nil_append] at hS
  replace hcp5 : ((frSt d).s5.2).length ≤ cc5 := hcp5
  replace hS : St NoB w0 w13 (.obj q (.cells #[.int .i64 (frSt d).s5.1, .slice Ac5 ((frSt d).s5.2).length cc5] 162 (0, 0)) :: .rd Ac5 1 ((frSt d).s5.2).length (((frSt d).s5.2).map (Value.int .u8)) :: _) := hS
  try simp only [opv, n1, n2, n3, n4, Value.cells]
  rw [show (numS 4294967295 (frSt d).s4.1 (frSt d).s4.2).1 = valN (frSt d).s4 from rfl]
  refine s_go (m_fieldAddr Try.underlying90 (hi := ti25)) ?_
  try simp only [opv, n1, n2, n3, n4, Value.cells, Nat.zero_add, Nat.add_zero, List.getElem_toArray, List.getElem_cons_zero, List.getElem_cons_succ]
  refine m_store_obj ti25 (hS := hS) (h := fun w14 hS => ?_)
  try simp only [opv, n1, n2, n3, n4, Value.cells, Array.toArray_toList] at hS ⊢
  refine s_go (m_fieldAddr Try.underlying90 (hi := ti25)) ?_
  try simp only [opv, n1, n2, n3, n4, Value.cells, Nat.zero_add, Nat.add_zero, List.getElem_toArray, List.getElem_cons_zero, List.getElem_cons_succ]
  refine m_store_obj ti25 (hS := hS) (h := fun w15 hS => ?_)
  try simp only [opv, n1, n2, n3, n4, Value.cells, Array.toArray_toList] at hS ⊢
  refine x_nil ?_
  refine hK10 _ _ ?_
  refine x_seq fun K11 hK11 => ?_
  refine x_region ?_
  refine s_go (s_move) ?_
  try simp only [opv, n1, n2, n3, n4, Value.cells]
  refine s_callm (hv := rfl) en123 ?_
  try simp only [opv, n1, n2, n3, n4, Value.cells, List.map_toArray, List.map_cons, List.map_nil, List.append_toArray, List.cons_append, List.nil_append, Array.append_empty]
  refine CallR.mono (c_cByte _ q ((frSt d).s5.1) Ac5 cc5 ((frSt d).s5.2) hcp5 (hB.b5) (by have := hB.l5; omega)  (hS.owns (by repeat (first | exact Spl.nil | (apply Spl.cons (by repeat (exact Del.head))))))) ?_
  rintro _ w16 ⟨rfl, Ac6, cc6, hcp6, hR16, hC16⟩
  replace hS := hS.frame (by repeat (first | exact Spl.nil | (apply Spl.cons (by repeat (exact Del.head))))) hC16 (by intro r hr b hb; simp only [List.mem_cons, List.not_mem_nil, or_false] at hr; rcases hr with rfl | rfl <;> first | (simp [Res.reads] at hb; done) | exact hR16 b hb)
  simp only [List.cons_append, List.nil_append] at hS
  replace hcp6 : ((frSt d).s6.2).length ≤ cc6 := hcp6
  replace hS : St NoB w0 w16 (.obj q (.cells #[.int .i64 (frSt d).s6.1, .slice Ac6 ((frSt d).s6.2).length cc6] 162 (0, 0)) :: .rd Ac6 1 ((frSt d).s6.2).length (((frSt d).s6.2).map (Value.int .u8)) :: _) := hS
  try simp only [opv, n1, n2, n3, n4, Value.cells]
  rw [show (oneS (frSt d).s5.1 (frSt d).s5.2).1 = valB (frSt d).s5 from rfl]
  refine s_go (s_move) ?_
  try simp only [opv, n1, n2, n3, n4, Value.cells]
  refine s_callv (hv := rfl) en151 ?_
  try simp only [opv, n1, n2, n3, n4, Value.cells, List.map_toArray, List.map_cons, List.map_nil, List.append_toArray, List.cons_append, List.nil_append, Array.append_empty]
  refine CallR.mono (c_frNum _ q ((frSt d).s6.1) Ac6 cc6 ((frSt d).s6.2) hcp6 (hB.b6) (by have := hB.l6; omega) gp (hS.owns (by repeat (first | exact Spl.nil | (apply Spl.cons (by repeat (exact Del.head))))))) ?_
  rintro _ w17 ⟨rfl, Ac7, cc7, hcp7, hR17, hC17⟩
  replace hS := hS.frame (by repeat (first | exact Spl.nil | (apply Spl.cons (by repeat (exact Del.head))))) hC17 (by intro r hr b hb; simp only [List.mem_cons, List.not_mem_nil, or_false] at hr; rcases hr with rfl | rfl | rfl <;> first | (simp [Res.reads] at hb; done) | exact hR17 b hb)
  simp only [List.cons_append, List.nil_append] at hS
  replace hcp7 : ((frSt d).s7.2).length ≤ cc7 := hcp7
  replace hS : St NoB w0 w17 (.obj q (.cells #[.int .i64 (frSt d).s7.1, .slice Ac7 ((frSt d).s7.2).length cc7] 162 (0, 0)) :: .rd Ac7 1 ((frSt d).s7.2).length (((frSt d).s7.2).map (Value.int .u8)) :: _) := hS
  try simp only [opv, n1, n2, n3, n4, Value.cells]
  rw [show (numS 4294967295 (frSt d).s6.1 (frSt d).s6.2).1 = valN (frSt d).s6 from rfl]
  refine s_go (m_fieldAddr Try.underlying90 (hi := ti5)) ?_
  try simp only [opv, n1, n2, n3, n4, Value.cells, Nat.zero_add, Nat.add_zero, List.getElem_toArray, List.getElem_cons_zero, List.getElem_cons_succ]
  refine m_store_obj ti5 (hS := hS) (h := fun w18 hS => ?_)
  try simp only [opv, n1, n2, n3, n4, Value.cells, Array.toArray_toList] at hS ⊢
  refine s_go (m_fieldAddr Try.underlying90 (hi := ti25)) ?_
  try simp only [opv, n1, n2, n3, n4, Value.cells, Nat.zero_add, Nat.add_zero, List.getElem_toArray, List.getElem_cons_zero, List.getElem_cons_succ]
  refine m_store_obj ti25 (hS := hS) (h := fun w19 hS => ?_)
  try simp only [opv, n1, n2, n3, n4, Value.cells, Array.toArray_toList] at hS ⊢
  refine x_nil ?_
  refine hK11 _ _ ?_
  refine x_seq fun K12 hK12 => ?_
  refine x_region ?_
  refine s_go (s_move) ?_
  try simp only [opv, n1, n2, n3, n4, Value.cells]
  refine s_callm (hv := rfl) en123 ?_
  try simp only [opv, n1, n2, n3, n4, Value.cells, List.map_toArray, List.map_cons, List.map_nil, List.append_toArray, List.cons_append, List.nil_append, Array.append_empty]
  refine CallR.mono (c_cByte _ q ((frSt d).s7.1) Ac7 cc7 ((frSt d).s7.2) hcp7 (hB.b7) (by have := hB.l7; omega)  (hS.owns (by repeat (first | exact Spl.nil | (apply Spl.cons (by repeat (exact Del.head))))))) ?_
  rintro _ w20 ⟨rfl, Ac8, cc8, hcp8, hR20, hC20⟩
  replace hS := hS.frame (by repeat (first | exact Spl.nil | (apply Spl.cons (by repeat (exact Del.head))))) hC20 (by intro r hr b hb; simp only [List.mem_cons, List.not_mem_nil, or_false] at hr; rcases hr with rfl | rfl <;> first | (simp [Res.reads] at hb; done) | exact hR20 b hb)
  simp only [List.cons_append, List.nil_append] at hS
  replace hcp8 : ((frSt d).s8.2).length ≤ cc8 := hcp8
  replace hS : St NoB w0 w20 (.obj q (.cells #[.int .i64 (frSt d).s8.1, .slice Ac8 ((frSt d).s8.2).length cc8] 162 (0, 0)) :: .rd Ac8 1 ((frSt d).s8.2).length (((frSt d).s8.2).map (Value.int .u8)) :: _) := hS
  try simp only [opv, n1, n2, n3, n4, Value.cells]
  rw [show (oneS (frSt d).s7.1 (frSt d).s7.2).1 = valB (frSt d).s7 from rfl]
  refine m_alloc ti5 hS (fun w21 g21 hS => ?_)
  try simp only [opv, n1, n2, n3, n4, Value.cells, Array.toArray_toList] at hS ⊢
  obtain ⟨g10, hg10⟩ : ∃ z, z = g21 := ⟨_, rfl⟩
  rw [← hg10] at hS ⊢
  refine m_store_obj ti5 (hS := hS) (h := fun w22 hS => ?_)
  try simp only [opv, n1, n2, n3, n4, Value.cells, Array.toArray_toList] at hS ⊢
  refine x_nil ?_
  refine hK12 _ _ ?_
  refine x_seq fun K13 hK13 => ?_
  refine x_mixed_c (Lc := [.obj g10 (.cells #[.int .u8 (valB (frSt d).s7)] 5 (0, 0)), .obj gp (.cells #[.pointer (some ⟨q, 0, none⟩)] 48 (0, 0))]) [] 0 [46, 47, 48, 49, 50, 51, 52] (fun f w => ∃ (Ac9 : Option Addr) (cc9 : Nat) (B9 : Option Addr) (k9 : Nat), (frSt d).s9.2.length ≤ cc9 ∧ St NoB w0 w [.obj q (.cells #[.int .i64 (frSt d).s9.1, .slice Ac9 ((frSt d).s9.2).length cc9] 162 (0, 0)), .obj g9 (.cells (FA (frRaw d) B9 k9) 90 (0, 0)), .vec B9 k9 5 1 (frRaw d).d.length ((frRaw d).d.map (Value.int .u8)), .obj g10 (.cells #[.int .u8 (valB (frSt d).s7)] 5 (0, 0)), .obj gp (.cells #[.pointer (some ⟨q, 0, none⟩)] 48 (0, 0)), .obj gr (.cells #[.int .u8 0, .int .u8 0, .int .u8 0, .int .u32 0, .int .u32 0, .int .u8 0, .int .u32 0, .bool false, .slice none 0 0] 90 (0, 0))]) (by kernel_rfl) (by kernel_rfl) (by kernel_rfl) (by decide) hS (fun w23 hS => ?mixpre1101) ?mixrest1101
  case mixpre1101 =>
   refine p_nil ?_
   simp only [List.length_cons, List.length_nil, Nat.reduceAdd, Nat.reduceSub]
   refine any_go (i := 0) (by rfl) (by decide +kernel) (by decide +kernel) noLate_nil (go_yields w_none (fun w hS => m_load_obj Try.underlying5 (hS := hS))) ?_
   try simp only [opv, n1, n2, n3, n4, Value.cells, List.getElem_toArray, List.getElem_cons_zero, List.getElem_cons_succ]
   apply any_go (i := 1) (by rfl) (by decide +kernel) (by decide +kernel) noLate_nil (call_yields w_none en152 ?H1) ?K1
   case H1 =>
     intro w hS
     try simp only [opv, n1, n2, n3, n4, List.map_toArray, List.map_cons, List.map_nil, List.append_toArray, List.cons_append, List.nil_append, Array.append_empty]
     refine CallR.mono (c_frTruth _ _) ?_
     rintro _ w1 ⟨rfl, hE⟩; exact ⟨rfl, hE⟩
   try simp only [opv, n1, n2, n3, n4, Value.cells]
   rw [show boolN true = 1 from rfl]
   refine any_go (i := 2) (by rfl) (by decide +kernel) (by decide +kernel) noLate_nil (go_yields w_none (fun w hS => s_eql)) ?_
   try simp only [opv, n1, n2, n3, n4, Value.cells]
   refine any_go (i := 3) (by rfl) (by decide +kernel) (by decide +kernel) noLate_nil (go_yields w_none (fun w hS => m_load_obj Try.underlying48 (hS := hS))) ?_
   try simp only [opv, n1, n2, n3, n4, Value.cells, List.getElem_toArray, List.getElem_cons_zero, List.getElem_cons_succ]
   refine any_go (i := 5) (by rfl) (by decide +kernel) (by decide +kernel) noLate_nil (go_yields w_none (fun w hS => m_fieldAddr Try.underlying90 (hi := ti4))) ?_
   try simp only [opv, n1, n2, n3, n4, Value.cells, Nat.zero_add, Nat.add_zero, List.getElem_toArray, List.getElem_cons_zero, List.getElem_cons_succ]
   refine any_step [4] (by kernel_rfl) (by decide) (fun w24 hE => ⟨fun _ => (hS.ext hE).sel (by repeat (first | exact Sel.nil | (refine Sel.cons (by repeat (first | exact Del.head | apply Del.tail)) ?_))), ?_⟩)
   replace hS := hS.ext hE
   intro i hi
   simp only [List.mem_cons, List.not_mem_nil, or_false] at hi
   subst hi
   ·
    refine any_op (by rfl) ?_
    refine s_call en125 ?_
    try simp only [opv, n1, n2, n3, n4, Value.cells, List.map_toArray, List.map_cons, List.map_nil, List.append_toArray, List.cons_append, List.nil_append, Array.append_empty]
    refine CallR.mono (c_cBytes _ q ((frSt d).s8.1) Ac8 cc8 ((frSt d).s8.2) hcp8 (hB.b8) (by have := hB.l8; omega) 65536 (by omega) (hS.owns (by repeat (first | exact Spl.nil | (apply Spl.cons (by repeat (first | exact Del.head | apply Del.tail))))))) ?_
    rintro _ w25 ⟨B9, k9, rfl, Ac9, cc9, hcp9, hR25, hC25⟩
    replace hS := hS.frame (by repeat (first | exact Spl.nil | (apply Spl.cons (by repeat (first | exact Del.head | apply Del.tail))))) hC25 (by intro r hr b hb; simp only [List.mem_cons, List.not_mem_nil, or_false] at hr; rcases hr with rfl | rfl | rfl <;> first | (simp [Res.reads] at hb; done) | exact hR25 b hb)
    simp only [List.cons_append, List.nil_append] at hS
    replace hcp9 : ((frSt d).s9.2).length ≤ cc9 := hcp9
    replace hS : St NoB w0 w25 (.obj q (.cells #[.int .i64 (frSt d).s9.1, .slice Ac9 ((frSt d).s9.2).length cc9] 162 (0, 0)) :: .rd Ac9 1 ((frSt d).s9.2).length (((frSt d).s9.2).map (Value.int .u8)) :: _) := hS
    try simp only [opv, n1, n2, n3, n4, Value.cells]
    refine x_nil ?_
    refine any_step [6] (by kernel_rfl) (by decide) (fun w26 hE => ⟨fun _ => (hS.ext hE).sel (by repeat (first | exact Sel.nil | (refine Sel.cons (by repeat (first | exact Del.head | apply Del.tail)) ?_))), ?_⟩)
    replace hS := hS.ext hE
    intro i hi
    simp only [List.mem_cons, List.not_mem_nil, or_false] at hi
    subst hi
    ·
     refine any_op (by rfl) ?_
     refine m_store_obj ti4 (hS := hS) (h := fun w27 hS => ?_)
     try simp only [opv, n1, n2, n3, n4, Value.cells, Array.toArray_toList] at hS ⊢
     refine x_nil ?_
     refine any_go (i := 7) (by rfl) (by decide +kernel) (by decide +kernel) noLate_nil (go_yields w_none (fun w hS => m_fieldAddr Try.underlying90 (hi := ti43))) ?_
     try simp only [opv, n1, n2, n3, n4, Value.cells, Nat.zero_add, Nat.add_zero, List.getElem_toArray, List.getElem_cons_zero, List.getElem_cons_succ]
     refine any_step [8] (by kernel_rfl) (by decide) (fun w28 hE => ⟨fun _ => (hS.ext hE).sel (by repeat (first | exact Sel.nil | (refine Sel.cons (by repeat (first | exact Del.head | apply Del.tail)) ?_))), ?_⟩)
     replace hS := hS.ext hE
     intro i hi
     simp only [List.mem_cons, List.not_mem_nil, or_false] at hi
     subst hi
     ·
      refine any_op (by rfl) ?_
      refine m_store_obj ti43 (hS := hS) (h := fun w29 hS => ?_)
      try simp only [opv, n1, n2, n3, n4, Value.cells, Array.toArray_toList] at hS ⊢
      refine x_nil ?_
      refine any_nil (by kernel_rfl) (fun w30 hE => ?_)
      replace hS := hS.ext hE
      refine ⟨fun _ => hS.sel (by repeat (first | exact Sel.nil | (refine Sel.cons (by repeat (first | exact Del.head | apply Del.tail)) ?_))), ?_⟩
      refine mix_leaf (by simp only [clob, List.foldl, n1, n2, n3, n4]) ?_
      try simp only [n1, n2]
      replace hS : St NoB w0 w30 [.obj q (.cells #[.int .i64 (frSt d).s9.1, .slice Ac9 ((frSt d).s9.2).length cc9] 162 (0, 0)), .obj g9 (.cells #[.int .u8 (valB (0, d)), .int .u8 (valB (frSt d).s1), .int .u8 (valB (frSt d).s2), .int .u32 (valN (frSt d).s3 : Int), .int .u32 (valN (frSt d).s4 : Int), .int .u8 (valB (frSt d).s5), .int .u32 (valN (frSt d).s6 : Int), .bool (decide (valB (frSt d).s7 = 1)), .slice B9 (bytS 65536 (frSt d).s8.1 (frSt d).s8.2).1.length k9] 90 (0, 0)), .vec B9 k9 5 1 (frRaw d).d.length ((frRaw d).d.map (Value.int .u8)), .obj g10 (.cells #[.int .u8 (valB (frSt d).s7)] 5 (0, 0)), .obj gp (.cells #[.pointer (some ⟨q, 0, none⟩)] 48 (0, 0)), .obj gr (.cells #[.int .u8 0, .int .u8 0, .int .u8 0, .int .u32 0, .int .u32 0, .int .u8 0, .int .u32 0, .bool false, .slice none 0 0] 90 (0, 0))] := hS.sel (by repeat (first | exact Sel.nil | (refine Sel.cons (by repeat (first | exact Del.head | apply Del.tail)) ?_)))
      rw [fr_cells hdb] at hS
      exact ⟨_, _, _, _, hcp9, hS⟩
  intro fm1 w31 hM
  obtain ⟨Ac9, cc9, B9, k9, hcp9, hS⟩ := hM
  simp only [clob, List.foldl, n3, n4]
  refine hK13 _ _ ?_
  refine x_seq fun K14 hK14 => ?_
  refine x_mixed_c (Lc := [.obj gp (.cells #[.pointer (some ⟨q, 0, none⟩)] 48 (0, 0))]) [] 0 [5, 53, 54, 55, 56, 57, 58, 59, 60, 61] (fun f w => f 5 = .int .i64 (frE d) ∧ St NoB w0 w [.obj g9 (.cells (FA (frRaw d) B9 k9) 90 (0, 0)), .vec B9 k9 5 1 (frRaw d).d.length ((frRaw d).d.map (Value.int .u8)), .obj gr (.cells #[.int .u8 0, .int .u8 0, .int .u8 0, .int .u32 0, .int .u32 0, .int .u8 0, .int .u32 0, .bool false, .slice none 0 0] 90 (0, 0))]) (by kernel_rfl) (by kernel_rfl) (by kernel_rfl) (by decide) hS (fun w32 hS => ?mixpre1202) ?mixrest1202
  case mixpre1202 =>
   refine p_nil ?_
   simp only [List.length_cons, List.length_nil, Nat.reduceAdd, Nat.reduceSub]
   refine any_go (i := 0) (by rfl) (by decide +kernel) (by decide +kernel) noLate_nil (go_yields w_none (fun w hS => m_load_obj Try.underlying48 (hS := hS))) ?_
   try simp only [opv, n1, n2, n3, n4, Value.cells, List.getElem_toArray, List.getElem_cons_zero, List.getElem_cons_succ]
   refine any_go (i := 1) (by rfl) (by decide +kernel) (by decide +kernel) noLate_nil (go_yields w_none (fun w hS => s_makeFunc)) ?_
   try simp only [opv, n1, n2, n3, n4, Value.cells, List.map_toArray, List.map_cons, List.map_nil]
   refine any_go (i := 2) (by rfl) (by decide +kernel) (by decide +kernel) noLate_nil (go_yields w_none (fun w hS => s_makeFunc)) ?_
   try simp only [opv, n1, n2, n3, n4, Value.cells, List.map_toArray, List.map_cons, List.map_nil]
   refine any_go (i := 4) (by rfl) (by decide +kernel) (by decide +kernel) noLate_nil (go_yields w_none (fun w hS => m_load_obj Try.underlying48 (hS := hS))) ?_
   try simp only [opv, n1, n2, n3, n4, Value.cells, List.getElem_toArray, List.getElem_cons_zero, List.getElem_cons_succ]
   refine any_go (i := 5) (by rfl) (by decide +kernel) (by decide +kernel) noLate_nil (go_yields w_none (fun w hS => s_makeFunc)) ?_
   try simp only [opv, n1, n2, n3, n4, Value.cells, List.map_toArray, List.map_cons, List.map_nil]
   refine any_go (i := 6) (by rfl) (by decide +kernel) (by decide +kernel) noLate_nil (go_yields w_none (fun w hS => s_makeFunc)) ?_
   try simp only [opv, n1, n2, n3, n4, Value.cells, List.map_toArray, List.map_cons, List.map_nil]
   refine any_step [3] (by kernel_rfl) (by decide) (fun w33 hE => ⟨fun _ => (hS.ext hE).sel (by repeat (first | exact Sel.nil | (refine Sel.cons (by repeat (first | exact Del.head | apply Del.tail)) ?_))), ?_⟩)
   replace hS := hS.ext hE
   intro i hi
   simp only [List.mem_cons, List.not_mem_nil, or_false] at hi
   subst hi
   ·
    refine any_op (by rfl) ?_
    refine s_call en154 ?_
    try simp only [opv, n1, n2, n3, n4, Value.cells, List.map_toArray, List.map_cons, List.map_nil, List.append_toArray, List.cons_append, List.nil_append, Array.append_empty]
    refine CallR.mono (c_frUnless _ _ _ _) ?_
    rintro _ w34 ⟨a1, b1, rfl, hC34⟩
    replace hS := hS.call hC34
    simp only [List.cons_append, List.nil_append] at hS
    try simp only [opv, n1, n2, n3, n4, Value.cells]
    refine x_nil ?_
    refine any_step [7] (by kernel_rfl) (by decide) (fun w35 hE => ⟨fun _ => (hS.ext hE).sel (by repeat (first | exact Sel.nil | (refine Sel.cons (by repeat (first | exact Del.head | apply Del.tail)) ?_))), ?_⟩)
    replace hS := hS.ext hE
    intro i hi
    simp only [List.mem_cons, List.not_mem_nil, or_false] at hi
    subst hi
    ·
     refine any_op (by rfl) ?_
     refine m_buildRow (cells := #[_, _, _, _]) Try.underlying247 ti54 (hc := by simp only [List.map_toArray, List.map_cons, List.map_nil, opv, n1, n2, n3, n4, Value.cells, List.toList_toArray]; (repeat (refine fill_cons rfl rfl (Nat.le_of_ble_eq_true rfl) ?_)); rfl) (hS := hS) (h := fun w36 g36 hS => ?_)
     try simp only [opv, n1, n2, n3, n4, Value.cells, Array.toArray_toList] at hS ⊢
     replace hS := hS.obj_rd (sz := 1) (n := 4) rfl .head
     refine x_nil ?_
     refine any_step [8] (by kernel_rfl) (by decide) (fun w37 hE => ⟨fun _ => (hS.ext hE).sel (by repeat (first | exact Sel.nil | (refine Sel.cons (by repeat (first | exact Del.head | apply Del.tail)) ?_))), ?_⟩)
     replace hS := hS.ext hE
     intro i hi
     simp only [List.mem_cons, List.not_mem_nil, or_false] at hi
     subst hi
     ·
      refine any_op (by rfl) ?_
      refine s_call en153 ?_
      try simp only [opv, n1, n2, n3, n4, Value.cells, List.map_toArray, List.map_cons, List.map_nil, List.append_toArray, List.cons_append, List.nil_append, Array.append_empty]
      refine CallR.mono (c_frFirst _ _ 4 _ [⟨35, #[.pointer (some ⟨q, 0, none⟩)], #[], (frSt d).s9.1⟩, ⟨230, #[], #[.pointer (some ⟨a1, 0, none⟩), .pointer (some ⟨b1, 0, none⟩)], if decide (valB (frSt d).s7 ≤ 1) = true then 0 else 3⟩, ⟨37, #[.pointer (some ⟨q, 0, none⟩)], #[], if 0 < (frSt d).s9.2.length then 3 else (frSt d).s9.1⟩, ⟨156, #[], #[.pointer (some ⟨g9, 0, none⟩)], checkF (frRaw d)⟩] (hS.hasRd (by repeat (exact Has.head))) rfl (by decide) (by intro x hx; simp only [List.mem_cons, List.not_mem_nil, or_false] at hx; rcases hx with rfl | rfl | rfl | rfl <;> first | exact en35 | exact en230 | exact en37 | exact en156) (by intro x hx; simp only [List.mem_cons, List.not_mem_nil, or_false] at hx; rcases hx with rfl | rfl | rfl | rfl <;> first | exact fun w hE => c_cErrR w q _ _ _ _ ((hS.objRd (g := q) (cs := #[.int .i64 (frSt d).s9.1, .slice Ac9 (frSt d).s9.2.length cc9]) (by repeat (first | exact Has.head | apply Has.tail))).ext' hE) | exact cl_unless en155 (hS.objRd (g := a1) (cs := #[.func (.func 155) #[] #[.pointer (some ⟨g10, 0, none⟩)]]) (by repeat (first | exact Has.head | apply Has.tail))) (hS.objRd (g := b1) (cs := #[.int .i64 3]) (by repeat (first | exact Has.head | apply Has.tail))) (fun w hE => c_frDec2 _ g10 _ ((hS.objRd (g := g10) (cs := #[.int .u8 (valB (frSt d).s7)]) (by repeat (first | exact Has.head | apply Has.tail))).ext' hE)) | exact fun w hE => c_cDoneR w q _ _ _ _ ((hS.objRd (g := q) (cs := #[.int .i64 (frSt d).s9.1, .slice Ac9 (frSt d).s9.2.length cc9]) (by repeat (first | exact Has.head | apply Has.tail))).ext' hE) | exact fun w hE => c_frDec3 w g9 _ _ _ ((hS.objRd (g := g9) (cs := FA (frRaw d) B9 k9) (by repeat (first | exact Has.head | apply Has.tail))).ext' hE))) ?_
      rintro _ w38 ⟨rfl, hE38⟩
      replace hS := hS.ext hE38
      try simp only [opv, n1, n2, n3, n4, Value.cells]
      refine x_nil ?_
      refine any_go (i := 9) (by rfl) (by decide +kernel) (by decide +kernel) noLate_nil (go_yields w_none (fun w hS => s_assign)) ?_
      try simp only [opv, n1, n2, n3, n4, Value.cells]
      refine any_nil (by kernel_rfl) (fun w39 hE => ?_)
      replace hS := hS.ext hE
      refine ⟨fun _ => hS.sel (by repeat (first | exact Sel.nil | (refine Sel.cons (by repeat (first | exact Del.head | apply Del.tail)) ?_))), ?_⟩
      refine mix_leaf (by simp only [clob, List.foldl, n1, n2, n3, n4]) ?_
      try simp only [n1, n2]
      exact ⟨congrArg (Value.int .i64) (fr_first d), hS.sel (by repeat (first | exact Sel.nil | (refine Sel.cons (by repeat (first | exact Del.head | apply Del.tail)) ?_)))⟩
  intro fm2 w40 hM
  obtain ⟨h5, hS⟩ := hM
  simp only [clob, List.foldl, n3, n4, h5]
  refine hK14 _ _ ?_
  refine x_seq fun K15 hK15 => ?_
  refine x_seq fun K16 hK16 => ?_
  refine x_region ?_
  refine s_go (s_move) ?_
  try simp only [opv, n1, n2, n3, n4, Value.cells]
  refine s_go (s_neq) ?_
  try simp only [opv, n1, n2, n3, n4, Value.cells]
  refine x_nil ?_
  refine hK16 _ _ ?_
  refine x_cond (ht := fun hc2 => ?_) (hf := fun hc2 => ?_)
  ·
   try simp only [decide_eq_true_eq, decide_eq_false_iff_not, Bool.not_eq_true', Bool.not_eq_false', Int.not_lt, Int.not_le, ne_eq, Decidable.not_not, bne_iff_ne, beq_iff_eq, not_true_eq_false, not_false_eq_true] at hc2
   have hfe : ¬ frE d = 0 := hc2
   have hdE := hE1
   have hdF : decF l = fm0 := by rw [hF1, frF, if_neg hfe]
   refine x_seq fun K17 hK17 => ?_
   refine x_region ?_
   refine s_go (s_build_struct (cells := #[.int .u8 0, .int .u8 0, .int .u8 0, .int .u32 0, .int .u32 0, .int .u8 0, .int .u32 0, .bool false, .slice none 0 0]) Try.underlying90 ti90 bp90 (hc := by simp only [List.map_toArray, List.map_cons, List.map_nil, opv, n1, n2, n3, n4, Value.cells, List.toList_toArray]; (repeat (refine fill_cons rfl rfl (Nat.le_of_ble_eq_true rfl) ?_)); rfl)) ?_
   try simp only [opv, n1, n2, n3, n4, Value.cells]
   refine s_go (s_move) ?_
   try simp only [opv, n1, n2, n3, n4, Value.cells]
   refine m_store_obj ti90 (hS := hS) (h := fun w41 hS => ?_)
   try simp only [opv, n1, n2, n3, n4, Value.cells, Array.toArray_toList] at hS ⊢
   refine s_go (s_assign) ?_
   try simp only [opv, n1, n2, n3, n4, Value.cells]
   refine x_nil ?_
   refine hK17 _ _ ?_
   refine x_ret ?_
   refine r_cell_tmp_agg rfl Try.underlying90 ti90 (hS := hS) (hR := ?_)
   replace hS := hS.nil_vec 5 1
   exact ⟨none, 0, by rw [hdE, hdF]; rfl, by rw [hdF]; exact hS.sel (by repeat (first | exact Sel.nil | (refine Sel.cons (by repeat (exact Del.head)) ?_)))⟩
  ·
   try simp only [decide_eq_true_eq, decide_eq_false_iff_not, Bool.not_eq_true', Bool.not_eq_false', Int.not_lt, Int.not_le, ne_eq, Decidable.not_not, bne_iff_ne, beq_iff_eq, not_true_eq_false, not_false_eq_true] at hc2
   have hfe : frE d = 0 := hc2
   have hdF : decF l = frRaw d := by rw [hF1, frF, if_pos hfe]
   have hdE : decE l = 0 := hE1.trans hfe
   refine x_skip ?_
   refine hK15 _ _ ?_
   refine x_seq fun K18 hK18 => ?_
   refine x_region ?_
   refine s_go (m_load_row Try.underlying90 (hi := ti90) (hS := hS)) ?_
   try simp only [opv, n1, n2, n3, n4, Value.cells, List.getElem_toArray, List.getElem_cons_zero, List.getElem_cons_succ]
   refine m_store_obj ti90 (hS := hS) (h1 := by simp [opv, Value.cells, FA, fmL, Value.oneCell']) (hc := by exact splice_whole rfl) (h := fun w42 hS => ?_)
   try simp only [opv, n1, n2, n3, n4, Value.cells, Array.toArray_toList] at hS ⊢
   refine s_go (s_assign) ?_
   try simp only [opv, n1, n2, n3, n4, Value.cells]
   refine x_nil ?_
   refine hK18 _ _ ?_
   refine x_ret ?_
   refine r_cell_tmp_agg rfl Try.underlying90 ti90 (hS := hS) (hR := ?_)
   exact ⟨B9, k9, by rw [hdE, hdF]; rfl, by rw [hdF]; exact hS.sel (by repeat (first | exact Sel.nil | (refine Sel.cons (by repeat (first | exact Del.head | apply Del.tail)) ?_)))⟩
end Go.Proofs.Ytpjpaipkkcengaa
set_option linter.unusedSimpArgs false
set_option linter.unusedVariables false
set_option maxHeartbeats 2000000
set_option maxRecDepth 100000
namespace Go.Proofs.Ytpjpaipkkcengaa
open Go.RowKit

theorem dec_enc {f : Fm} (hf : FmOk f) (h : checkF f = 0) : decE (encF f) = 0 ∧ decF (encF f) = f := by
  obtain ⟨h1, h2⟩ := fr_back hf h
  obtain ⟨h3, h4⟩ := open_sealed (fmBody_byt hf)
  rw [encF_yes h]
  exact ⟨by rw [decE, if_pos h3, h4, h1], by rw [decF, if_pos h3, h4, h2]⟩
theorem encF_len {f : Fm} (hf : FmOk f) (h : f.d.length ≤ 100000) : (encF f).length ≤ f.d.length + 26 := by
  have h1 := fmBody_len hf (by omega)
  have h2 := sealed_len (fmBody f)
  unfold encF; split
  · omega
  · simp
theorem encF_byt {f : Fm} (hf : FmOk f) : Byt (encF f) := by
  unfold encF; split
  · exact sealed_byt (fmBody_byt hf)
  · intro y hy; cases hy
theorem zero_row : ∃ zs : List Int, (madeCells #[Value.int .u8 0] (65537 * 1)).toList = zs.map (Value.int .u8) ∧ zs.length = 65537 ∧ Byt zs :=
  ⟨List.replicate 65537 0, made_int .u8 65537, List.length_replicate, fun x hx => by rw [List.eq_of_mem_replicate hx]; decide⟩
theorem chk_big {f : Fm} {zs : List Int} (h : checkF f = 0) (hz : 65536 < zs.length) : checkF { f with d := zs } = 15 := by
  unfold checkF at h ⊢
  split at h
  · cases h
  · next h1 =>
    split at h
    · cases h
    · next h2 =>
      rw [if_neg h1, if_neg h2, if_pos hz]
def f1m : Fm := ⟨1, 0, 1, 0, 0, 0, 0, false, [120]⟩
theorem f1_ok : FmOk f1m := ⟨by decide, by decide, by decide, by decide, by decide, by decide, by decide, by unfold Byt; decide⟩
theorem f1_chk : checkF f1m = 0 := by decide
theorem fm_open {w : World} {cs : List Value} (h : AllOk w fmKs cs) : ∃ f A cp, cs = fmL f A cp ∧ FmOk f ∧ Rd w A 1 f.d.length (f.d.map (Value.int .u8)) ∧ f.d.length ≤ cp := by
  obtain ⟨_, _, rfl, ⟨k, rfl, hk⟩, h_1⟩ := h.inv
  obtain ⟨_, _, rfl, ⟨a, rfl, ha⟩, h_2⟩ := h_1.inv
  obtain ⟨_, _, rfl, ⟨b, rfl, hb⟩, h_3⟩ := h_2.inv
  obtain ⟨_, _, rfl, ⟨s, rfl, hs⟩, h_4⟩ := h_3.inv
  obtain ⟨_, _, rfl, ⟨q, rfl, hq⟩, h_5⟩ := h_4.inv
  obtain ⟨_, _, rfl, ⟨p, rfl, hp⟩, h_6⟩ := h_5.inv
  obtain ⟨_, _, rfl, ⟨o, rfl, ho⟩, h_7⟩ := h_6.inv
  obtain ⟨_, _, rfl, ⟨t, rfl⟩, h_8⟩ := h_7.inv
  obtain ⟨_, _, rfl, hd, h_9⟩ := h_8.inv
  obtain rfl := h_9.nil_inv
  obtain ⟨A, m, cap, l, rfl, hmc, hcm, hr, rfl, hw⟩ := sl_ints hd
  have k1 := wf_u8 hk
  have a1 := wf_u8 ha
  have b1 := wf_u8 hb
  have s1 := wf_u32 hs
  have q1 := wf_u32 hq
  have p1 := wf_u8 hp
  have o1 := wf_u32 ho
  refine ⟨⟨k.toNat, a.toNat, b.toNat, s.toNat, q.toNat, p.toNat, o.toNat, t, l⟩, A, cap, ?_, ⟨k1.2, a1.2, b1.2, s1.2, q1.2, p1.2, o1.2, byt_of_wf hw⟩, hr, hmc⟩
  show _ = ([.int .u8 ((k.toNat : Nat) : Int), .int .u8 ((a.toNat : Nat) : Int), .int .u8 ((b.toNat : Nat) : Int), .int .u32 ((s.toNat : Nat) : Int), .int .u32 ((q.toNat : Nat) : Int), .int .u8 ((p.toNat : Nat) : Int), .int .u32 ((o.toNat : Nat) : Int), .bool t, .slice A l.length cap] : List Value)
  rw [← k1.1, ← a1.1, ← b1.1, ← s1.1, ← q1.1, ← p1.1, ← o1.1]

theorem c_law27alive  (w0 : World) :
    CallR Try.prog 59 #[] w0 fun v w' => v = .bool true ∧ Ext w0 w' := by
 have hS : St NoB w0 w0 [] := St.start w0
 have hc1 := f1_chk
 obtain ⟨hde, hdf⟩ := dec_enc f1_ok f1_chk
 have hel := encF_len f1_ok (by decide)
 replace hel : (encF f1m).length ≤ 27 := hel
 refine c_enter (l := [undef, undef, undef, undef, undef, undef, undef, undef, undef, undef, undef, undef, undef, undef, undef, undef, undef, undef, undef, undef, undef, undef, undef, undef, undef, undef, undef, undef, undef, undef, undef, undef, undef, undef, undef, undef, undef, undef, undef, undef, undef, undef]) Try.func59 rfl (by simp only [Try.ntmps59, List.size_toArray, List.length_cons, List.length_nil, Nat.reduceAdd, Nat.reduceSub, Array.replicate_succ, Array.replicate_zero, List.push_toArray, List.append_toArray, List.nil_append, List.cons_append]) ?_
 refine x_seq fun K1 hK1 => ?_
 refine x_region ?_
 refine s_go (s_assign) ?_
 try simp only [opv, n1, n2, n3, n4, Value.cells]
 refine x_nil ?_
 refine hK1 _ _ ?_
 refine x_seq fun K2 hK2 => ?_
 refine x_region ?_
 refine m_buildRow (cells := #[_]) Try.underlying43 ti5 (hc := by simp only [List.map_toArray, List.map_cons, List.map_nil, opv, n1, n2, n3, n4, Value.cells, List.toList_toArray]; (repeat (refine fill_cons rfl rfl (Nat.le_of_ble_eq_true rfl) ?_)); rfl) (hS := hS) (h := fun w1 g1 hS => ?_)
 try simp only [opv, n1, n2, n3, n4, Value.cells, Array.toArray_toList] at hS ⊢
 refine m_mark Try.underlying43 Try.underlying5 (hS := hS) (h := fun w2 hS => ?_)
 try simp only [opv, n1, n2, n3, n4, Value.cells, Array.toArray_toList] at hS ⊢
 refine s_go (s_build_struct (cells := #[_, .int .u8 0, _, .int .u32 0, .int .u32 0, .int .u8 0, .int .u32 0, .bool false, _]) Try.underlying90 ti90 bp90 (hc := by simp only [List.map_toArray, List.map_cons, List.map_nil, opv, n1, n2, n3, n4, Value.cells, List.toList_toArray]; (repeat (refine fill_cons rfl rfl (Nat.le_of_ble_eq_true rfl) ?_)); rfl)) ?_
 try simp only [opv, n1, n2, n3, n4, Value.cells]
 refine s_call en63 ?_
 try simp only [opv, n1, n2, n3, n4, Value.cells, List.map_toArray, List.map_cons, List.map_nil, List.append_toArray, List.cons_append, List.nil_append, Array.append_empty]
 refine CallR.mono (c_frEncode _ f1m f1_ok _ 1 (hS.hasRd (by repeat (exact Has.head))) (by decide)) ?_
 rintro _ w3 ⟨B1, k1, rfl, hkB1, hC3⟩
 replace hS := hS.call hC3
 simp only [List.cons_append, List.nil_append] at hS
 rw [f1_chk]
 try simp only [opv, n1, n2, n3, n4, Value.cells]
 refine s_go (s_move) ?_
 try simp only [opv, n1, n2, n3, n4, Value.cells]
 refine s_go (s_extract (hv := rfl)) ?_
 try simp only [List.getElem_toArray, List.getElem_cons_zero, List.getElem_cons_succ]
 try simp only [opv, n1, n2, n3, n4, Value.cells]
 refine s_go (s_extract (hv := rfl)) ?_
 try simp only [List.getElem_toArray, List.getElem_cons_zero, List.getElem_cons_succ]
 try simp only [opv, n1, n2, n3, n4, Value.cells]
 refine s_go (s_assign) ?_
 try simp only [opv, n1, n2, n3, n4, Value.cells]
 refine s_go (s_assign) ?_
 try simp only [opv, n1, n2, n3, n4, Value.cells]
 refine x_nil ?_
 refine hK2 _ _ ?_
 refine x_seq fun K3 hK3 => ?_
 refine x_region ?_
 refine s_go (s_move) ?_
 try simp only [opv, n1, n2, n3, n4, Value.cells]
 refine s_call en60 ?_
 try simp only [opv, n1, n2, n3, n4, Value.cells, List.map_toArray, List.map_cons, List.map_nil, List.append_toArray, List.cons_append, List.nil_append, Array.append_empty]
 refine CallR.mono (c_frDecode _ B1 _ k1 (encF f1m) (hS.vecRd (by repeat (exact Has.head))) rfl (encF_byt f1_ok) (by omega) hkB1) ?_
 rintro _ w4 ⟨B2, k2, rfl, hC4⟩
 replace hS := hS.call hC4
 simp only [List.cons_append, List.nil_append] at hS
 rw [hdf] at hS
 rw [hde, hdf]
 try simp only [opv, n1, n2, n3, n4, Value.cells]
 refine s_go (s_move) ?_
 try simp only [opv, n1, n2, n3, n4, Value.cells]
 refine s_go (s_extract (hv := rfl)) ?_
 try simp only [List.getElem_toArray, List.getElem_cons_zero, List.getElem_cons_succ]
 try simp only [opv, n1, n2, n3, n4, Value.cells]
 refine s_go (s_extract (hv := rfl)) ?_
 try simp only [List.getElem_toArray, List.getElem_cons_zero, List.getElem_cons_succ]
 try simp only [opv, n1, n2, n3, n4, Value.cells]
 refine m_alloc ti90 hS (fun w5 g5 hS => ?_)
 try simp only [opv, n1, n2, n3, n4, Value.cells, Array.toArray_toList] at hS ⊢
 refine m_store_obj ti90 (hS := hS) (h1 := by simp [opv, Value.cells, FA, fmL, Value.oneCell']) (h := fun w6 hS => ?_)
 try simp only [opv, n1, n2, n3, n4, Value.cells, Array.toArray_toList] at hS ⊢
 refine s_go (s_assign) ?_
 try simp only [opv, n1, n2, n3, n4, Value.cells]
 refine x_nil ?_
 refine hK3 _ _ ?_
 refine x_seq fun K4 hK4 => ?_
 refine x_region ?_
 refine s_call en69 ?_
 try simp only [opv, n1, n2, n3, n4, Value.cells, List.map_toArray, List.map_cons, List.map_nil, List.append_toArray, List.cons_append, List.nil_append, Array.append_empty]
 refine CallR.mono (c_frRoom _ (by omega) _) ?_
 rintro _ w7 ⟨rfl, hE7⟩
 replace hS := hS.ext hE7
 try simp only [opv, n1, n2, n3, n4, Value.cells]
 rw [show (if (32 : Int) < 32 then (0 : Int) else 32 - 26) = 6 from rfl]
 refine s_go (s_eql) ?_
 try simp only [opv, n1, n2, n3, n4, Value.cells]
 try simp only [eq_self, decide_true, beq_self_eq_true, Bool.and_self]
 refine s_go (s_move) ?_
 try simp only [opv, n1, n2, n3, n4, Value.cells]
 refine g_on (yi (t := 19) rfl rfl) ?_
 refine s_call en69 ?_
 try simp only [opv, n1, n2, n3, n4, Value.cells, List.map_toArray, List.map_cons, List.map_nil, List.append_toArray, List.cons_append, List.nil_append, Array.append_empty]
 refine CallR.mono (c_frRoom _ (by omega) _) ?_
 rintro _ w8 ⟨rfl, hE8⟩
 replace hS := hS.ext hE8
 try simp only [opv, n1, n2, n3, n4, Value.cells]
 rw [show (if (31 : Int) < 32 then (0 : Int) else 31 - 26) = 0 from rfl]
 refine g_on (yi (t := 19) rfl rfl) ?_
 refine s_go (s_eql) ?_
 try simp only [opv, n1, n2, n3, n4, Value.cells]
 try simp only [eq_self, decide_true, beq_self_eq_true, Bool.and_self]
 refine s_go (s_pick_t) ?_
 try simp only [opv, n1, n2, n3, n4, Value.cells]
 refine s_go (s_move) ?_
 try simp only [opv, n1, n2, n3, n4, Value.cells]
 refine g_on (yi (t := 23) rfl rfl) ?_
 refine s_go (s_move) ?_
 try simp only [opv, n1, n2, n3, n4, Value.cells]
 refine g_on (yi (t := 23) rfl rfl) ?_
 refine s_go (s_eql) ?_
 try simp only [opv, n1, n2, n3, n4, Value.cells]
 try simp only [eq_self, decide_true, beq_self_eq_true, Bool.and_self]
 refine s_go (s_pick_t) ?_
 try simp only [opv, n1, n2, n3, n4, Value.cells]
 refine s_go (s_move) ?_
 try simp only [opv, n1, n2, n3, n4, Value.cells]
 refine g_on (yi (t := 27) rfl rfl) ?_
 refine s_go (s_move) ?_
 try simp only [opv, n1, n2, n3, n4, Value.cells]
 refine g_on (yi (t := 27) rfl rfl) ?_
 refine s_go (s_eql) ?_
 try simp only [opv, n1, n2, n3, n4, Value.cells]
 try simp only [eq_self, decide_true, beq_self_eq_true, Bool.and_self]
 refine s_go (s_pick_t) ?_
 try simp only [opv, n1, n2, n3, n4, Value.cells]
 refine s_go (s_move) ?_
 try simp only [opv, n1, n2, n3, n4, Value.cells]
 refine g_on (yi (t := 31) rfl rfl) ?_
 refine s_go (m_fieldAddr Try.underlying90 (hi := ti5)) ?_
 try simp only [opv, n1, n2, n3, n4, Value.cells, Nat.zero_add, Nat.add_zero, List.getElem_toArray, List.getElem_cons_zero, List.getElem_cons_succ]
 refine g_on (yi (t := 31) rfl rfl) ?_
 refine s_go (m_load_obj Try.underlying5 (hS := hS)) ?_
 try simp only [opv, n1, n2, n3, n4, Value.cells, List.getElem_toArray, List.getElem_cons_zero, List.getElem_cons_succ]
 refine g_on (yi (t := 31) rfl rfl) ?_
 refine s_go (s_eql) ?_
 try simp only [opv, n1, n2, n3, n4, Value.cells]
 rw [show decide (((f1m.to : Nat) : Int) = 1) = true from rfl]
 try simp only [eq_self, decide_true, beq_self_eq_true, Bool.and_self]
 refine s_go (s_pick_t) ?_
 try simp only [opv, n1, n2, n3, n4, Value.cells]
 refine s_go (s_move) ?_
 try simp only [opv, n1, n2, n3, n4, Value.cells]
 refine g_on (yi (t := 36) rfl rfl) ?_
 refine s_go (m_fieldAddr Try.underlying90 (hi := ti43)) ?_
 try simp only [opv, n1, n2, n3, n4, Value.cells, Nat.zero_add, Nat.add_zero, List.getElem_toArray, List.getElem_cons_zero, List.getElem_cons_succ]
 refine g_on (yi (t := 36) rfl rfl) ?_
 refine s_go (m_load_obj Try.underlying43 (hS := hS)) ?_
 try simp only [opv, n1, n2, n3, n4, Value.cells, List.getElem_toArray, List.getElem_cons_zero, List.getElem_cons_succ]
 refine g_on (yi (t := 36) rfl rfl) ?_
 refine s_go (s_len_sl Try.underlying43) ?_
 try simp only [opv, n1, n2, n3, n4, Value.cells]
 refine g_on (yi (t := 36) rfl rfl) ?_
 refine s_go (s_eql) ?_
 try simp only [opv, n1, n2, n3, n4, Value.cells]
 rw [show decide (((f1m.d.length : Nat) : Int) = 1) = true from rfl]
 try simp only [eq_self, decide_true, beq_self_eq_true, Bool.and_self]
 refine s_go (s_pick_t) ?_
 try simp only [opv, n1, n2, n3, n4, Value.cells]
 refine s_go (s_assign) ?_
 try simp only [opv, n1, n2, n3, n4, Value.cells]
 refine x_nil ?_
 refine hK4 _ _ ?_
 refine x_ret ?_
 refine r_tmp rfl ?_
 exact ⟨rfl, hS.ext_of⟩
end Go.Proofs.Ytpjpaipkkcengaa
