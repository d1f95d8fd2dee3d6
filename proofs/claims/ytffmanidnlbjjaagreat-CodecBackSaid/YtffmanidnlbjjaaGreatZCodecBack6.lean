/- Rules, plain words and walks that the claim leans on: Gh, Gj, Gk, Ua, Vyx, Pframe, Uc, Ud, Uf, Ug, Ui, Uj, Lzopen, Tb, Vj, Tc. -/
import Derived.Test.YtffmanidnlbjjaaGreatZCodecBack5
set_option linter.unusedSimpArgs false
set_option linter.unusedVariables false
set_option linter.unusedSimpArgs false
set_option linter.unusedVariables false
set_option maxHeartbeats 600000
set_option maxRecDepth 100000
namespace Go.Proofs.YtffmanidnlbjjaaGreat
open Go.RowKit

theorem norm_tk {l : List (List Int)} {k : Nat} {x : List Int} (hk : k < l.length) (hx : l.getD k [] = x) (hv : AOks l) : (atomR x = true → normP (l.take (k + 1)) = putS x (normP (l.take k))) ∧ (atomR x = false → normP (l.take (k + 1)) = normP (l.take k)) := by
  have ha : AtomOk x := by rw [← hx]; exact hv.get hk
  rw [norm_take hk, hx]
  refine ⟨fun h => ?_, fun h => ?_⟩
  · rw [if_pos h, put_eq ha (norm_sta (hv.take k))]
  · rw [if_neg (by rw [h]; decide)]
theorem c_ref10Norm (w0 : World) (A : Option Addr) (c : Nat) (l : List (List Int)) (hr : Rd w0 A 21 l.length (arows l)) (hv : AOks l) (hn : l.length ≤ 1000000000)  :
    CallR Tryz.prog 24 #[.slice A l.length c] w0 fun v w' => ∃ (B : Option Addr) (d : Nat), v = .slice B (normP l).length d ∧ RBack w0 w' A l B (normP l) := by
 have hS := St.rd1 (S := NoB) hr
 have hvl := arows_len l
 refine c_enter (l := [.slice A l.length c, undef, undef, undef, undef, undef, undef, undef, undef, undef, undef, undef, undef, undef, undef, undef, undef, undef, undef, undef, undef, undef, undef, undef, undef, undef]) Tryz.func24 rfl (by simp only [Tryz.ntmps24, List.size_toArray, List.length_cons, List.length_nil, Nat.reduceAdd, Nat.reduceSub, Array.replicate_succ, Array.replicate_zero, List.push_toArray, List.append_toArray, List.nil_append, List.cons_append]) ?_
 refine x_seq fun K1 hK1 => ?_
 refine x_region ?_
 refine s_go (s_assign) ?_
 try simp only [opv, n1, n2, n3, n4, Value.cells]
 refine x_nil ?_
 refine hK1 _ _ ?_
 refine x_seq fun K2 hK2 => ?_
 refine x_seq fun K3 hK3 => ?_
 refine x_region ?_
 refine s_go (s_move) ?_
 try simp only [opv, n1, n2, n3, n4, Value.cells]
 refine s_call en62 ?_
 try simp only [opv, n1, n2, n3, n4, Value.cells, List.map_toArray, List.map_cons, List.map_nil, List.append_toArray, List.cons_append, List.nil_append, Array.append_empty]
 refine CallR.mono (c_ref10Right _ A c l (hS.hasRd (by repeat (first | exact Has.head | apply Has.tail))) hv hn) ?_
 rintro _ w1 ⟨rfl, hE1⟩
 replace hS := hS.ext hE1
 try simp only [opv, n1, n2, n3, n4, Value.cells]
 refine x_nil ?_
 refine hK3 _ _ ?_
 refine x_cond (ht := fun hc1 => ?_) (hf := fun hc1 => ?_)
 ·
  try simp only [decide_eq_true_eq, decide_eq_false_iff_not, Bool.not_eq_true', Bool.not_eq_false', Int.not_lt, Int.not_le, ne_eq, Decidable.not_not, bne_iff_ne, beq_iff_eq, not_true_eq_false, not_false_eq_true] at hc1
  have hid := norm_id ((right_iff hv).1 hc1)
  refine x_seq fun K4 hK4 => ?_
  refine x_region ?_
  refine s_go (s_move) ?_
  try simp only [opv, n1, n2, n3, n4, Value.cells]
  refine s_go (s_assign) ?_
  try simp only [opv, n1, n2, n3, n4, Value.cells]
  refine x_nil ?_
  refine hK4 _ _ ?_
  refine x_ret ?_
  refine r_tmp rfl ?_
  exact ⟨A, c, by rw [hid]; rfl, rback_self hS.ext_of (hS.hasRd (by repeat (exact Has.head))) hid⟩
 ·
  try simp only [decide_eq_true_eq, decide_eq_false_iff_not, Bool.not_eq_true', Bool.not_eq_false', Int.not_lt, Int.not_le, ne_eq, Decidable.not_not, bne_iff_ne, beq_iff_eq, not_true_eq_false, not_false_eq_true] at hc1
  refine x_skip ?_
  refine hK2 _ _ ?_
  refine x_seq fun K5 hK5 => ?_
  refine x_region ?_
  replace hS := hS.nil_vec 88 21
  refine s_go (s_assign) ?_
  try simp only [opv, n1, n2, n3, n4, Value.cells]
  refine x_nil ?_
  refine hK5 _ _ ?_
  refine x_seq fun K6 hK6 => ?_
  refine x_seq fun K7 hK7 => ?_
  refine x_region ?_
  refine s_go (s_assign) ?_
  try simp only [opv, n1, n2, n3, n4, Value.cells]
  refine x_nil ?_
  refine hK7 _ _ ?_
  refine x_block ?_
  refine x_loop [3, 4, 8, 9, 10, 11, 12, 13, 14, 15, 16, 17, 18, 19, 20, 21, 22, 23, 24] (fun m f w => ∃ (k : Nat) (B : Option Addr) (d : Nat), k ≤ l.length ∧ m = l.length - k ∧ f 4 = .int .i64 (k : Int) ∧ f 3 = .slice B (normP (l.take k)).length d ∧ St NoB w0 w [.vec B d 88 21 (normP (l.take k)).length (arows (normP (l.take k))), .rd A 21 (l).length (arows (l))]) (l.length) ?init1 (fun m1 f1 wl1 hI => ?_)
  case init1 =>
   try simp only [opv, n1, n2, n3, n4, Value.cells]
   exact ⟨0, none, 0, by omega, rfl, rfl, rfl, hS.sel (by repeat (first | exact Sel.nil | (refine Sel.cons (by repeat (exact Del.head)) ?_)))⟩
  obtain ⟨k, B, d, hk0, hm, h4, h3, hS⟩ := hI
  simp only [clob, List.foldl, n3, n4, h4, h3]
  obtain ⟨x, hx⟩ : ∃ x, l.getD k [] = x := ⟨_, rfl⟩
  have hlk := norm_len (l.take k)
  have hlt : (l.take k).length ≤ l.length := by rw [List.length_take]; omega
  refine x_seq fun K8 hK8 => ?_
  refine x_seq fun K9 hK9 => ?_
  refine x_region ?_
  refine s_go (s_move) ?_
  try simp only [opv, n1, n2, n3, n4, Value.cells]
  refine s_go (s_move) ?_
  try simp only [opv, n1, n2, n3, n4, Value.cells]
  refine s_go (s_len_sl Tryz.underlying22) ?_
  try simp only [opv, n1, n2, n3, n4, Value.cells]
  refine s_go (s_lss) ?_
  try simp only [opv, n1, n2, n3, n4, Value.cells]
  refine x_nil ?_
  refine hK9 _ _ ?_
  refine x_cond (ht := fun hc2 => ?_) (hf := fun hc2 => ?_)
  ·
   try simp only [decide_eq_true_eq, decide_eq_false_iff_not, Bool.not_eq_true', Bool.not_eq_false', Int.not_lt, Int.not_le, ne_eq, Decidable.not_not, bne_iff_ne, beq_iff_eq, not_true_eq_false, not_false_eq_true] at hc2
   have ha : AtomOk x := by rw [← hx]; exact hv.get (by omega)
   have hal := ha.len
   have hk := ha.key
   have hkl := hk.len
   have htk := norm_tk (by omega) hx hv
   refine x_skip ?_
   refine hK8 _ _ ?_
   refine x_seq fun K10 hK10 => ?_
   refine x_block ?_
   refine x_seq fun K11 hK11 => ?_
   refine x_region ?_
   refine s_go (s_move) ?_
   try simp only [opv, n1, n2, n3, n4, Value.cells]
   refine s_go (s_move) ?_
   try simp only [opv, n1, n2, n3, n4, Value.cells]
   refine s_go (m_indexAddr_rd Tryz.underlying22 ti88 (hS := hS)) ?_
   try simp only [opv, n1, n2, n3, n4, Value.cells, Nat.mul_one, Nat.zero_add, Int.toNat_natCast, Int.reduceToNat]
   refine s_go (m_loada_rd Tryz.underlying88 (hi := ti88) (hS := hS) (hfit := by rw [arows_len]; omega)) ?_
   try simp only [opv, n1, n2, n3, n4, Value.cells, List.getElem_toArray, List.getElem_cons_zero, List.getElem_cons_succ]
   rw [arow_get (by omega) hv, hx]
   refine s_call en63 ?_
   try simp only [opv, n1, n2, n3, n4, Value.cells, List.map_toArray, List.map_cons, List.map_nil, List.append_toArray, List.cons_append, List.nil_append, Array.append_empty]
   refine CallR.mono (c_ref09Right x ha _) ?_
   rintro _ w2 ⟨rfl, hE2⟩
   replace hS := hS.ext hE2
   try simp only [opv, n1, n2, n3, n4, Value.cells]
   refine x_nil ?_
   refine hK11 _ _ ?_
   refine x_cond (ht := fun hc3 => ?_) (hf := fun hc3 => ?_)
   ·
    try simp only [decide_eq_true_eq, decide_eq_false_iff_not, Bool.not_eq_true', Bool.not_eq_false', Int.not_lt, Int.not_le, ne_eq, Decidable.not_not, bne_iff_ne, beq_iff_eq, not_true_eq_false, not_false_eq_true] at hc3
    have hst := htk.1 hc3
    refine x_region ?_
    refine s_go (s_move) ?_
    try simp only [opv, n1, n2, n3, n4, Value.cells]
    refine s_go (s_move) ?_
    try simp only [opv, n1, n2, n3, n4, Value.cells]
    refine s_go (s_move) ?_
    try simp only [opv, n1, n2, n3, n4, Value.cells]
    refine s_go (m_indexAddr_rd Tryz.underlying22 ti88 (hS := hS)) ?_
    try simp only [opv, n1, n2, n3, n4, Value.cells, Nat.mul_one, Nat.zero_add, Int.toNat_natCast, Int.reduceToNat]
    refine s_go (m_loada_rd Tryz.underlying88 (hi := ti88) (hS := hS) (hfit := by rw [arows_len]; omega)) ?_
    try simp only [opv, n1, n2, n3, n4, Value.cells, List.getElem_toArray, List.getElem_cons_zero, List.getElem_cons_succ]
    rw [arow_get (by omega) hv, hx]
    refine s_call en64 ?_
    try simp only [opv, n1, n2, n3, n4, Value.cells, List.map_toArray, List.map_cons, List.map_nil, List.append_toArray, List.cons_append, List.nil_append, Array.append_empty]
    refine CallR.mono (c_ref10put _ B d (normP (l.take k)) (hS.vecRd (by repeat (exact Has.head))) (norm_sta (hv.take k)).ok (by omega) x ha) ?_
    rintro _ w3 ⟨B3, d3, rfl, hC3⟩
    replace hS := hS.call hC3
    simp only [List.cons_append, List.nil_append] at hS
    try simp only [opv, n1, n2, n3, n4, Value.cells]
    refine s_go (s_assign) ?_
    try simp only [opv, n1, n2, n3, n4, Value.cells]
    refine x_nil ?_
    refine hK10 _ _ ?_
    refine x_region ?_
    refine s_go (s_move) ?_
    try simp only [opv, n1, n2, n3, n4, Value.cells]
    refine s_go (s_add (hc := by exact wr_i64 (by omega) (by omega))) ?_
    try simp only [opv, n1, n2, n3, n4, Value.cells]
    refine s_go (s_assign) ?_
    try simp only [opv, n1, n2, n3, n4, Value.cells]
    refine x_nil ?_
    refine loop_back (m' := l.length - (k + 1)) (by simp only [clob, List.foldl, n1, n2, n3, n4]) ?_ ?_
    · try simp only [opv, n1, n2, n3, n4, Value.cells]
      exact ⟨k + 1, _, _, by omega, by omega, by rfl, by rw [hst], by rw [hst]; exact hS.sel (by repeat (first | exact Sel.nil | (refine Sel.cons (by repeat (first | exact Del.head | apply Del.tail)) ?_)))⟩
    · omega
   ·
    try simp only [decide_eq_true_eq, decide_eq_false_iff_not, Bool.not_eq_true', Bool.not_eq_false', Int.not_lt, Int.not_le, ne_eq, Decidable.not_not, bne_iff_ne, beq_iff_eq, not_true_eq_false, not_false_eq_true] at hc3
    have hst := htk.2 (by simpa using hc3)
    refine x_skip ?_
    refine hK10 _ _ ?_
    refine x_region ?_
    refine s_go (s_move) ?_
    try simp only [opv, n1, n2, n3, n4, Value.cells]
    refine s_go (s_add (hc := by exact wr_i64 (by omega) (by omega))) ?_
    try simp only [opv, n1, n2, n3, n4, Value.cells]
    refine s_go (s_assign) ?_
    try simp only [opv, n1, n2, n3, n4, Value.cells]
    refine x_nil ?_
    refine loop_back (m' := l.length - (k + 1)) (by simp only [clob, List.foldl, n1, n2, n3, n4]) ?_ ?_
    · try simp only [opv, n1, n2, n3, n4, Value.cells]
      exact ⟨k + 1, _, _, by omega, by omega, by rfl, by rw [hst], by rw [hst]; exact hS.sel (by repeat (first | exact Sel.nil | (refine Sel.cons (by repeat (exact Del.head)) ?_)))⟩
    · omega
  ·
   try simp only [decide_eq_true_eq, decide_eq_false_iff_not, Bool.not_eq_true', Bool.not_eq_false', Int.not_lt, Int.not_le, ne_eq, Decidable.not_not, bne_iff_ne, beq_iff_eq, not_true_eq_false, not_false_eq_true] at hc2
   obtain rfl : k = l.length := by omega
   rw [List.take_of_length_le (Nat.le_refl _)] at hS ⊢
   refine x_exit (look_here ?_)
   refine hK6 _ _ ?_
   refine x_seq fun K12 hK12 => ?_
   refine x_region ?_
   refine s_go (s_move) ?_
   try simp only [opv, n1, n2, n3, n4, Value.cells]
   refine s_go (s_assign) ?_
   try simp only [opv, n1, n2, n3, n4, Value.cells]
   refine x_nil ?_
   refine hK12 _ _ ?_
   refine x_ret ?_
   refine r_tmp rfl ?_
   exact ⟨_, _, rfl, rback_vec hS (by repeat (exact Has.head))⟩
end Go.Proofs.YtffmanidnlbjjaaGreat
set_option linter.unusedSimpArgs false
set_option linter.unusedVariables false
set_option maxHeartbeats 1000000
set_option maxRecDepth 100000
namespace Go.Proofs.YtffmanidnlbjjaaGreat
open Go.RowKit

theorem c_ref10Same (w0 : World) (A : Option Addr) (c : Nat) (l : List (List Int)) (hr : Rd w0 A 21 l.length (arows l)) (hv : AOks l) (B : Option Addr) (d : Nat) (r : List (List Int)) (hr2 : Rd w0 B 21 r.length (arows r)) (hv2 : AOks r) (hn : l.length + r.length ≤ 1000000000)  :
    CallR Tryz.prog 48 #[.slice A l.length c, .slice B r.length d] w0 fun v w' => v = .bool (decide (normP l = normP r)) ∧ Ext w0 w' := by
 have hS := St.rd2 (S := NoB) hr hr2
 have hno := (norm_sta hv).ok
 have hno2 := (norm_sta hv2).ok
 have hnb := norm_len l
 have hnb2 := norm_len r
 refine c_enter (l := [.slice A l.length c, .slice B r.length d, undef, undef, undef, undef, undef, undef, undef, undef]) Tryz.func48 rfl (by simp only [Tryz.ntmps48, List.size_toArray, List.length_cons, List.length_nil, Nat.reduceAdd, Nat.reduceSub, Array.replicate_succ, Array.replicate_zero, List.push_toArray, List.append_toArray, List.nil_append, List.cons_append]) ?_
 refine x_seq fun K1 hK1 => ?_
 refine x_region ?_
 refine s_go (s_assign) ?_
 try simp only [opv, n1, n2, n3, n4, Value.cells]
 refine x_nil ?_
 refine hK1 _ _ ?_
 refine x_seq fun K2 hK2 => ?_
 refine x_region ?_
 refine s_go (s_move) ?_
 try simp only [opv, n1, n2, n3, n4, Value.cells]
 refine s_call en24 ?_
 try simp only [opv, n1, n2, n3, n4, Value.cells, List.map_toArray, List.map_cons, List.map_nil, List.append_toArray, List.cons_append, List.nil_append, Array.append_empty]
 refine CallR.mono (c_ref10Norm _ A c l (hS.hasRd (by repeat (first | exact Has.head | apply Has.tail))) hv (by omega)) ?_
 rintro _ w1 ⟨B1, d1, rfl, hR1⟩
 replace hS := hS.back hR1
 try simp only [opv, n1, n2, n3, n4, Value.cells]
 refine s_go (s_move) ?_
 try simp only [opv, n1, n2, n3, n4, Value.cells]
 refine s_call en24 ?_
 try simp only [opv, n1, n2, n3, n4, Value.cells, List.map_toArray, List.map_cons, List.map_nil, List.append_toArray, List.cons_append, List.nil_append, Array.append_empty]
 refine CallR.mono (c_ref10Norm _ B d r (hS.hasRd (by repeat (first | exact Has.head | apply Has.tail))) hv2 (by omega)) ?_
 rintro _ w2 ⟨B2, d2, rfl, hR2⟩
 replace hS := hS.back hR2
 try simp only [opv, n1, n2, n3, n4, Value.cells]
 refine s_call en22 ?_
 try simp only [opv, n1, n2, n3, n4, Value.cells, List.map_toArray, List.map_cons, List.map_nil, List.append_toArray, List.cons_append, List.nil_append, Array.append_empty]
 refine CallR.mono (c_ref10Rows _ _ _ _ (hS.hasRd (by repeat (first | exact Has.head | apply Has.tail))) hno _ _ _ (hS.hasRd (by repeat (exact Has.head))) hno2 (by omega)) ?_
 rintro _ w3 ⟨rfl, hE3⟩
 replace hS := hS.ext hE3
 try simp only [opv, n1, n2, n3, n4, Value.cells]
 refine s_go (s_assign) ?_
 try simp only [opv, n1, n2, n3, n4, Value.cells]
 refine x_nil ?_
 refine hK2 _ _ ?_
 refine x_ret ?_
 refine r_tmp rfl ?_
 exact ⟨rfl, hS.ext_of⟩
end Go.Proofs.YtffmanidnlbjjaaGreat
set_option linter.unusedSimpArgs false
set_option linter.unusedVariables false
set_option maxHeartbeats 1000000
set_option maxRecDepth 100000
namespace Go.Proofs.YtffmanidnlbjjaaGreat
open Go.RowKit

def k10 : List Int := [1, 1, 97, 0, 0, 0, 0, 0, 0, 0, 2, 3]
def b10 : List Int := k10 ++ [2, 0, 0, 0, 0, 0, 0, 0, 0]
end Go.Proofs.YtffmanidnlbjjaaGreat
set_option linter.unusedSimpArgs false
set_option linter.unusedVariables false
set_option maxHeartbeats 2000000
set_option maxRecDepth 100000
namespace Go.Proofs.YtffmanidnlbjjaaGreat
open Go.RowKit

def encB (s : List (List Int)) : List Int := (s.map atomOut).flatten
def encP (l : List (List Int)) : List Int × Int := if 4096 < (normP l).length then ([], 15) else (vari (normP l).length ++ encB (normP l), 0)
def rowP (l : List (List Int)) : List Int × Int := if (encP l).2 = 0 ∧ rightL l = false then ([], 3) else encP l
theorem encB_cons (a : List Int) (s : List (List Int)) : encB (a :: s) = atomOut a ++ encB s := by simp [encB]
theorem encB_take {s : List (List Int)} {k : Nat} {x : List Int} (hk : k < s.length) (hx : s.getD k [] = x) : encB (s.take (k + 1)) = encB (s.take k) ++ atomOut x := by
  rw [take_snoc hk, hx, encB, encB, List.map_append, List.flatten_append]; simp
theorem encB_len : ∀ {s : List (List Int)}, AOks s → (encB s).length ≤ 70 * s.length
  | [], _ => by simp [encB]
  | a :: s, h => by
    have h1 := encB_len (s := s) fun b hb => h b (by simp [hb])
    have h2 := atomOut_len (h a (by simp))
    rw [encB_cons, List.length_append, List.length_cons]; omega
theorem encP_len {l : List (List Int)} (h : AOks l) : (encP l).1.length ≤ 300000 := by
  have h1 := encB_len (norm_sta h).ok
  have h2 := vari_len10 (x := (normP l).length)
  unfold encP
  split
  · simp
  · have := h2 (by omega)
    rw [List.length_append]; omega
theorem c_codecEnc1 (w0 : World) (g : Nat) (A : Option Addr) (c : Nat) (xs : List Int) (hx : xs.length ≤ 1000000) (a : List Int) (ha : AtomOk a) (b : Nat) (hM : St (OwnB [.obj b (.cells #[.pointer (some ⟨g, 0, none⟩)] 145 (0, 0)), .obj g (.cells #[.slice A xs.length c] 201 (0, 0)), .vec A c 5 1 xs.length (xs.map (Value.int .u8))]) w0 w0 [.obj b (.cells #[.pointer (some ⟨g, 0, none⟩)] 145 (0, 0)), .obj g (.cells #[.slice A xs.length c] 201 (0, 0)), .vec A c 5 1 xs.length (xs.map (Value.int .u8))]) :
    CallR Tryz.prog 96 #[.agg (AA a), .pointer (some ⟨b, 0, none⟩)] w0 fun v w' => v = .tuple #[] ∧ WrSt w0 w' [.obj b (.cells #[.pointer (some ⟨g, 0, none⟩)] 145 (0, 0)), .obj g (.cells #[.slice A xs.length c] 201 (0, 0)), .vec A c 5 1 xs.length (xs.map (Value.int .u8))] g (xs ++ atomW a) [.obj b (.cells #[.pointer (some ⟨g, 0, none⟩)] 145 (0, 0))] := by
 have hS := hM
 refine c_enter (l := [.agg (AA a), .pointer (some ⟨b, 0, none⟩), undef, undef, undef, undef]) Tryz.func96 rfl (by simp only [Tryz.ntmps96, List.size_toArray, List.length_cons, List.length_nil, Nat.reduceAdd, Nat.reduceSub, Array.replicate_succ, Array.replicate_zero, List.push_toArray, List.append_toArray, List.nil_append, List.cons_append]) ?_
 refine x_seq fun K1 hK1 => ?_
 refine x_region ?_
 have hal := ha.len
 have hk := ha.key
 have hv := ha.val
 have hvl := hv.len
 have hkl := hk.len
 have h00 := akey_0 hal
 have htl := vtext_len hvl
 have htb := hv.text
 have hvb := hv.b0
 refine m_box hS (fun w1 g1 hS => ?_)
 try simp only [opv, n1, n2, n3, n4, Value.cells, Array.toArray_toList] at hS ⊢
 refine x_nil ?_
 refine hK1 _ _ ?_
 refine x_region ?_
 refine s_go (m_load_obj Tryz.underlying145 (hS := hS) (hv := by rfl)) ?_
 try simp only [opv, n1, n2, n3, n4, Value.cells, List.getElem_toArray, List.getElem_cons_zero, List.getElem_cons_succ]
 refine s_go (m_load_row Tryz.underlying88 (hi := ti88) (hS := hS) (hfit := by (rw [zi_size (by omega)]; rfl))) ?_
 try simp only [opv, n1, n2, n3, n4, Value.cells, List.getElem_toArray, List.getElem_cons_zero, List.getElem_cons_succ]
 refine s_call en97 ?_
 try simp only [opv, n1, n2, n3, n4, Value.cells, List.map_toArray, List.map_cons, List.map_nil, List.append_toArray, List.cons_append, List.nil_append, Array.append_empty]
 refine CallR.mono (c_atomWrite _ g A c xs (by omega) a ha (hS.owns (by repeat (first | exact Spl.nil | (apply Spl.cons (by repeat (first | exact Del.head | apply Del.tail))))))) ?_
 rintro _ w2 ⟨rfl, A2, c2, hC2⟩
 replace hS := hS.frame (by repeat (first | exact Spl.nil | (apply Spl.cons (by repeat (first | exact Del.head | apply Del.tail))))) hC2 (by intro r hr g hg; simp only [List.mem_cons, List.not_mem_nil, or_false] at hr; rcases hr with rfl | rfl | rfl <;> (simp [Res.reads] at hg; done))
 simp only [List.cons_append, List.nil_append] at hS
 try simp only [opv, n1, n2, n3, n4, Value.cells]
 refine x_nil ?_
 refine r_none rfl ?_
 exact ⟨rfl, _, _, hS.sel (by repeat (first | exact Sel.nil | (refine Sel.cons (by repeat (first | exact Del.head | apply Del.tail)) ?_)))⟩
theorem c_codecWrite (w0 : World) (g b : Nat) (B : Option Addr) (d : Nat) (l : List (List Int)) (hv : AOks l) (hR : ∀ a ∈ l, atomR a = true) (hn : l.length ≤ 4096) (hM : St (OwnB [.obj b (.cells #[.pointer (some ⟨g, 0, none⟩)] 145 (0, 0)), .obj g (.cells #[.slice none 0 0] 201 (0, 0)), .vec none 0 5 1 0 (([] : List Int).map (Value.int .u8)), .rd B 21 (l).length (arows (l))]) w0 w0 [.obj b (.cells #[.pointer (some ⟨g, 0, none⟩)] 145 (0, 0)), .obj g (.cells #[.slice none 0 0] 201 (0, 0)), .vec none 0 5 1 0 (([] : List Int).map (Value.int .u8)), .rd B 21 (l).length (arows (l))]) :
    CallR Tryz.prog 94 #[.slice B l.length d, .func (.func 95) #[.pointer (some ⟨g, 0, none⟩)] #[], .func (.func 96) #[] #[.pointer (some ⟨b, 0, none⟩)]] w0 fun v w' => v = .tuple #[] ∧ WrSt w0 w' [.obj b (.cells #[.pointer (some ⟨g, 0, none⟩)] 145 (0, 0)), .obj g (.cells #[.slice none 0 0] 201 (0, 0)), .vec none 0 5 1 0 (([] : List Int).map (Value.int .u8)), .rd B 21 (l).length (arows (l))] g (vari l.length ++ encB l) [.obj b (.cells #[.pointer (some ⟨g, 0, none⟩)] 145 (0, 0))] := by
 have hS := hM
 have hvl := arows_len l
 have hl10 := vari_len10 (x := l.length) (by omega)
 refine c_enter (l := [.slice B l.length d, .func (.func 95) #[.pointer (some ⟨g, 0, none⟩)] #[], .func (.func 96) #[] #[.pointer (some ⟨b, 0, none⟩)], undef, undef, undef, undef, undef, undef, undef, undef, undef, undef, undef, undef, undef, undef, undef, undef, undef, undef, undef, undef]) Tryz.func94 rfl (by simp only [Tryz.ntmps94, List.size_toArray, List.length_cons, List.length_nil, Nat.reduceAdd, Nat.reduceSub, Array.replicate_succ, Array.replicate_zero, List.push_toArray, List.append_toArray, List.nil_append, List.cons_append]) ?_
 refine x_seq fun K1 hK1 => ?_
 refine x_region ?_
 refine s_go (s_move) ?_
 try simp only [opv, n1, n2, n3, n4, Value.cells]
 refine s_go (s_move) ?_
 try simp only [opv, n1, n2, n3, n4, Value.cells]
 refine s_go (s_len_sl Tryz.underlying22) ?_
 try simp only [opv, n1, n2, n3, n4, Value.cells]
 refine s_go (s_conv Tryz.underlying3 Tryz.underlying84 (hc := wr_u64 (by omega) (by omega))) ?_
 try simp only [opv, n1, n2, n3, n4, Value.cells]
 refine s_callm (hv := rfl) en95 ?_
 try simp only [opv, n1, n2, n3, n4, Value.cells, List.map_toArray, List.map_cons, List.map_nil, List.append_toArray, List.cons_append, List.nil_append, Array.append_empty]
 refine CallR.mono (c_wnum _ g none 0 [] (by simp) l.length (by omega) (hS.owns (by repeat (first | exact Spl.nil | (apply Spl.cons (by repeat (first | exact Del.head | apply Del.tail))))))) ?_
 rintro _ w1 ⟨rfl, A1, c1, hC1⟩
 replace hS := hS.frame (by repeat (first | exact Spl.nil | (apply Spl.cons (by repeat (first | exact Del.head | apply Del.tail))))) hC1 (by intro r hr g hg; simp only [List.mem_cons, List.not_mem_nil, or_false] at hr; rcases hr with rfl | rfl | rfl <;> (simp [Res.reads] at hg; done))
 simp only [List.cons_append, List.nil_append] at hS
 try simp only [opv, n1, n2, n3, n4, Value.cells]
 refine x_nil ?_
 refine hK1 _ _ ?_
 refine x_seq fun K2 hK2 => ?_
 refine x_region ?_
 refine s_go (s_move) ?_
 try simp only [opv, n1, n2, n3, n4, Value.cells]
 refine s_go (s_len_sl Tryz.underlying22) ?_
 try simp only [opv, n1, n2, n3, n4, Value.cells]
 refine s_go (s_move) ?_
 try simp only [opv, n1, n2, n3, n4, Value.cells]
 refine x_nil ?_
 refine hK2 _ _ ?_
 refine x_block ?_
 refine x_loop [7, 15, 16, 17, 18, 19, 20, 21, 22] (fun m f w => ∃ (k : Nat) (A : Option Addr) (c : Nat), k ≤ l.length ∧ m = l.length - k ∧ f 15 = .int .i64 (k : Int) ∧ St (OwnB [.obj b (.cells #[.pointer (some ⟨g, 0, none⟩)] 145 (0, 0)), .obj g (.cells #[.slice none 0 0] 201 (0, 0)), .vec none 0 5 1 0 (([] : List Int).map (Value.int .u8)), .rd B 21 (l).length (arows (l))]) w0 w [.obj b (.cells #[.pointer (some ⟨g, 0, none⟩)] 145 (0, 0)), .obj g (.cells #[.slice A (vari l.length ++ encB (l.take k)).length c] 201 (0, 0)), .vec A c 5 1 (vari l.length ++ encB (l.take k)).length ((vari l.length ++ encB (l.take k)).map (Value.int .u8)), .rd B 21 (l).length (arows (l))]) (l.length) ?init1 (fun m1 f1 wl1 hI => ?_)
 case init1 =>
  try simp only [opv, n1, n2, n3, n4, Value.cells]
  exact ⟨0, _, _, by omega, rfl, rfl, by rw [List.take_zero, show encB [] = [] from rfl, List.append_nil]; exact hS.sel (by repeat (first | exact Sel.nil | (refine Sel.cons (by repeat (first | exact Del.head | apply Del.tail)) ?_)))⟩
 obtain ⟨k, A, c, hk0, hm, h15, hS⟩ := hI
 simp only [clob, List.foldl, n3, n4, h15]
 obtain ⟨x, hx⟩ : ∃ x, l.getD k [] = x := ⟨_, rfl⟩
 refine x_seq fun K3 hK3 => ?_
 refine x_region ?_
 refine s_go (s_lss) ?_
 try simp only [opv, n1, n2, n3, n4, Value.cells]
 refine x_nil ?_
 refine hK3 _ _ ?_
 refine x_seq fun K4 hK4 => ?_
 refine x_cond (ht := fun hc1 => ?_) (hf := fun hc1 => ?_)
 ·
  try simp only [decide_eq_true_eq, decide_eq_false_iff_not, Bool.not_eq_true', Bool.not_eq_false', Int.not_lt, Int.not_le, ne_eq, Decidable.not_not, bne_iff_ne, beq_iff_eq, not_true_eq_false, not_false_eq_true] at hc1
  have ha : AtomOk x := by rw [← hx]; exact hv.get (by omega)
  have hal := ha.len
  have hax : atomR x = true := hR x (by rw [← hx]; exact getD_mem' (by omega))
  have hst : (vari l.length ++ encB (l.take k)) ++ atomOut x = (vari l.length ++ encB (l.take (k + 1))) := by rw [encB_take (by omega) hx, List.append_assoc]
  have hkb := encB_len (hv.take k)
  rw [List.length_take] at hkb
  have hkl : (vari l.length ++ encB (l.take k)).length = (vari l.length).length + (encB (l.take k)).length := List.length_append
  refine x_skip ?_
  refine hK4 _ _ ?_
  refine x_seq fun K5 hK5 => ?_
  refine x_block ?_
  refine x_seq fun K6 hK6 => ?_
  refine x_region ?_
  refine s_go (m_indexAddr_rd Tryz.underlying22 ti88 (hS := hS)) ?_
  try simp only [opv, n1, n2, n3, n4, Value.cells, Nat.mul_one, Nat.zero_add, Int.toNat_natCast, Int.reduceToNat]
  refine s_go (m_loada_rd Tryz.underlying88 (hi := ti88) (hS := hS) (hfit := by rw [arows_len]; omega)) ?_
  try simp only [opv, n1, n2, n3, n4, Value.cells, List.getElem_toArray, List.getElem_cons_zero, List.getElem_cons_succ]
  rw [arow_get (by omega) hv, hx]
  refine m_alloc ti88 hS (fun w2 g2 hS => ?_)
  try simp only [opv, n1, n2, n3, n4, Value.cells, Array.toArray_toList] at hS ⊢
  have h0l : (List.replicate 21 (0 : Int)).length = 21 := rfl
  replace hS : St _ _ w2 (.obj g2 (.cells (AA (List.replicate 21 0)) 88 (0, 0)) :: _) := hS
  refine m_store_obj ti88 (hS := hS) (hc := by exact zi_whole (by omega) (by omega)) (hv := by (show (zi _ _).toArray.size = _; rw [zi_size (by omega)]; rfl)) (hfit := by (rw [zi_size (by omega)]; decide)) (h1 := by exact zi_one _ _) (h := fun w3 hS => ?_)
  try simp only [opv, n1, n2, n3, n4, Value.cells, Array.toArray_toList] at hS ⊢
  refine x_nil ?_
  refine hK6 _ _ ?_
  refine x_region ?_
  refine s_go (s_move) ?_
  try simp only [opv, n1, n2, n3, n4, Value.cells]
  refine s_go (m_load_row Tryz.underlying88 (hi := ti88) (hS := hS) (hfit := by (rw [zi_size (by omega)]; rfl))) ?_
  try simp only [opv, n1, n2, n3, n4, Value.cells, List.getElem_toArray, List.getElem_cons_zero, List.getElem_cons_succ]
  refine s_callv (hv := rfl) en96 ?_
  try simp only [opv, n1, n2, n3, n4, Value.cells, List.map_toArray, List.map_cons, List.map_nil, List.append_toArray, List.cons_append, List.nil_append, Array.append_empty]
  refine CallR.mono (c_codecEnc1 _ g A c (vari l.length ++ encB (l.take k)) (by omega) x ha b (hS.owns (by repeat (first | exact Spl.nil | (apply Spl.cons (by repeat (first | exact Del.head | apply Del.tail))))))) ?_
  rintro _ w4 ⟨rfl, A4, c4, hC4⟩
  replace hS := hS.frame (by repeat (first | exact Spl.nil | (apply Spl.cons (by repeat (first | exact Del.head | apply Del.tail))))) hC4 (by intro r hr g hg; simp only [List.mem_cons, List.not_mem_nil, or_false] at hr; rcases hr with rfl | rfl | rfl <;> (simp [Res.reads] at hg; done))
  simp only [List.cons_append, List.nil_append] at hS
  try simp only [opv, n1, n2, n3, n4, Value.cells]
  refine x_nil ?_
  refine hK5 _ _ ?_
  refine x_region ?_
  refine s_go (s_add (hc := by exact wr_i64 (by omega) (by omega))) ?_
  try simp only [opv, n1, n2, n3, n4, Value.cells]
  refine s_go (s_move) ?_
  try simp only [opv, n1, n2, n3, n4, Value.cells]
  refine x_nil ?_
  refine loop_back (m' := l.length - (k + 1)) (by simp only [clob, List.foldl, n1, n2, n3, n4]) ?_ ?_
  · try simp only [opv, n1, n2, n3, n4, Value.cells]
    rw [← atomOut_yes hax, hst] at hS
    exact ⟨k + 1, _, _, by omega, by omega, by rfl, hS.sel (by repeat (first | exact Sel.nil | (refine Sel.cons (by repeat (first | exact Del.head | apply Del.tail)) ?_)))⟩
  · omega
 ·
  try simp only [decide_eq_true_eq, decide_eq_false_iff_not, Bool.not_eq_true', Bool.not_eq_false', Int.not_lt, Int.not_le, ne_eq, Decidable.not_not, bne_iff_ne, beq_iff_eq, not_true_eq_false, not_false_eq_true] at hc1
  obtain rfl : k = l.length := by omega
  rw [List.take_of_length_le (Nat.le_refl _)] at hS
  refine x_exit (look_here ?_)
  refine r_none rfl ?_
  exact ⟨rfl, _, _, hS.sel (by repeat (first | exact Sel.nil | (refine Sel.cons (by repeat (first | exact Del.head | apply Del.tail)) ?_)))⟩
theorem c_codecEncode (w0 : World) (A : Option Addr) (c : Nat) (l : List (List Int)) (hr : Rd w0 A 21 l.length (arows l)) (hv : AOks l) (hn : l.length ≤ 1000000000)  :
    CallR Tryz.prog 42 #[.slice A l.length c] w0 fun v w' => ∃ A c, v = .tuple #[.slice A (encP l).1.length c, .int .i64 (encP l).2] ∧ St NoB w0 w' [.vec A c 5 1 (encP l).1.length ((encP l).1.map (Value.int .u8))] := by
 have hS := St.rd1 (S := NoB) hr
 have hno := (norm_sta hv).ok
 have hnr := (norm_sta hv).right
 have hnb := norm_len l
 have hnl := arows_len (normP l)
 have hbl := encB_len hno
 have hv10 : (normP l).length ≤ 4096 → (vari (normP l).length).length ≤ 10 := fun h => vari_len10 (by omega)
 have hal : (vari (normP l).length ++ encB (normP l)).length = (vari (normP l).length).length + (encB (normP l)).length := List.length_append
 refine c_enter (l := [.slice A l.length c, undef, undef, undef, undef, undef, undef, undef, undef, undef, undef, undef, undef, undef, undef, undef, undef, undef]) Tryz.func42 rfl (by simp only [Tryz.ntmps42, List.size_toArray, List.length_cons, List.length_nil, Nat.reduceAdd, Nat.reduceSub, Array.replicate_succ, Array.replicate_zero, List.push_toArray, List.append_toArray, List.nil_append, List.cons_append]) ?_
 refine x_seq fun K1 hK1 => ?_
 refine x_region ?_
 refine s_go (s_assign) ?_
 try simp only [opv, n1, n2, n3, n4, Value.cells]
 refine s_go (s_assign) ?_
 try simp only [opv, n1, n2, n3, n4, Value.cells]
 refine x_nil ?_
 refine hK1 _ _ ?_
 refine x_seq fun K2 hK2 => ?_
 refine x_region ?_
 refine s_go (s_move) ?_
 try simp only [opv, n1, n2, n3, n4, Value.cells]
 refine s_call en60 ?_
 try simp only [opv, n1, n2, n3, n4, Value.cells, List.map_toArray, List.map_cons, List.map_nil, List.append_toArray, List.cons_append, List.nil_append, Array.append_empty]
 refine CallR.mono (c_latNorm _ A c l (hS.hasRd (by repeat (exact Has.head))) hv hn) ?_
 rintro _ w1 ⟨Bn, cn, rfl, hC1⟩
 replace hS := hS.call hC1
 simp only [List.cons_append, List.nil_append] at hS
 replace hS := hS.vec_rd (by exact Upd.head)
 try simp only [opv, n1, n2, n3, n4, Value.cells]
 refine s_go (s_assign) ?_
 try simp only [opv, n1, n2, n3, n4, Value.cells]
 refine x_nil ?_
 refine hK2 _ _ ?_
 refine x_seq fun K3 hK3 => ?_
 refine x_seq fun K4 hK4 => ?_
 refine x_region ?_
 refine s_go (s_move) ?_
 try simp only [opv, n1, n2, n3, n4, Value.cells]
 refine s_go (s_len_sl Tryz.underlying22) ?_
 try simp only [opv, n1, n2, n3, n4, Value.cells]
 refine s_go (s_gtr) ?_
 try simp only [opv, n1, n2, n3, n4, Value.cells]
 refine x_nil ?_
 refine hK4 _ _ ?_
 refine x_cond (ht := fun hc1 => ?_) (hf := fun hc1 => ?_)
 ·
  try simp only [decide_eq_true_eq, decide_eq_false_iff_not, Bool.not_eq_true', Bool.not_eq_false', Int.not_lt, Int.not_le, ne_eq, Decidable.not_not, bne_iff_ne, beq_iff_eq, not_true_eq_false, not_false_eq_true] at hc1
  have hE : encP l = ([], 15) := if_pos (by omega)
  refine x_seq fun K5 hK5 => ?_
  refine x_region ?_
  refine s_go (s_assign) ?_
  try simp only [opv, n1, n2, n3, n4, Value.cells]
  refine s_go (s_assign) ?_
  try simp only [opv, n1, n2, n3, n4, Value.cells]
  refine x_nil ?_
  refine hK5 _ _ ?_
  refine x_ret ?_
  refine r_tmp2 rfl ?_
  exact ⟨none, 0, by rw [hE]; rfl, by rw [hE]; exact (hS.nil_vec 5 1).sel (by repeat (first | exact Sel.nil | (refine Sel.cons (by repeat (exact Del.head)) ?_)))⟩
 ·
  try simp only [decide_eq_true_eq, decide_eq_false_iff_not, Bool.not_eq_true', Bool.not_eq_false', Int.not_lt, Int.not_le, ne_eq, Decidable.not_not, bne_iff_ne, beq_iff_eq, not_true_eq_false, not_false_eq_true] at hc1
  have hE : encP l = (vari (normP l).length ++ encB (normP l), 0) := if_neg (by omega)
  refine x_skip ?_
  refine hK3 _ _ ?_
  refine x_seq fun K6 hK6 => ?_
  refine x_region ?_
  refine s_call en93 ?_
  try simp only [opv, n1, n2, n3, n4, Value.cells, List.map_toArray, List.map_cons, List.map_nil, List.append_toArray, List.cons_append, List.nil_append, Array.append_empty]
  refine CallR.mono (c_wnew _) ?_
  rintro _ w2 ⟨p, rfl, hC2⟩
  replace hS := hS.call hC2
  simp only [List.cons_append, List.nil_append] at hS
  try simp only [opv, n1, n2, n3, n4, Value.cells]
  refine m_alloc ti145 hS (fun w3 g3 hS => ?_)
  try simp only [opv, n1, n2, n3, n4, Value.cells, Array.toArray_toList] at hS ⊢
  obtain ⟨gb, hgb⟩ : ∃ z, z = g3 := ⟨_, rfl⟩
  rw [← hgb] at hS ⊢
  refine m_store_obj ti145 (hS := hS) (hc := by (exact splice_whole (by (simp [opv, Value.cells, *]; done)))) (hv := by rfl) (hfit := by (simp only [ic_size, List.length_map, List.size_toArray]; decide)) (h1 := by simp [opv, Value.cells, Value.oneCell']) (h := fun w4 hS => ?_)
  try simp only [opv, n1, n2, n3, n4, Value.cells, Array.toArray_toList] at hS ⊢
  refine x_nil ?_
  refine hK6 _ _ ?_
  refine x_seq fun K7 hK7 => ?_
  refine x_region ?_
  refine s_go (s_move) ?_
  try simp only [opv, n1, n2, n3, n4, Value.cells]
  refine s_go (m_load_obj Tryz.underlying145 (hS := hS) (hv := by rfl)) ?_
  try simp only [opv, n1, n2, n3, n4, Value.cells, List.getElem_toArray, List.getElem_cons_zero, List.getElem_cons_succ]
  refine s_go (s_makeFunc) ?_
  try simp only [opv, n1, n2, n3, n4, Value.cells, List.map_toArray, List.map_cons, List.map_nil]
  refine s_go (s_makeFunc) ?_
  try simp only [opv, n1, n2, n3, n4, Value.cells, List.map_toArray, List.map_cons, List.map_nil]
  refine s_call en94 ?_
  try simp only [opv, n1, n2, n3, n4, Value.cells, List.map_toArray, List.map_cons, List.map_nil, List.append_toArray, List.cons_append, List.nil_append, Array.append_empty]
  refine CallR.mono (c_codecWrite _ p gb Bn cn (normP l) hno hnr (by omega) (hS.owns (by repeat (first | exact Spl.nil | (apply Spl.cons (by repeat (exact Del.head))))))) ?_
  rintro _ w5 ⟨rfl, A5, c5, hC5⟩
  replace hS := hS.frame (by repeat (first | exact Spl.nil | (apply Spl.cons (by repeat (exact Del.head))))) hC5 (by intro r hr g hg; simp only [List.mem_cons, List.not_mem_nil, or_false] at hr; rcases hr with rfl | rfl | rfl <;> (simp [Res.reads] at hg; done))
  simp only [List.cons_append, List.nil_append] at hS
  try simp only [opv, n1, n2, n3, n4, Value.cells]
  refine x_nil ?_
  refine hK7 _ _ ?_
  refine x_seq fun K8 hK8 => ?_
  refine x_region ?_
  refine s_go (m_load_obj Tryz.underlying145 (hS := hS) (hv := by rfl)) ?_
  try simp only [opv, n1, n2, n3, n4, Value.cells, List.getElem_toArray, List.getElem_cons_zero, List.getElem_cons_succ]
  refine s_call en98 ?_
  try simp only [opv, n1, n2, n3, n4, Value.cells, List.map_toArray, List.map_cons, List.map_nil, List.append_toArray, List.cons_append, List.nil_append, Array.append_empty]
  refine CallR.mono (c_wout _ p _ _ (vari (normP l).length ++ encB (normP l)) (by omega) (hS.owns (by repeat (first | exact Spl.nil | (apply Spl.cons (by repeat (exact Del.head))))))) ?_
  rintro _ w6 ⟨A6, c6, rfl, hC6⟩
  replace hS := hS.frame (by repeat (first | exact Spl.nil | (apply Spl.cons (by repeat (exact Del.head))))) hC6 (by intro r hr g hg; simp only [List.mem_cons, List.not_mem_nil, or_false] at hr; rcases hr with rfl | rfl | rfl <;> (simp [Res.reads] at hg; done))
  simp only [List.cons_append, List.nil_append] at hS
  try simp only [opv, n1, n2, n3, n4, Value.cells]
  refine s_go (s_assign) ?_
  try simp only [opv, n1, n2, n3, n4, Value.cells]
  refine s_go (s_assign) ?_
  try simp only [opv, n1, n2, n3, n4, Value.cells]
  refine x_nil ?_
  refine hK8 _ _ ?_
  refine x_ret ?_
  refine r_tmp2 rfl ?_
  rw [hE]
  exact ⟨_, _, rfl, hS.sel (by repeat (first | exact Sel.nil | (refine Sel.cons (by repeat (exact Del.head)) ?_)))⟩
theorem c_codecSize (w0 : World) (A : Option Addr) (c : Nat) (l : List (List Int)) (hr : Rd w0 A 21 l.length (arows l)) (hv : AOks l) (hn : l.length ≤ 1000000000)  :
    CallR Tryz.prog 47 #[.slice A l.length c] w0 fun v w' => v = .int .i64 ((encP l).1.length : Int) ∧ Ext w0 w' := by
 have hS := St.rd1 (S := NoB) hr
 refine c_enter (l := [.slice A l.length c, undef, undef, undef, undef, undef, undef, undef, undef, undef, undef, undef]) Tryz.func47 rfl (by simp only [Tryz.ntmps47, List.size_toArray, List.length_cons, List.length_nil, Nat.reduceAdd, Nat.reduceSub, Array.replicate_succ, Array.replicate_zero, List.push_toArray, List.append_toArray, List.nil_append, List.cons_append]) ?_
 refine x_seq fun K1 hK1 => ?_
 refine x_region ?_
 refine s_go (s_assign) ?_
 try simp only [opv, n1, n2, n3, n4, Value.cells]
 refine x_nil ?_
 refine hK1 _ _ ?_
 refine x_seq fun K2 hK2 => ?_
 refine x_region ?_
 refine s_go (s_move) ?_
 try simp only [opv, n1, n2, n3, n4, Value.cells]
 refine s_call en42 ?_
 try simp only [opv, n1, n2, n3, n4, Value.cells, List.map_toArray, List.map_cons, List.map_nil, List.append_toArray, List.cons_append, List.nil_append, Array.append_empty]
 refine CallR.mono (c_codecEncode _ A c l (hS.hasRd (by repeat (exact Has.head))) hv hn) ?_
 rintro _ w1 ⟨A1, c1, rfl, hC1⟩
 replace hS := hS.call hC1
 simp only [List.cons_append, List.nil_append] at hS
 try simp only [opv, n1, n2, n3, n4, Value.cells]
 refine s_go (s_move) ?_
 try simp only [opv, n1, n2, n3, n4, Value.cells]
 refine s_go (s_extract (hv := rfl)) ?_
 try simp only [List.getElem_toArray, List.getElem_cons_zero, List.getElem_cons_succ]
 try simp only [opv, n1, n2, n3, n4, Value.cells]
 refine s_go (s_extract (hv := rfl)) ?_
 try simp only [List.getElem_toArray, List.getElem_cons_zero, List.getElem_cons_succ]
 try simp only [opv, n1, n2, n3, n4, Value.cells]
 refine s_go (s_assign) ?_
 try simp only [opv, n1, n2, n3, n4, Value.cells]
 refine s_go (s_assign) ?_
 try simp only [opv, n1, n2, n3, n4, Value.cells]
 refine x_nil ?_
 refine hK2 _ _ ?_
 refine x_seq fun K3 hK3 => ?_
 refine x_region ?_
 refine s_go (s_move) ?_
 try simp only [opv, n1, n2, n3, n4, Value.cells]
 refine s_go (s_len_sl Tryz.underlying73) ?_
 try simp only [opv, n1, n2, n3, n4, Value.cells]
 refine s_go (s_assign) ?_
 try simp only [opv, n1, n2, n3, n4, Value.cells]
 refine x_nil ?_
 refine hK3 _ _ ?_
 refine x_ret ?_
 refine r_tmp rfl ?_
 exact ⟨rfl, hS.ext_of⟩
theorem c_codecRows (w0 : World) (A : Option Addr) (c : Nat) (l : List (List Int)) (hr : Rd w0 A 21 l.length (arows l)) (hv : AOks l) (hn : l.length ≤ 1000000000)  :
    CallR Tryz.prog 44 #[.slice A l.length c] w0 fun v w' => ∃ A c, v = .tuple #[.slice A (rowP l).1.length c, .int .i64 (rowP l).2] ∧ St NoB w0 w' [.vec A c 5 1 (rowP l).1.length ((rowP l).1.map (Value.int .u8))] := by
 have hS := St.rd1 (S := NoB) hr
 refine c_enter (l := [.slice A l.length c, undef, undef, undef, undef, undef, undef, undef, undef, undef, undef, undef, undef, undef, undef, undef, undef, undef, undef, undef]) Tryz.func44 rfl (by simp only [Tryz.ntmps44, List.size_toArray, List.length_cons, List.length_nil, Nat.reduceAdd, Nat.reduceSub, Array.replicate_succ, Array.replicate_zero, List.push_toArray, List.append_toArray, List.nil_append, List.cons_append]) ?_
 refine x_seq fun K1 hK1 => ?_
 refine x_region ?_
 refine s_go (s_assign) ?_
 try simp only [opv, n1, n2, n3, n4, Value.cells]
 refine s_go (s_assign) ?_
 try simp only [opv, n1, n2, n3, n4, Value.cells]
 refine x_nil ?_
 refine hK1 _ _ ?_
 refine x_seq fun K2 hK2 => ?_
 refine x_region ?_
 refine s_go (s_move) ?_
 try simp only [opv, n1, n2, n3, n4, Value.cells]
 refine s_call en42 ?_
 try simp only [opv, n1, n2, n3, n4, Value.cells, List.map_toArray, List.map_cons, List.map_nil, List.append_toArray, List.cons_append, List.nil_append, Array.append_empty]
 refine CallR.mono (c_codecEncode _ A c l (hS.hasRd (by repeat (exact Has.head))) hv hn) ?_
 rintro _ w1 ⟨A1, c1, rfl, hC1⟩
 replace hS := hS.call hC1
 simp only [List.cons_append, List.nil_append] at hS
 try simp only [opv, n1, n2, n3, n4, Value.cells]
 refine s_go (s_move) ?_
 try simp only [opv, n1, n2, n3, n4, Value.cells]
 refine s_go (s_extract (hv := rfl)) ?_
 try simp only [List.getElem_toArray, List.getElem_cons_zero, List.getElem_cons_succ]
 try simp only [opv, n1, n2, n3, n4, Value.cells]
 refine s_go (s_extract (hv := rfl)) ?_
 try simp only [List.getElem_toArray, List.getElem_cons_zero, List.getElem_cons_succ]
 try simp only [opv, n1, n2, n3, n4, Value.cells]
 refine s_go (s_assign) ?_
 try simp only [opv, n1, n2, n3, n4, Value.cells]
 refine s_go (s_assign) ?_
 try simp only [opv, n1, n2, n3, n4, Value.cells]
 refine x_nil ?_
 refine hK2 _ _ ?_
 refine x_seq fun K3 hK3 => ?_
 refine x_seq fun K4 hK4 => ?_
 refine x_region ?_
 refine s_go (s_move) ?_
 try simp only [opv, n1, n2, n3, n4, Value.cells]
 refine s_go (s_eql) ?_
 try simp only [opv, n1, n2, n3, n4, Value.cells]
 refine s_go (s_move) ?_
 try simp only [opv, n1, n2, n3, n4, Value.cells]
 refine s_part 13 rfl (fun hp1 => ?_) (fun hp1 => ?_)
 ·
  try simp only [n3, n4]
  try simp only [decide_eq_true_eq, decide_eq_false_iff_not, Bool.not_eq_true', Bool.not_eq_false', Int.not_lt, Int.not_le, ne_eq, Decidable.not_not] at hp1
  have hE0 : (encP l).2 = 0 := by simpa using hp1
  refine g_on (yi (t := 13) rfl rfl) ?_
  refine s_go (s_move) ?_
  try simp only [opv, n1, n2, n3, n4, Value.cells]
  refine g_on (yi (t := 13) rfl rfl) ?_
  refine s_call en101 ?_
  try simp only [opv, n1, n2, n3, n4, Value.cells, List.map_toArray, List.map_cons, List.map_nil, List.append_toArray, List.cons_append, List.nil_append, Array.append_empty]
  refine CallR.mono (c_latRight _ A c l (hS.hasRd (by repeat (first | exact Has.head | apply Has.tail))) hv hn) ?_
  rintro _ w2 ⟨rfl, hE2⟩
  replace hS := hS.ext hE2
  try simp only [opv, n1, n2, n3, n4, Value.cells]
  refine g_on (yi (t := 13) rfl rfl) ?_
  refine s_go (s_not) ?_
  try simp only [opv, n1, n2, n3, n4, Value.cells]
  refine s_go (s_pick_t) ?_
  try simp only [opv, n1, n2, n3, n4, Value.cells]
  refine x_nil ?_
  refine hK4 _ _ ?_
  refine x_cond (ht := fun hc1 => ?_) (hf := fun hc1 => ?_)
  ·
   try simp only [decide_eq_true_eq, decide_eq_false_iff_not, Bool.not_eq_true', Bool.not_eq_false', Int.not_lt, Int.not_le, ne_eq, Decidable.not_not, bne_iff_ne, beq_iff_eq, not_true_eq_false, not_false_eq_true] at hc1
   try have hE : rowP l = ([], 3) := if_pos ⟨hE0, by simpa using hc1⟩
   refine x_seq fun K5 hK5 => ?_
   refine x_region ?_
   refine s_go (s_assign) ?_
   try simp only [opv, n1, n2, n3, n4, Value.cells]
   refine s_go (s_assign) ?_
   try simp only [opv, n1, n2, n3, n4, Value.cells]
   refine x_nil ?_
   refine hK5 _ _ ?_
   refine x_ret ?_
   refine r_tmp2 rfl ?_
   exact ⟨none, 0, by rw [hE]; rfl, by rw [hE]; exact (hS.nil_vec 5 1).sel (by repeat (first | exact Sel.nil | (refine Sel.cons (by repeat (exact Del.head)) ?_)))⟩
  ·
   try simp only [decide_eq_true_eq, decide_eq_false_iff_not, Bool.not_eq_true', Bool.not_eq_false', Int.not_lt, Int.not_le, ne_eq, Decidable.not_not, bne_iff_ne, beq_iff_eq, not_true_eq_false, not_false_eq_true] at hc1
   have hE : rowP l = encP l := by exact if_neg (fun h => by have := h.2; simp_all)
   refine x_skip ?_
   refine hK3 _ _ ?_
   refine x_seq fun K6 hK6 => ?_
   refine x_region ?_
   refine s_go (s_move) ?_
   try simp only [opv, n1, n2, n3, n4, Value.cells]
   refine s_go (s_move) ?_
   try simp only [opv, n1, n2, n3, n4, Value.cells]
   refine s_go (s_assign) ?_
   try simp only [opv, n1, n2, n3, n4, Value.cells]
   refine s_go (s_assign) ?_
   try simp only [opv, n1, n2, n3, n4, Value.cells]
   refine x_nil ?_
   refine hK6 _ _ ?_
   refine x_ret ?_
   refine r_tmp2 rfl ?_
   rw [hE]
   exact ⟨_, _, rfl, hS.sel (by repeat (first | exact Sel.nil | (refine Sel.cons (by repeat (exact Del.head)) ?_)))⟩
 ·
  try simp only [n3, n4]
  try simp only [decide_eq_true_eq, decide_eq_false_iff_not, Bool.not_eq_true', Bool.not_eq_false', Int.not_lt, Int.not_le, ne_eq, Decidable.not_not] at hp1
  have hE0 : ¬ (encP l).2 = 0 := by simpa using hp1
  refine g_off (yi (t := 13) rfl rfl) ?_
  try simp only [opv, n1, n2, n3, n4, Value.cells]
  refine g_off (yi (t := 13) rfl rfl) ?_
  try simp only [opv, n1, n2, n3, n4, Value.cells]
  refine g_off (yi (t := 13) rfl rfl) ?_
  try simp only [opv, n1, n2, n3, n4, Value.cells]
  refine s_go (s_pick_f) ?_
  try simp only [opv, n1, n2, n3, n4, Value.cells]
  refine x_nil ?_
  refine hK4 _ _ ?_
  refine x_cond_f (h := ?_)
  have hE : rowP l = encP l := by exact if_neg (fun h => hE0 h.1)
  refine x_skip ?_
  refine hK3 _ _ ?_
  refine x_seq fun K7 hK7 => ?_
  refine x_region ?_
  refine s_go (s_move) ?_
  try simp only [opv, n1, n2, n3, n4, Value.cells]
  refine s_go (s_move) ?_
  try simp only [opv, n1, n2, n3, n4, Value.cells]
  refine s_go (s_assign) ?_
  try simp only [opv, n1, n2, n3, n4, Value.cells]
  refine s_go (s_assign) ?_
  try simp only [opv, n1, n2, n3, n4, Value.cells]
  refine x_nil ?_
  refine hK7 _ _ ?_
  refine x_ret ?_
  refine r_tmp2 rfl ?_
  rw [hE]
  exact ⟨_, _, rfl, hS.sel (by repeat (first | exact Sel.nil | (refine Sel.cons (by repeat (exact Del.head)) ?_)))⟩
end Go.Proofs.YtffmanidnlbjjaaGreat
set_option linter.unusedSimpArgs false
set_option linter.unusedVariables false
namespace Go.Proofs.YtffmanidnlbjjaaGreat
open Go.RowKit
section
variable {P : Program} {ops : Array Oper} {n rr : Act → World → Prop} {ex : List (Nat × (Act → World → Prop))} {ds : List Deferred} {r : Option Nat} {l : List Value} {w : World} {rest : List Oper} {d : Nat} {ty : TypeId} {pos : String} {aft : Array Edge}
theorem y_yield_g {t lp : Nat} {args : Array Operand} {tys : Array TypeId} {g : Nat × Bool} (hg : yielded ops (l.toArray) g.1 = some g.2) (hv : l.getD t undef = .func (.yield lp) #[] #[]) (h : YC P lp (args.map (opv l)) w fun v w'' => WY none P ops (Qx n rr ex) rest (frd ds (l.set d v)) w'') :
    WY none P ops (Qx n rr ex) (⟨some d, .call { callee := .value (.tmp t), args := args, argTypes := tys }, ty, pos, aft, some g⟩ :: rest) (frd ds l) w := by
  obtain ⟨f, tmps, asg, bd, h1, h2⟩ := h
  refine ⟨?_⟩
  unfold wpLi
  rw [if_pos (show Region.wanted _ (yielded ops (frd ds l).tmps) = true from w_on hg)]
  refine ⟨fun f _ => trivial, ?_⟩
  rw [Oper.semAt_eq _ _ _ (fun c e => by cases e), eval_frd]
  have hv' : opv l (.tmp t) = .func (.yield lp) #[] #[] := hv
  have hr : (execOp (opv l) ⟨some d, .call { callee := .value (.tmp t), args := args, argTypes := tys }, ty, pos, aft, some g⟩).run P w = .ok (.round lp f tmps asg bd) w := by
    simp [execOp, resolve, hv', Deferred.ofValue, invoke, h1]
  rw [hr, Oper.uponIn_round]
  refine ⟨fw_depth _, h2.mono ?_⟩
  rintro e w' ⟨v, rfl, q⟩
  show wpLi none P ops (Qx n rr ex) rest ((frd ds l).put (some d) v) w'
  rw [put_frd]; exact q.run
theorem y_off {op : Op} {g : Nat × Bool} (hg : yielded ops (l.toArray) g.1 = some (!g.2)) (h : WY r P ops (Qx n rr ex) rest (frd ds (l.set d undef)) w) : WY r P ops (Qx n rr ex) (⟨some d, op, ty, pos, aft, some g⟩ :: rest) (frd ds l) w := by
  refine ⟨?_⟩
  unfold wpLi
  rw [if_neg (show ¬ Region.wanted _ (yielded ops (frd ds l).tmps) = true by simp [Region.wanted, frd, hg])]
  show wpLi r P ops (Qx n rr ex) rest ((frd ds l).put (some d) undef) w
  rw [put_frd]; exact h.run
end
/-- an iterator that hands out, at each call of yield, what it needs -/
def IterX (P : Program) (gf : Nat) (lb : Array Value) (N : Nat) (es : Nat → List Value) (M : List Res) (J JN : List Res → Prop) : Prop :=
  ∀ (lp : Nat) (I O : Nat → World → List Res → Prop), (∀ k, ClI (I k)) → (∀ k, ClI (O k)) →
    (∀ k W L, k < N → J L → I k W L → YC P lp (es k).toArray W fun v W' => (v = .bool true ∧ I (k + 1) W' L) ∨ (v = .bool false ∧ O k W' [])) →
    ∀ w, I 0 w M → CallR P gf (#[.func (.yield lp) #[] #[]] ++ lb) w fun _ w' => (∃ L', JN L' ∧ I N w' L') ∨ ∃ k, O k w' []
theorem perm_in (R L : List Res) (a b : Res) : (R ++ ([a, b] ++ L)).Perm ((R ++ L) ++ [a, b]) := by
  rw [List.append_assoc]; exact List.Perm.append_left _ List.perm_append_comm
theorem perm_dn (R L : List Res) (a b : Res) : (R ++ ([a, b] ++ L)).Perm (b :: ((R ++ L) ++ [a])) := by
  refine (perm_in R L a b).trans ?_
  rw [show (R ++ L) ++ [a, b] = ((R ++ L) ++ [a]) ++ [b] by simp]
  exact List.perm_append_comm
/-- at a round's end: the caller's, and the iterator's as it was -/
def CX (C : List Res → Prop) (Lk : List Res) (X : List Res) : Prop := ∃ R, C R ∧ X = R ++ Lk
section
variable {P : Program} {n rr : Act → World → Prop} {ex : List (Nat × (Act → World → Prop))} {ds : List Deferred} {l : List Value} {w w0 : World} {S : Nat → Prop} {L : List Res}
theorem y_rangeX {gt : Operand} {ps : Array Tmp} {assign body : Code} {gf : Nat} {lb : Array Value} {N : Nat} {es : Nat → List Value} {M R : List Res} {J JN : List Res → Prop}
    (hg : opv l gt = .func (.func gf) #[] lb) (he : Enters P gf) (hI : IterX P gf lb N es M J JN) (hps : ∀ k, (es k).length = ps.size)
    (hS : St S w0 w L) (hs : Spl M L R) (C : Nat → List Res → Prop) (Xr : List Res → Prop) (exs : List (Nat × (List Res → Prop))) (h0 : C 0 R)
    (hround : ∀ (k : Nat) (W : World) (R Lk T : List Res) (lr : Nat), k < N → C k R → J Lk → St S w0 W ((R ++ Lk) ++ T) →
      assign.wpIn (Fw (some lr)) 0 P (Qx (AsgK S w0 T (fun a1 W2 T2 =>
        body.wpIn (Fw (some lr)) 0 P (Qx (StK S w0 (CX (C (k + 1)) Lk) T2) (StK S w0 Xr T2) (exs.map fun p => (p.1, StK S w0 p.2 T2))) a1 W2)) (fun _ _ => False) []) (frd [] (entL l ps.toList (es k))) W)
    (hdone : ∀ D T W R' L', C N R' → JN L' → St S w0 W (.obj D (.deferred (some [])) :: ((R' ++ L') ++ T)) → n (frd (mkD D :: ds) l) W)
    (hret : ∀ D T W R', Xr R' → St S w0 W (.obj D (.deferred (some [])) :: (R' ++ T)) → rr (frd (mkD D :: ds) l) W)
    (hex : ∀ p ∈ exs, ∀ D T W R', p.2 R' → St S w0 W (.obj D (.deferred (some [])) :: (R' ++ T)) → look p.1 ex (frd (mkD D :: ds) l) W) :
    (Code.rangeFunc gt ps assign body).wpIn (Fw none) 0 P (Qx n rr ex) (frd ds l) w := by
  refine wpIn_rangeFunc ?_
  intro fn _
  show ∃ _, _
  obtain ⟨rec, hrec⟩ : ∃ rec : LoopState → Option Code → Loop, rec = fun st pe => { state := st, pending := pe, fn, tmps := l.toArray, params := ps, assign, body, defers := w.heap.size } := ⟨_, rfl⟩
  obtain ⟨D, hD⟩ : ∃ D, D = w.heap.size := ⟨_, rfl⟩
  obtain ⟨W1, hW1⟩ : ∃ W1, (w.alloc (.deferred (some []))).alloc (.loop (rec .ready none)) = W1 := ⟨_, rfl⟩
  have hS1 : St S w0 W1 (.obj (D + 1) (.loop (rec .ready none)) :: .obj D (.deferred (some [])) :: L) := by
    have := (hS.alloc (.deferred (some []))).alloc (.loop (rec .ready none))
    rw [World.size_alloc, hW1, ← hD] at this
    exact this
  have hI0 : StX S w0 (C 0) (.obj (D + 1) (.loop (rec .ready none)) :: .obj D (.deferred (some [])) :: M) W1 := by
    refine ⟨R, h0, hS1.perm ?_⟩
    refine (((hs.perm.trans List.perm_append_comm).cons _).cons _).trans ?_
    exact (((List.perm_middle (l₁ := R) (l₂ := .obj D (.deferred (some [])) :: M) (a := .obj (D + 1) (.loop (rec .ready none)))).trans ((List.perm_middle (l₁ := R) (l₂ := M) (a := .obj D (.deferred (some [])))).cons _)).symm)
  refine ⟨D + 1, [mkD D], W1, { target := .fn (.func gf) lb, args := #[.func (.yield (D + 1)) #[] #[]] }, W1, gf, #[.func (.yield (D + 1)) #[] #[]] ++ lb, W1, ?_, ?_, fun _ _ => trivial, ?_, fw_depth _, ?_⟩
  · rw [← hW1, hrec, hD]; exact run_enterLoop_outer _ _ _ _ _
  · have hg' : (frd ds l).eval gt = .func (.func gf) #[] lb := by rw [eval_frd]; exact hg
    simp only [resolve, hg']
    simp [go_sem]
  · have := he (#[.func (.yield (D + 1)) #[] #[]] ++ lb) W1
    simp [invoke, go_sem, this]
  · have hc := hI (D + 1) (fun k W Lk => StX S w0 (C k) ([.obj (D + 1) (.loop (rec .ready none)), .obj D (.deferred (some []))] ++ Lk) W)
      (fun k W Lk => StX S w0 Xr ([.obj (D + 1) (.loop (rec .done (some .ret))), .obj D (.deferred (some []))] ++ Lk) W ∨ ∃ p, ∃ _ : p ∈ exs, StX S w0 p.2 ([.obj (D + 1) (.loop (rec .done (some (.exit p.1)))), .obj D (.deferred (some []))] ++ Lk) W)
      (fun k => StX.clI _ _) (fun k => (StX.clI _ _).or (ClI.ex fun p => ClI.ex fun _ => StX.clI _ _)) ?_ W1 hI0
    · refine (callsIn_fw (r := none) (k := 0) hc).mono ?_
      rintro e W2 ⟨v, rfl, ⟨L', hJ, hq⟩ | ⟨k, hq | ⟨p, hp, hq⟩⟩⟩
      · obtain ⟨hq2, hl⟩ := hq.put (.loop { rec .ready none with state := .exhausted })
        refine ⟨none, _, run_endLoop_p hl (by rw [hrec]; simp) (by rw [hrec]), ?_⟩
        obtain ⟨R', hC, h⟩ := hq2
        exact hdone D _ _ R' L' hC hJ (h.perm (perm_dn R' L' _ _))
      · obtain ⟨hq2, hl⟩ := hq.put (.loop { rec .done (some .ret) with state := .exhausted })
        refine ⟨some .ret, _, run_endLoop_p hl (by rw [hrec]; simp) (by rw [hrec]), ?_⟩
        obtain ⟨R', hC, h⟩ := hq2
        exact y_ret (hret D _ _ R' hC (h.perm ((List.perm_append_comm.trans (.swap _ _ _)).trans (List.Perm.cons _ (List.perm_append_comm (l₁ := [_]))))))
      · obtain ⟨hq2, hl⟩ := hq.put (.loop { rec .done (some (.exit p.1)) with state := .exhausted })
        refine ⟨some (.exit p.1), _, run_endLoop_p hl (by rw [hrec]; simp) (by rw [hrec]), ?_⟩
        obtain ⟨R', hC, h⟩ := hq2
        exact y_exit (hex p hp D _ _ R' hC (h.perm ((List.perm_append_comm.trans (.swap _ _ _)).trans (List.Perm.cons _ (List.perm_append_comm (l₁ := [_]))))))
    · rintro k W Lk hk hJ hq
      have hl : W.heap[D + 1]? = some (.loop (rec .ready none)) := (hq.put (.loop (rec .ready none))).2
      obtain ⟨Rk, hCk, hSk⟩ := hq
      have hy := run_yield (P := P) (args := (es k).toArray) hl (by rw [hrec]; simpa using hps k)
      rw [hrec] at hy
      simp only [entL_arr] at hy
      refine ⟨fn, _, assign, body, hy, roundIn_of_wpIn trivial ?_⟩
      refine wpIn_mono (hround k W Rk Lk _ (D + 1) hk hCk hJ (hSk.perm (perm_in Rk Lk _ _))) ?_
      rintro e a1 W2 q
      cases e with
      | normal =>
        obtain ⟨R1, hS2, hb⟩ := q
        obtain ⟨⟨R2, hR2, hS3⟩, hl2⟩ := StX.put (X := fun x => x = R1) (.loop { rec .ready none with state := .busy }) ⟨R1, rfl, hS2⟩
        subst hR2
        refine ⟨_, run_beginRound hl2 (by rw [hrec]), wpIn_mono (hb _ _ hS3) ?_⟩
        rintro e a3 W3 q3
        cases e with
        | normal =>
          obtain ⟨q4, hl4⟩ := StX.put (.loop (rec .ready none)) q3
          exact ⟨_, _, run_endRound none hl4, .bool true, rfl, .inl ⟨rfl, by obtain ⟨X, ⟨R', hC', rfl⟩, h9⟩ := q4; exact ⟨R', hC', by have := h9.perm (perm_in R' Lk _ _).symm; rw [hrec] at this ⊢; exact this⟩⟩⟩
        | ret =>
          obtain ⟨q4, hl4⟩ := StX.put (.loop (rec .done (some .ret))) q3
          exact ⟨_, _, run_endRound (some .ret) hl4, .bool false, rfl, .inr ⟨rfl, .inl (by have := q4; rw [hrec] at this ⊢; exact this)⟩⟩
        | exit i =>
          have hlk : ∃ p ∈ exs, p.1 = i ∧ StX S w0 p.2 (.obj (D + 1) (.loop { rec .ready none with state := .busy }) :: .obj D (.deferred (some [])) :: []) W3 := by
            have : ∀ (exs : List (Nat × (List Res → Prop))), look i (exs.map fun p => (p.1, StK S w0 p.2 (.obj (D + 1) (.loop { rec .ready none with state := .busy }) :: .obj D (.deferred (some [])) :: []))) a3 W3 → ∃ p ∈ exs, p.1 = i ∧ StX S w0 p.2 (.obj (D + 1) (.loop { rec .ready none with state := .busy }) :: .obj D (.deferred (some [])) :: []) W3 := by
              intro exs
              induction exs with
              | nil => intro h; exact h.elim
              | cons p exs ih =>
                intro h
                simp only [List.map_cons, look] at h
                split at h
                · next e => exact ⟨p, by simp, e.symm, h⟩
                · obtain ⟨p', hp', h'⟩ := ih h; exact ⟨p', by simp [hp'], h'⟩
            exact this exs q3
          obtain ⟨p, hp, rfl, q5⟩ := hlk
          obtain ⟨q4, hl4⟩ := StX.put (.loop (rec .done (some (.exit p.1)))) q5
          exact ⟨_, _, run_endRound (some (.exit p.1)) hl4, .bool false, rfl, .inr ⟨rfl, .inr ⟨p, hp, by have := q4; rw [hrec] at this ⊢; exact this⟩⟩⟩
        | goto i => exact q3.elim
        | panic ch => exact q3.elim
        | outgrown => exact q3.elim
      | exit i => exact q.elim
      | goto i => exact q.elim
      | ret => exact q.elim
      | panic ch => exact q.elim
      | outgrown => exact q.elim
end
end Go.Proofs.YtffmanidnlbjjaaGreat
namespace Go.Proofs.YtffmanidnlbjjaaGreat
theorem oneS_inv {e : Int} {xs : List Int} (h : (oneS e xs).2.1 = 0) : e = 0 ∧ xs = (oneS e xs).1 :: (oneS e xs).2.2 := by
  unfold oneS at h ⊢
  split
  · next he =>
    rw [if_pos he] at h
    split
    · next h1 =>
      refine ⟨he, ?_⟩
      match xs, h1 with
      | x :: l, _ => rfl
    · next h1 => rw [if_neg h1] at h; cases h
  · next he => rw [if_neg he] at h; exact absurd h he
theorem numS_inv {m : Nat} {e : Int} {xs : List Int} (hb : Byt xs) (h : (numS m e xs).2.1 = 0) : e = 0 ∧ xs = vari (numS m e xs).1 ++ (numS m e xs).2.2 := by
  unfold numS at h ⊢
  split
  · next he =>
    rw [if_pos he] at h
    split
    · next h1 =>
      rw [if_pos h1] at h
      split
      · next h2 =>
        refine ⟨he, ?_⟩
        obtain ⟨h3, h4⟩ := unvar_back hb h1
        show xs = vari (unvar xs).1 ++ xs.drop (unvar xs).2.1
        rw [h4, List.take_append_drop]
      · next h2 => rw [if_neg h2] at h; cases h
    · next h1 => rw [if_neg h1] at h; exact absurd (by simpa using h) h1
  · next he => rw [if_neg he] at h; exact absurd h he
end Go.Proofs.YtffmanidnlbjjaaGreat
set_option linter.unusedSimpArgs false
set_option linter.unusedVariables false
set_option maxHeartbeats 2000000
set_option maxRecDepth 100000
namespace Go.Proofs.YtffmanidnlbjjaaGreat
open Go.RowKit

theorem mkV_ok {n : Nat} {t : List Int} (hn : n < 18446744073709551616) (ht : t.length = 8) (hb : Byt t) : ValOk (mkV n t) := ⟨mkV_len ht, rfl, hn, hb⟩
theorem failS_ok {b : Bool} {e2 : Int} {s : Int × List Int} (h : ErrOk s.1 s.2) : ErrOk (failS b e2 s).1 (failS b e2 s).2 := by
  unfold failS
  split
  · intro h2; dsimp only at h2 ⊢; rw [if_neg h2]
  · exact h
section
variable {s : Nat} {e : Int} {xs : List Int}
theorem valP_val (hb : Byt xs) : ValOk (valP s e xs).1 := by
  have hv := oneS_val (e := e) hb
  have h2 := numS_le 4294967295 e xs
  have h4 := numS_le 1099511627775 e xs
  unfold valP
  split
  · exact mkV_ok (by omega) rfl nm0_byt
  · split
    · exact mkV_ok (by omega) rfl nm0_byt
    · split
      · exact mkV_ok (by omega) (namS_len _ _) (namS_byt (failS_byt (numS_byt hb)))
      · exact mkV_ok (by decide) rfl nm0_byt
theorem valP_byt (hb : Byt xs) : Byt (valP s e xs).2.2 := by
  unfold valP
  split
  · exact failS_byt (oneS_byt hb)
  · split
    · exact failS_byt (numS_byt hb)
    · split
      · exact namS_byt' (failS_byt (numS_byt hb))
      · exact hb
theorem valP_len2 : (valP s e xs).2.2.length ≤ xs.length := by
  unfold valP
  split
  · exact Nat.le_trans failS_len (oneS_len _ _)
  · split
    · exact Nat.le_trans failS_len (numS_len _ _ _)
    · split
      · exact Nat.le_trans (namS_len' _ _) (Nat.le_trans failS_len (numS_len _ _ _))
      · exact Nat.le_refl _
theorem valP_ok3 (h : ErrOk e xs) : ErrOk (valP s e xs).2.1 (valP s e xs).2.2 := by
  unfold valP
  split
  · exact failS_ok (oneS_ok h)
  · split
    · exact failS_ok (numS_ok h)
    · split
      · exact namS_ok (failS_ok (numS_ok h))
      · exact h
theorem atmS_st : (atmS e xs).2 = (valP (kn (keyS e xs).1 0) (keyS e xs).2.1 (keyS e xs).2.2).2 ∨ (atmS e xs).2 = (keyS e xs).2 := by
  by_cases h : (keyS e xs).2.1 = 0
  · by_cases h2 : (valP (kn (keyS e xs).1 0) (keyS e xs).2.1 (keyS e xs).2.2).2.1 = 0
    · rw [atmS_yes h h2]; exact .inl rfl
    · rw [atmS_no h h2]; exact .inl rfl
  · rw [atmS_key h]; exact .inr rfl
theorem atmS_byt (hb : Byt xs) : Byt (atmS e xs).2.2 := by
  rcases atmS_st (e := e) (xs := xs) with h | h <;> rw [h]
  · exact valP_byt (keyS_byt hb)
  · exact keyS_byt hb
theorem atmS_len2 : (atmS e xs).2.2.length ≤ xs.length := by
  rcases atmS_st (e := e) (xs := xs) with h | h <;> rw [h]
  · exact Nat.le_trans valP_len2 keyS_len
  · exact keyS_len
theorem atmS_ok3 (hb : ErrOk e xs) : ErrOk (atmS e xs).2.1 (atmS e xs).2.2 := by
  rcases atmS_st (e := e) (xs := xs) with h | h <;> rw [h]
  · exact valP_ok3 (keyS_ok hb)
  · exact keyS_ok hb
theorem atmS_atom (hb : Byt xs) (h0 : (atmS e xs).2.1 = 0) : AtomOk (atmS e xs).1 := by
  by_cases h : (keyS e xs).2.1 = 0
  · by_cases h2 : (valP (kn (keyS e xs).1 0) (keyS e xs).2.1 (keyS e xs).2.2).2.1 = 0
    · rw [atmS_yes h h2]; exact kv_ok (keyS_key hb) (valP_val (keyS_byt hb))
    · rw [atmS_no h h2] at h0; exact absurd h0 h2
  · rw [atmS_key h] at h0; exact absurd h0 h
end
theorem atmS_l21 (e : Int) {xs : List Int} (hw : Byt xs) : (atmS e xs).1.length = 21 := by
  have hk := keyS_l12 e hw
  by_cases h : (keyS e xs).2.1 = 0
  · by_cases h2 : (valP (kn (keyS e xs).1 0) (keyS e xs).2.1 (keyS e xs).2.2).2.1 = 0
    · rw [atmS_yes h h2]
      show ((keyS e xs).1 ++ (valP _ _ _).1).length = 21
      rw [List.length_append, hk, valP_len]
    · rw [atmS_no h h2]; rfl
  · rw [atmS_key h]; rfl
/-- up to n atoms that come, and where reading stands behind them -/
def rdA : Nat → Int → List Int → List (List Int) × Int × List Int
  | 0, e, xs => ([], e, xs)
  | n + 1, e, xs => if (atmS e xs).2.1 = 0 then ((atmS e xs).1 :: (rdA n (atmS e xs).2.1 (atmS e xs).2.2).1, (rdA n (atmS e xs).2.1 (atmS e xs).2.2).2) else ([], (atmS e xs).2)
section
variable {e : Int} {xs : List Int} {n : Nat}
theorem rdA_ok (h : (atmS e xs).2.1 = 0) : rdA (n + 1) e xs = ((atmS e xs).1 :: (rdA n (atmS e xs).2.1 (atmS e xs).2.2).1, (rdA n (atmS e xs).2.1 (atmS e xs).2.2).2) := by rw [rdA, if_pos h]
theorem rdA_no (h : ¬ (atmS e xs).2.1 = 0) : rdA (n + 1) e xs = ([], (atmS e xs).2) := by rw [rdA, if_neg h]
end
theorem rdA_len : ∀ {n : Nat} {e : Int} {xs : List Int}, (rdA n e xs).1.length ≤ n
  | 0, _, _ => Nat.le_refl _
  | n + 1, e, xs => by
    by_cases h : (atmS e xs).2.1 = 0
    · rw [rdA_ok h]; exact Nat.succ_le_succ rdA_len
    · rw [rdA_no h]; exact Nat.zero_le _
theorem rdA_aok : ∀ {n : Nat} {e : Int} {xs : List Int}, Byt xs → AOks (rdA n e xs).1
  | 0, _, _, _ => AOks.nil
  | n + 1, e, xs, hb => by
    by_cases h : (atmS e xs).2.1 = 0
    · rw [rdA_ok h]
      intro a ha
      rcases List.mem_cons.1 ha with rfl | ha
      · exact atmS_atom hb h
      · exact rdA_aok (atmS_byt hb) a ha
    · rw [rdA_no h]; exact AOks.nil
/-- k of n atoms have come -/
structure RdsI (n : Nat) (e0 : Int) (xs0 : List Int) (k : Nat) (pre : List (List Int)) (e : Int) (xs : List Int) : Prop where
  a : rdA n e0 xs0 = (pre ++ (rdA (n - k) e xs).1, (rdA (n - k) e xs).2)
  l : pre.length = k
  byt : Byt xs
  le : xs.length ≤ xs0.length
  eo : ErrOk e xs
section
variable {n k : Nat} {e0 e : Int} {xs0 xs : List Int} {pre : List (List Int)}
theorem RdsI.start (hb : Byt xs0) (h : ErrOk e0 xs0) : RdsI n e0 xs0 0 [] e0 xs0 := ⟨rfl, rfl, hb, Nat.le_refl _, h⟩
theorem RdsI.next (h : RdsI n e0 xs0 k pre e xs) (hk : k < n) (h0 : (atmS e xs).2.1 = 0) : RdsI n e0 xs0 (k + 1) (pre ++ [(atmS e xs).1]) (atmS e xs).2.1 (atmS e xs).2.2 := by
  refine ⟨?_, by rw [List.length_append, h.l]; rfl, atmS_byt h.byt, Nat.le_trans atmS_len2 h.le, atmS_ok3 h.eo⟩
  rw [h.a, show n - k = n - (k + 1) + 1 by omega, rdA_ok h0, List.append_assoc]; rfl
theorem RdsI.at (h : RdsI n e0 xs0 k pre e xs) (hk : k < n) (h0 : (atmS e xs).2.1 = 0) : (rdA n e0 xs0).1.getD k [] = (atmS e xs).1 ∧ k < (rdA n e0 xs0).1.length := by
  rw [h.a, show n - k = n - (k + 1) + 1 by omega, rdA_ok h0]
  dsimp only
  refine ⟨?_, by rw [List.length_append, h.l, List.length_cons]; omega⟩
  rw [List.getD_eq_getElem?_getD, List.getElem?_append_right (by have := h.l; omega), h.l, Nat.sub_self]; rfl
theorem RdsI.stop (h : RdsI n e0 xs0 k pre e xs) (hk : k < n) (h0 : ¬ (atmS e xs).2.1 = 0) : rdA n e0 xs0 = (pre, (atmS e xs).2) := by
  rw [h.a, show n - k = n - (k + 1) + 1 by omega, rdA_no h0, List.append_nil]
theorem RdsI.done (h : RdsI n e0 xs0 k pre e xs) (hk : k = n) : rdA n e0 xs0 = (pre, e, xs) := by
  rw [h.a, show n - k = 0 by omega, rdA, List.append_nil]
end
def ordAt (s : List (List Int)) (k : Nat) : Bool := decide (k = 0) || keyLt (akey (s.getD (k - 1) [])) (akey (s.getD k []))
def ordN (s : List (List Int)) : Nat → Bool
  | 0 => true
  | k + 1 => ordN s k && ordAt s k
def ordL (s : List (List Int)) : Bool := ordN s s.length
theorem ord_false {s : List (List Int)} {k : Nat} (h : ordAt s k = false) : ∀ {n : Nat}, k < n → ordN s n = false
  | 0, h1 => by omega
  | n + 1, h1 => by
    rw [ordN]
    by_cases e : k = n
    · rw [← e, h, Bool.and_false]
    · rw [ord_false h (by omega), Bool.false_and]
def decR (bs : List Int) : List (List Int) × Int × List Int := rdA (numS 4096 0 bs).1 (numS 4096 0 bs).2.1 (numS 4096 0 bs).2.2
def finE (s : Int × List Int) : Int := if 0 < s.2.length then 3 else s.1
def decP (bs : List Int) : List (List Int) × Int := if ordL (decR bs).1 = false then ([], 3) else if finE (decR bs).2 = 0 then ((decR bs).1, 0) else ([], finE (decR bs).2)
theorem fr_rdin {w : World} {M L : List Res} {A : Option Addr} {n : Nat} {vs : List Value} (hR : RdIn w M A n) (hL : FrOK w M L) : FrOK w M (.rd A 1 n vs :: L) := fun r hr g hg => by
  rcases List.mem_cons.1 hr with rfl | hr
  · exact hR g hg
  · exact hL r hr g hg

theorem i_comes (bn bc n : Nat) (hnn : n ≤ 4096) (g : Nat) (e : Int) (A : Option Addr) (c : Nat) (xs : List Int) (hc : xs.length ≤ c) (hw : Byt xs) (hn : xs.length ≤ 1000000000) (heo : ErrOk e xs)  :
    IterX Tryz.prog 148 #[.pointer (some ⟨bn, 0, none⟩), .pointer (some ⟨bc, 0, none⟩)] ((rdA n e xs).1.length) (fun k => [.agg (AA ((rdA n e xs).1.getD k []))]) [.obj bn (.cells #[.int .i64 (n : Int)] 3 (0, 0)), .obj bc (.cells #[.pointer (some ⟨g, 0, none⟩)] 130 (0, 0)), .obj g (.cells #[.int .i64 e, .slice A (xs).length c] 189 (0, 0)), .rd A 1 (xs).length ((xs).map (Value.int .u8))] (fun L => ∃ (A : Option Addr) (c : Nat) (ys : List Int), ys.length ≤ c ∧ L = [.obj bn (.cells #[.int .i64 (n : Int)] 3 (0, 0)), .obj bc (.cells #[.pointer (some ⟨g, 0, none⟩)] 130 (0, 0)), .obj g (.cells #[.int .i64 0, .slice A (ys).length c] 189 (0, 0)), .rd A 1 (ys).length ((ys).map (Value.int .u8))]) (fun L => ∃ (A : Option Addr) (c : Nat), (rdA n e xs).2.2.length ≤ c ∧ L = [.obj bn (.cells #[.int .i64 (n : Int)] 3 (0, 0)), .obj bc (.cells #[.pointer (some ⟨g, 0, none⟩)] 130 (0, 0)), .obj g (.cells #[.int .i64 (rdA n e xs).2.1, .slice A ((rdA n e xs).2.2).length c] 189 (0, 0)), .rd A 1 ((rdA n e xs).2.2).length (((rdA n e xs).2.2).map (Value.int .u8))]) := by
 intro lp I O hIc hOc hy w0 hI
 have hS := (hIc 0).st hI
 refine y_enter (l := [.func (.yield lp) #[] #[], .pointer (some ⟨bn, 0, none⟩), .pointer (some ⟨bc, 0, none⟩), undef, undef, undef, undef, undef, undef, undef, undef, undef, undef, undef, undef, undef, undef, undef, undef, undef]) Tryz.func148 rfl (by simp only [Tryz.ntmps148, List.size_toArray, List.length_cons, List.length_nil, Nat.reduceAdd, Nat.reduceSub, Array.replicate_succ, Array.replicate_zero, List.push_toArray, List.append_toArray, List.nil_append, List.cons_append]) ?_
 refine y_seq fun K1 hK1 => ?_
 refine y_region (by kernel_rfl) ?_
 refine s_go (m_load_obj Tryz.underlying3 (hS := hS) (hv := by rfl)) ?_
 try simp only [opv, n1, n2, n3, n4, Value.cells, List.getElem_toArray, List.getElem_cons_zero, List.getElem_cons_succ]
 refine s_go (s_move) ?_
 try simp only [opv, n1, n2, n3, n4, Value.cells]
 refine y_nilf ?_
 refine hK1 _ _ ?_
 refine y_block ?_
 refine y_loop [4, 6, 7, 8, 9, 10, 11, 12, 13, 14, 15, 16, 17, 18, 19] (fun m f w => ∃ (k : Nat) (pre : List (List Int)) (e1 : Int) (A1 : Option Addr) (c1 : Nat) (xs1 : List Int), k ≤ n ∧ m = n - k ∧ f 6 = .int .i64 (k : Int) ∧ xs1.length ≤ c1 ∧ RdsI n e xs k pre e1 xs1 ∧ I k w [.obj bn (.cells #[.int .i64 (n : Int)] 3 (0, 0)), .obj bc (.cells #[.pointer (some ⟨g, 0, none⟩)] 130 (0, 0)), .obj g (.cells #[.int .i64 e1, .slice A1 (xs1).length c1] 189 (0, 0)), .rd A1 1 (xs1).length ((xs1).map (Value.int .u8))]) (n) ?init1 (fun m1 f1 wl1 hI => ?_)
 case init1 =>
  try simp only [opv, n1, n2, n3, n4, Value.cells]
  exact ⟨0, [], e, A, c, xs, by omega, rfl, rfl, hc, RdsI.start hw heo, hI⟩
 obtain ⟨k, pre, e1, A1, c1, xs1, hk0, hm, h6, hcc1, hri, hI⟩ := hI
 simp only [clob, List.foldl, n3, n4, h6]
 replace hS := (hIc k).st hI
 have hM := hS
 refine y_seq fun K2 hK2 => ?_
 refine y_region (by kernel_rfl) ?_
 refine s_go (s_lss) ?_
 try simp only [opv, n1, n2, n3, n4, Value.cells]
 refine y_nilf ?_
 refine hK2 _ _ ?_
 refine y_seq fun K3 hK3 => ?_
 refine y_cond (ht := fun hc1 => ?_) (hf := fun hc1 => ?_)
 ·
  try simp only [decide_eq_true_eq, decide_eq_false_iff_not, Bool.not_eq_true', Bool.not_eq_false', Int.not_lt, Int.not_le, ne_eq, Decidable.not_not, bne_iff_ne, beq_iff_eq, not_true_eq_false, not_false_eq_true] at hc1
  have hk1 : k < n := by omega
  have hz21 := atmS_l21 e1 hri.byt
  have hle := hri.le
  refine y_skip ?_
  refine hK3 _ _ ?_
  refine y_seq fun K4 hK4 => ?_
  refine y_block ?_
  refine y_seq fun K5 hK5 => ?_
  refine y_region (by kernel_rfl) ?_
  refine s_go (m_load_obj Tryz.underlying130 (hS := hS) (hv := by rfl)) ?_
  try simp only [opv, n1, n2, n3, n4, Value.cells, List.getElem_toArray, List.getElem_cons_zero, List.getElem_cons_succ]
  refine s_call en149 ?_
  try simp only [opv, n1, n2, n3, n4, Value.cells, List.map_toArray, List.map_cons, List.map_nil, List.append_toArray, List.cons_append, List.nil_append, Array.append_empty]
  refine CallR.mono (c_atomRead _ g e1 A1 c1 xs1 hcc1 hri.byt (by omega) (hS.owns (by repeat (first | exact Spl.nil | (apply Spl.cons (by repeat (first | exact Del.head | apply Del.tail))))))) ?_
  rintro _ w1 ⟨rfl, A2, c2, hc2, hRr, hC1⟩
  have hR2 := RdIn.trans hM hS (by repeat (first | exact Spl.nil | (apply Spl.cons (by repeat (first | exact Del.head | apply Del.tail))))) hRr (by intro s hs q hb; simp only [List.mem_cons, List.not_mem_nil, or_false] at hs; rcases hs with rfl | rfl <;> first | (simp [Res.reads] at hb; done) | exact .inr ⟨_, by repeat (first | exact List.mem_cons_self .. | apply List.mem_cons_of_mem), .inr hb⟩)
  replace hS := hS.frame (by repeat (first | exact Spl.nil | (apply Spl.cons (by repeat (first | exact Del.head | apply Del.tail))))) hC1 (by intro r hr b hb; simp only [List.mem_cons, List.not_mem_nil, or_false] at hr; rcases hr with rfl | rfl <;> first | (simp [Res.reads] at hb; done) | exact hRr b hb)
  simp only [List.cons_append, List.nil_append] at hS
  try simp only [opv, n1, n2, n3, n4, Value.cells]
  refine m_alloc ti88 hS (fun w2 g2 hS => ?_)
  try simp only [opv, n1, n2, n3, n4, Value.cells, Array.toArray_toList] at hS ⊢
  have h0l : (List.replicate 21 (0 : Int)).length = 21 := rfl
  replace hS : St _ _ w2 (.obj g2 (.cells (AA (List.replicate 21 0)) 88 (0, 0)) :: _) := hS
  refine m_store_obj ti88 (hS := hS) (hc := by exact zi_whole (by omega) (by omega)) (hv := by (show (zi _ _).toArray.size = _; rw [zi_size (by omega)]; rfl)) (hfit := by (rw [zi_size (by omega)]; decide)) (h1 := by exact zi_one _ _) (h := fun w3 hS => ?_)
  try simp only [opv, n1, n2, n3, n4, Value.cells, Array.toArray_toList] at hS ⊢
  refine y_nilf ?_
  refine hK5 _ _ ?_
  refine y_seq fun K6 hK6 => ?_
  refine y_region_y ?_
  refine y_pre_n 6 (by kernel_rfl) ?_
  simp only [List.take_succ_cons, List.take_zero, List.drop_succ_cons, List.drop_zero]
  refine s_go (m_load_obj Tryz.underlying130 (hS := hS) (hv := by rfl)) ?_
  try simp only [opv, n1, n2, n3, n4, Value.cells, List.getElem_toArray, List.getElem_cons_zero, List.getElem_cons_succ]
  refine s_call en150 ?_
  try simp only [opv, n1, n2, n3, n4, Value.cells, List.map_toArray, List.map_cons, List.map_nil, List.append_toArray, List.cons_append, List.nil_append, Array.append_empty]
  refine CallR.mono (c_cErr _ g ((atmS e1 xs1).2.1) A2 c2 ((atmS e1 xs1).2.2) hc2 (hS.owns (by repeat (first | exact Spl.nil | (apply Spl.cons (by repeat (first | exact Del.head | apply Del.tail))))))) ?_
  rintro _ w4 ⟨rfl, hC4⟩
  replace hS := hS.frame (by repeat (first | exact Spl.nil | (apply Spl.cons (by repeat (first | exact Del.head | apply Del.tail))))) hC4 (by intro r hr g hg; simp only [List.mem_cons, List.not_mem_nil, or_false] at hr; rcases hr with rfl | rfl | rfl <;> first | (simp [Res.reads] at hg; done) | exact .inr ⟨_, by simp, .inr hg⟩)
  simp only [List.cons_append, List.nil_append] at hS
  try simp only [opv, n1, n2, n3, n4, Value.cells]
  refine s_go (s_neq) ?_
  try simp only [opv, n1, n2, n3, n4, Value.cells]
  refine s_go (s_move) ?_
  try simp only [opv, n1, n2, n3, n4, Value.cells]
  refine s_part 13 rfl (fun hp1 => ?_) (fun hp1 => ?_)
  ·
   try simp only [n3, n4]
   try simp only [decide_eq_true_eq, decide_eq_false_iff_not, Bool.not_eq_true', Bool.not_eq_false', Int.not_lt, Int.not_le, ne_eq, Decidable.not_not] at hp1
   have hbad : ¬ (atmS e1 xs1).2.1 = 0 := by simpa using hp1
   have hst := hri.stop hk1 hbad
   refine g_off (yi (t := 13) rfl rfl) ?_
   try simp only [opv, n1, n2, n3, n4, Value.cells]
   refine g_off (yi (t := 13) rfl rfl) ?_
   try simp only [opv, n1, n2, n3, n4, Value.cells]
   refine y_pre_nilf ?_
   refine y_off (yi (t := 13) rfl rfl) ?_
   refine y_rest (by kernel_rfl) ?_
   try simp only [opv, n1, n2, n3, n4, Value.cells]
   refine g_off (yi (t := 13) rfl rfl) ?_
   try simp only [opv, n1, n2, n3, n4, Value.cells]
   refine s_go (s_pick_t) ?_
   try simp only [opv, n1, n2, n3, n4, Value.cells]
   refine y_nilf ?_
   refine hK6 _ _ ?_
   refine y_cond_t (h := ?_)
   refine y_ret ?_
   refine rm_nil ?_
   refine r_none rfl ?_
   exact .inl ⟨_, ⟨A2, c2, by rw [hst]; exact hc2, rfl⟩, by rw [hst, show (pre, (atmS e1 xs1).2).1.length = k from hri.l]; exact (hIc k).on hI (hS.sel (by repeat (first | exact Sel.nil | (refine Sel.cons (by repeat (first | exact Del.head | apply Del.tail)) ?_)))) (by repeat (first | exact fr_nil | refine fr_rdin (by assumption) ?_ | refine fr_own rfl ?_))⟩
  ·
   try simp only [n3, n4]
   try simp only [decide_eq_true_eq, decide_eq_false_iff_not, Bool.not_eq_true', Bool.not_eq_false', Int.not_lt, Int.not_le, ne_eq, Decidable.not_not] at hp1
   have hok : (atmS e1 xs1).2.1 = 0 := by simpa using hp1
   have hat := hri.at hk1 hok
   rw [hok] at hS
   refine g_on (yi (t := 13) rfl rfl) ?_
   refine s_go (s_move) ?_
   try simp only [opv, n1, n2, n3, n4, Value.cells]
   refine g_on (yi (t := 13) rfl rfl) ?_
   refine s_go (m_load_row Tryz.underlying88 (hi := ti88) (hS := hS) (hfit := by (rw [zi_size (by omega)]; rfl))) ?_
   try simp only [opv, n1, n2, n3, n4, Value.cells, List.getElem_toArray, List.getElem_cons_zero, List.getElem_cons_succ]
   refine y_pre_nilf ?_
   refine y_yield_g (yi (t := 13) rfl rfl) rfl ?_
   try simp only [opv, n1, n2, n3, n4, Value.cells, List.map_toArray, List.map_cons, List.map_nil]
   refine YC.mono (by rw [← hat.1]; exact hy k _ _ hat.2 ⟨A2, c2, _, hc2, rfl⟩ ((hIc k).on hI (hS.sel (by repeat (first | exact Sel.nil | (refine Sel.cons (by repeat (first | exact Del.head | apply Del.tail)) ?_)))) (by repeat (first | exact fr_nil | refine fr_rdin (by assumption) ?_ | refine fr_own rfl ?_)))) ?_
   rintro v w5 (⟨rfl, hI⟩ | ⟨rfl, hO⟩)
   ·
    replace hS := (hIc _).st hI
    refine y_rest (by kernel_rfl) ?_
    try simp only [opv, n1, n2, n3, n4, Value.cells]
    refine g_on (yi (t := 13) rfl rfl) ?_
    refine s_go (s_not) ?_
    try simp only [opv, n1, n2, n3, n4, Value.cells]
    refine s_go (s_pick_f) ?_
    try simp only [opv, n1, n2, n3, n4, Value.cells]
    refine y_nilf ?_
    refine hK6 _ _ ?_
    refine y_cond_f (h := ?_)
    refine y_skip ?_
    refine hK4 _ _ ?_
    refine y_region (by kernel_rfl) ?_
    refine s_go (s_add (hc := by exact wr_i64 (by omega) (by omega))) ?_
    try simp only [opv, n1, n2, n3, n4, Value.cells]
    refine s_go (s_move) ?_
    try simp only [opv, n1, n2, n3, n4, Value.cells]
    refine y_nilf ?_
    refine loop_back_y (m' := n - (k + 1)) (by simp only [clob, List.foldl, n1, n2, n3, n4]) ?_ ?_
    · try simp only [opv, n1, n2, n3, n4, Value.cells]
      exact ⟨k + 1, pre ++ [(atmS e1 xs1).1], 0, A2, c2, (atmS e1 xs1).2.2, by omega, by omega, by rfl, hc2, (by have h9 := hri.next hk1 hok; rw [hok] at h9; exact h9), hI⟩
    · omega
   ·
    replace hS := (hOc _).st hO
    refine y_rest (by kernel_rfl) ?_
    try simp only [opv, n1, n2, n3, n4, Value.cells]
    refine g_on (yi (t := 13) rfl rfl) ?_
    refine s_go (s_not) ?_
    try simp only [opv, n1, n2, n3, n4, Value.cells]
    refine s_go (s_pick_f) ?_
    try simp only [opv, n1, n2, n3, n4, Value.cells]
    refine y_nilf ?_
    refine hK6 _ _ ?_
    refine y_cond_t (h := ?_)
    refine y_ret ?_
    refine rm_nil ?_
    refine r_none rfl ?_
    exact .inr ⟨k, hO⟩
 ·
  try simp only [decide_eq_true_eq, decide_eq_false_iff_not, Bool.not_eq_true', Bool.not_eq_false', Int.not_lt, Int.not_le, ne_eq, Decidable.not_not, bne_iff_ne, beq_iff_eq, not_true_eq_false, not_false_eq_true] at hc1
  have hdn := hri.done (by omega)
  refine y_exit (look_here ?_)
  refine rm_nil ?_
  refine r_none rfl ?_
  exact .inl ⟨_, ⟨A1, c1, by rw [hdn]; exact hcc1, rfl⟩, by have h9 := hI; rw [← hri.l] at h9; rw [hdn]; exact h9⟩
theorem c_comes (g n : Nat)  (w0 : World) :
    CallR Tryz.prog 86 #[.pointer (some ⟨g, 0, none⟩), .int .i64 (n : Int)] w0 fun v w' => ∃ bn bc : Nat, v = .func (.func 148) #[] #[.pointer (some ⟨bn, 0, none⟩), .pointer (some ⟨bc, 0, none⟩)] ∧ St NoB w0 w' [.obj bn (.cells #[.int .i64 (n : Int)] 3 (0, 0)), .obj bc (.cells #[.pointer (some ⟨g, 0, none⟩)] 130 (0, 0))] := by
 have hS : St NoB w0 w0 [] := St.start w0
 refine c_enter (l := [.pointer (some ⟨g, 0, none⟩), .int .i64 (n : Int), undef, undef, undef, undef]) Tryz.func86 rfl (by simp only [Tryz.ntmps86, List.size_toArray, List.length_cons, List.length_nil, Nat.reduceAdd, Nat.reduceSub, Array.replicate_succ, Array.replicate_zero, List.push_toArray, List.append_toArray, List.nil_append, List.cons_append]) ?_
 refine x_seq fun K1 hK1 => ?_
 refine x_region ?_
 refine m_box hS (fun w1 g1 hS => ?_)
 try simp only [opv, n1, n2, n3, n4, Value.cells, Array.toArray_toList] at hS ⊢
 refine m_box hS (fun w2 g2 hS => ?_)
 try simp only [opv, n1, n2, n3, n4, Value.cells, Array.toArray_toList] at hS ⊢
 refine s_go (s_assign) ?_
 try simp only [opv, n1, n2, n3, n4, Value.cells]
 refine x_nil ?_
 refine hK1 _ _ ?_
 refine x_seq fun K2 hK2 => ?_
 refine x_region ?_
 refine s_go (s_makeFunc) ?_
 try simp only [opv, n1, n2, n3, n4, Value.cells, List.map_toArray, List.map_cons, List.map_nil]
 refine s_go (s_assign) ?_
 try simp only [opv, n1, n2, n3, n4, Value.cells]
 refine x_nil ?_
 refine hK2 _ _ ?_
 refine x_ret ?_
 refine r_tmp rfl ?_
 exact ⟨_, _, rfl, hS.sel (by repeat (first | exact Sel.nil | (refine Sel.cons (by repeat (exact Del.head)) ?_)))⟩
end Go.Proofs.YtffmanidnlbjjaaGreat
set_option linter.unusedSimpArgs false
set_option linter.unusedVariables false
set_option maxHeartbeats 3000000
set_option maxRecDepth 100000
namespace Go.Proofs.YtffmanidnlbjjaaGreat
open Go.RowKit

def folS (l : List (List Int)) (a : List Int) : Bool := decide (l.length = 0) || keyLt (akey (l.getD (l.length - 1) [])) (akey a)
theorem fol_at {s : List (List Int)} {k : Nat} {x : List Int} (hk : k < s.length) (hx : s.getD k [] = x) : folS (s.take k) x = ordAt s k := by
  rw [folS, ordAt, List.length_take, Nat.min_eq_left (by omega), hx]
  by_cases h : k = 0
  · rw [decide_eq_true h, Bool.true_or, Bool.true_or]
  · rw [List.getD_eq_getElem?_getD, List.getElem?_take_of_lt (by omega), ← List.getD_eq_getElem?_getD]
theorem decR_len {bs : List Int} : (decR bs).1.length ≤ 4096 := Nat.le_trans rdA_len (numS_le 4096 0 bs)
theorem decR_ok {bs : List Int} (hw : Byt bs) : AOks (decR bs).1 := rdA_aok (numS_byt hw)
theorem decP_ok {bs : List Int} (hw : Byt bs) : AOks (decP bs).1 := by
  unfold decP
  split
  · exact AOks.nil
  · split
    · exact decR_ok hw
    · exact AOks.nil
theorem decP_len {bs : List Int} : (decP bs).1.length ≤ 4096 := by
  have h := decR_len (bs := bs)
  unfold decP
  split
  · exact Nat.zero_le _
  · split
    · exact h
    · exact Nat.zero_le _

theorem c_codecFol (w0 : World) (go : Nat) (B : Option Addr) (d : Nat) (l : List (List Int)) (hvr : AOks l) (hn : l.length ≤ 1000000000) (a : List Int) (ha : AtomOk a) (hM : St (OwnB [.obj go (.cells #[.slice B (l).length d] 22 (0, 0)), .vec B d 88 21 (l).length (arows (l))]) w0 w0 [.obj go (.cells #[.slice B (l).length d] 22 (0, 0)), .vec B d 88 21 (l).length (arows (l))]) :
    CallR Tryz.prog 84 #[.agg (AA a), .pointer (some ⟨go, 0, none⟩)] w0 fun v w' => v = .bool (folS l a) ∧ St (OwnB [.obj go (.cells #[.slice B (l).length d] 22 (0, 0)), .vec B d 88 21 (l).length (arows (l))]) w0 w' [.obj go (.cells #[.slice B (l).length d] 22 (0, 0)), .vec B d 88 21 (l).length (arows (l))] := by
 have hS := hM
 have hvl := arows_len l
 have hka := ha.key
 refine c_enter (l := [.agg (AA a), .pointer (some ⟨go, 0, none⟩), undef, undef, undef, undef, undef, undef, undef, undef, undef, undef, undef, undef, undef, undef, undef, undef, undef]) Tryz.func84 rfl (by simp only [Tryz.ntmps84, List.size_toArray, List.length_cons, List.length_nil, Nat.reduceAdd, Nat.reduceSub, Array.replicate_succ, Array.replicate_zero, List.push_toArray, List.append_toArray, List.nil_append, List.cons_append]) ?_
 refine x_seq fun K1 hK1 => ?_
 refine x_region ?_
 have hal := ha.len
 have hk := ha.key
 have hv := ha.val
 have hvl := hv.len
 have hkl := hk.len
 have h00 := akey_0 hal
 have htl := vtext_len hvl
 have htb := hv.text
 have hvb := hv.b0
 refine m_box hS (fun w1 g1 hS => ?_)
 try simp only [opv, n1, n2, n3, n4, Value.cells, Array.toArray_toList] at hS ⊢
 refine s_go (s_assign) ?_
 try simp only [opv, n1, n2, n3, n4, Value.cells]
 refine x_nil ?_
 refine hK1 _ _ ?_
 refine x_seq fun K2 hK2 => ?_
 refine x_quiet (by kernel_rfl) (by kernel_rfl) hS ?_
 refine q_go (fun w hS => m_load_obj Tryz.underlying22 (hS := hS) (hv := by rfl)) ?_
 try simp only [opv, n1, n2, n3, n4, Value.cells, List.getElem_toArray, List.getElem_cons_zero, List.getElem_cons_succ]
 refine q_go (fun w hS => s_len_sl Tryz.underlying22) ?_
 try simp only [opv, n1, n2, n3, n4, Value.cells]
 refine q_go (fun w hS => s_eql) ?_
 try simp only [opv, n1, n2, n3, n4, Value.cells]
 refine q_go (fun w hS => s_move) ?_
 try simp only [opv, n1, n2, n3, n4, Value.cells]
 refine q_part 7 rfl (fun hp1 => ?_) (fun hp1 => ?_)
 ·
  try simp only [n3, n4]
  try simp only [decide_eq_true_eq, decide_eq_false_iff_not, Bool.not_eq_true', Bool.not_eq_false', Int.not_lt, Int.not_le, ne_eq, Decidable.not_not] at hp1
  have hV : folS l a = true := by rw [folS, decide_eq_true (by omega), Bool.true_or]
  refine q_off (yi (t := 7) rfl rfl) ?_
  try simp only [opv, n1, n2, n3, n4, Value.cells]
  refine q_off (yi (t := 7) rfl rfl) ?_
  try simp only [opv, n1, n2, n3, n4, Value.cells]
  refine q_off (yi (t := 7) rfl rfl) ?_
  try simp only [opv, n1, n2, n3, n4, Value.cells]
  refine q_off (yi (t := 7) rfl rfl) ?_
  try simp only [opv, n1, n2, n3, n4, Value.cells]
  refine q_off (yi (t := 7) rfl rfl) ?_
  try simp only [opv, n1, n2, n3, n4, Value.cells]
  refine q_off (yi (t := 7) rfl rfl) ?_
  try simp only [opv, n1, n2, n3, n4, Value.cells]
  refine q_off (yi (t := 7) rfl rfl) ?_
  try simp only [opv, n1, n2, n3, n4, Value.cells]
  refine q_off (yi (t := 7) rfl rfl) ?_
  try simp only [opv, n1, n2, n3, n4, Value.cells]
  refine q_off (yi (t := 7) rfl rfl) ?_
  try simp only [opv, n1, n2, n3, n4, Value.cells]
  refine q_off (yi (t := 7) rfl rfl) ?_
  try simp only [opv, n1, n2, n3, n4, Value.cells]
  refine q_go (fun w hS => s_pick_t) ?_
  try simp only [opv, n1, n2, n3, n4, Value.cells]
  refine q_go (fun w hS => s_assign) ?_
  try simp only [opv, n1, n2, n3, n4, Value.cells]
  clear hS
  refine q_nil fun w2 hS => ?_
  refine hK2 _ _ ?_
  refine x_ret ?_
  refine r_tmp rfl ?_
  exact ⟨by rw [hV]; rfl, hS.sel (by repeat (first | exact Sel.nil | (refine Sel.cons (by repeat (first | exact Del.head | apply Del.tail)) ?_)))⟩
 ·
  try simp only [n3, n4]
  try simp only [decide_eq_true_eq, decide_eq_false_iff_not, Bool.not_eq_true', Bool.not_eq_false', Int.not_lt, Int.not_le, ne_eq, Decidable.not_not] at hp1
  have hne : ¬ l.length = 0 := by omega
  obtain ⟨x, hx⟩ : ∃ x, l.getD (l.length - 1) [] = x := ⟨_, rfl⟩
  have hxo : AtomOk x := by rw [← hx]; exact hvr.get (by omega)
  have hkx := hxo.key
  have hV : folS l a = keyLt (akey x) (akey a) := by rw [folS, decide_eq_false hne, Bool.false_or, hx]
  refine q_on (yi (t := 7) rfl rfl) ?_
  refine q_go (fun w hS => m_load_obj Tryz.underlying22 (hS := hS) (hv := by rfl)) ?_
  try simp only [opv, n1, n2, n3, n4, Value.cells, List.getElem_toArray, List.getElem_cons_zero, List.getElem_cons_succ]
  refine q_on (yi (t := 7) rfl rfl) ?_
  refine q_go (fun w hS => m_load_obj Tryz.underlying22 (hS := hS) (hv := by rfl)) ?_
  try simp only [opv, n1, n2, n3, n4, Value.cells, List.getElem_toArray, List.getElem_cons_zero, List.getElem_cons_succ]
  refine q_on (yi (t := 7) rfl rfl) ?_
  refine q_go (fun w hS => s_len_sl Tryz.underlying22) ?_
  try simp only [opv, n1, n2, n3, n4, Value.cells]
  refine q_on (yi (t := 7) rfl rfl) ?_
  refine q_go (fun w hS => s_sub (hc := by exact wr_i64 (by omega) (by omega))) ?_
  try simp only [opv, n1, n2, n3, n4, Value.cells]
  rw [show ((l.length : Int) - 1) = ((l.length - 1 : Nat) : Int) by omega]
  refine q_on (yi (t := 7) rfl rfl) ?_
  refine q_go (fun w hS => m_indexAddr_vec Tryz.underlying22 ti88 (hS := hS)) ?_
  try simp only [opv, n1, n2, n3, n4, Value.cells, Nat.mul_one, Nat.zero_add, Int.toNat_natCast, Int.reduceToNat]
  refine q_on (yi (t := 7) rfl rfl) ?_
  refine q_go (fun w hS => m_fieldAddr_vec Tryz.underlying88 (hi := ti83) (hS := hS)) ?_
  try simp only [opv, n1, n2, n3, n4, Value.cells, Nat.zero_add, Nat.add_zero, List.getElem_toArray, List.getElem_cons_zero, List.getElem_cons_succ]
  refine q_on (yi (t := 7) rfl rfl) ?_
  refine q_go (fun w hS => m_loada_vec Tryz.underlying83 (hi := ti83) (hS := hS) (hfit := by rw [arows_len]; omega)) ?_
  try simp only [opv, n1, n2, n3, n4, Value.cells, List.getElem_toArray, List.getElem_cons_zero, List.getElem_cons_succ]
  rw [arow_key (by omega) hvr, hx]
  refine q_on (yi (t := 7) rfl rfl) ?_
  refine q_go (fun w hS => m_fieldAddr Tryz.underlying88 (hi := ti83)) ?_
  try simp only [opv, n1, n2, n3, n4, Value.cells, Nat.zero_add, Nat.add_zero, List.getElem_toArray, List.getElem_cons_zero, List.getElem_cons_succ]
  refine q_on (yi (t := 7) rfl rfl) ?_
  refine q_go (fun w hS => m_loada_obj Tryz.underlying83 (hi := ti83) (hS := hS) (hfit := by (rw [zi_size (by omega)]; decide))) ?_
  try simp only [opv, n1, n2, n3, n4, Value.cells, List.getElem_toArray, List.getElem_cons_zero, List.getElem_cons_succ]
  rw [atom_key hal]
  refine q_on (yi (t := 7) rfl rfl) ?_
  apply q_call en85
  case H =>
    intro w hS
    try simp only [opv, n1, n2, n3, n4, List.map_toArray, List.map_cons, List.map_nil, List.append_toArray, List.cons_append, List.nil_append, Array.append_empty]
    refine CallR.mono (c_keyLess (akey x) (akey a) hkx hka _) ?_
    rintro _ w1 ⟨rfl, hE⟩; exact ⟨rfl, hS.ext hE⟩
  try simp only [opv, n1, n2, n3, n4, Value.cells]
  refine q_go (fun w hS => s_pick_f) ?_
  try simp only [opv, n1, n2, n3, n4, Value.cells]
  refine q_go (fun w hS => s_assign) ?_
  try simp only [opv, n1, n2, n3, n4, Value.cells]
  clear hS
  refine q_nil fun w3 hS => ?_
  refine hK2 _ _ ?_
  refine x_ret ?_
  refine r_tmp rfl ?_
  exact ⟨by rw [hV]; rfl, hS.sel (by repeat (first | exact Sel.nil | (refine Sel.cons (by repeat (first | exact Del.head | apply Del.tail)) ?_)))⟩
theorem c_codecDecode (w0 : World) (A : Option Addr) (c : Nat) (bs : List Int) (hb : Rd w0 A 1 bs.length (bs.map (Value.int .u8))) (hw : Byt bs) (hn : bs.length ≤ 1000000000)  :
    CallR Tryz.prog 40 #[.slice A bs.length c] w0 fun v w' => ∃ B d, v = .tuple #[.slice B (decP bs).1.length d, .int .i64 (decP bs).2] ∧ St NoB w0 w' [.vec B d 88 21 ((decP bs).1).length (arows ((decP bs).1))] := by
 have hS := St.rd1 (S := NoB) hb
 have hml := numS_le 4096 0 bs
 have hm3 := numS_len 4096 0 bs
 have hmb := numS_byt (m := 4096) (e := 0) hw
 have heo : ErrOk (numS 4096 0 bs).2.1 (numS 4096 0 bs).2.2 := numS_ok (fun h => absurd rfl h)
 have hdl := decR_len (bs := bs)
 have hno := decR_ok hw
 refine y_enter (l := [.slice A bs.length c, undef, undef, undef, undef, undef, undef, undef, undef, undef, undef, undef, undef, undef, undef, undef, undef, undef, undef, undef, undef, undef, undef, undef, undef, undef, undef, undef, undef, undef, undef, undef, undef]) Tryz.func40 rfl (by simp only [Tryz.ntmps40, List.size_toArray, List.length_cons, List.length_nil, Nat.reduceAdd, Nat.reduceSub, Array.replicate_succ, Array.replicate_zero, List.push_toArray, List.append_toArray, List.nil_append, List.cons_append]) ?_
 refine y_seq fun K1 hK1 => ?_
 refine y_region (by kernel_rfl) ?_
 refine m_alloc ti22 hS (fun w1 g1 hS => ?_)
 try simp only [opv, n1, n2, n3, n4, Value.cells, Array.toArray_toList] at hS ⊢
 obtain ⟨go, hgo⟩ : ∃ z, z = g1 := ⟨_, rfl⟩
 rw [← hgo] at hS ⊢
 replace hS := hS.nil_vec 88 21
 refine s_go (s_assign) ?_
 try simp only [opv, n1, n2, n3, n4, Value.cells]
 refine y_nilf ?_
 refine hK1 _ _ ?_
 refine y_seq fun K2 hK2 => ?_
 refine y_region (by kernel_rfl) ?_
 refine s_go (s_move) ?_
 try simp only [opv, n1, n2, n3, n4, Value.cells]
 refine s_call en83 ?_
 try simp only [opv, n1, n2, n3, n4, Value.cells, List.map_toArray, List.map_cons, List.map_nil, List.append_toArray, List.cons_append, List.nil_append, Array.append_empty]
 refine CallR.mono (c_cFrom _ A c bs (hS.hasRd (by repeat (first | exact Has.head | apply Has.tail))) hn) ?_
 rintro _ w2 ⟨g, Ac, cc, rfl, hcc, hC2⟩
 replace hS := hS.call hC2
 simp only [List.cons_append, List.nil_append] at hS
 replace hS := hS.vec_rd (by exact Upd.tail Upd.head)
 try simp only [opv, n1, n2, n3, n4, Value.cells]
 refine m_alloc ti130 hS (fun w3 g3 hS => ?_)
 try simp only [opv, n1, n2, n3, n4, Value.cells, Array.toArray_toList] at hS ⊢
 obtain ⟨gp, hgp⟩ : ∃ z, z = g3 := ⟨_, rfl⟩
 rw [← hgp] at hS ⊢
 refine m_store_obj ti130 (hS := hS) (hc := by (exact splice_whole (by (simp [opv, Value.cells, *]; done)))) (hv := by rfl) (hfit := by (simp only [ic_size, List.length_map, List.size_toArray]; decide)) (h1 := by simp [opv, Value.cells, Value.oneCell']) (h := fun w4 hS => ?_)
 try simp only [opv, n1, n2, n3, n4, Value.cells, Array.toArray_toList] at hS ⊢
 refine y_nilf ?_
 refine hK2 _ _ ?_
 refine y_seq fun K3 hK3 => ?_
 refine y_region (by kernel_rfl) ?_
 refine s_go (s_makeFunc) ?_
 try simp only [opv, n1, n2, n3, n4, Value.cells, List.map_toArray, List.map_cons, List.map_nil]
 refine m_alloc ti104 hS (fun w5 g5 hS => ?_)
 try simp only [opv, n1, n2, n3, n4, Value.cells, Array.toArray_toList] at hS ⊢
 obtain ⟨gf, hgf⟩ : ∃ z, z = g5 := ⟨_, rfl⟩
 rw [← hgf] at hS ⊢
 refine m_store_obj ti104 (hS := hS) (hc := by (exact splice_whole (by (simp [opv, Value.cells, *]; done)))) (hv := by rfl) (hfit := by (simp only [ic_size, List.length_map, List.size_toArray]; decide)) (h1 := by simp [opv, Value.cells, Value.oneCell']) (h := fun w6 hS => ?_)
 try simp only [opv, n1, n2, n3, n4, Value.cells, Array.toArray_toList] at hS ⊢
 refine y_nilf ?_
 refine hK3 _ _ ?_
 refine y_seq fun K4 hK4 => ?_
 refine y_seq fun K5 hK5 => ?_
 refine y_mixed_c (Lc := [.obj gp (.cells #[.pointer (some ⟨g, 0, none⟩)] 130 (0, 0))]) [] 0 [11, 12, 13, 14, 15] (fun f w => ∃ (bn bc : Nat) (Ad : Option Addr) (cd : Nat), f 15 = .func (.func 148) #[] #[.pointer (some ⟨bn, 0, none⟩), .pointer (some ⟨bc, 0, none⟩)] ∧ (numS 4096 0 bs).2.2.length ≤ cd ∧ St NoB w0 w [.obj bn (.cells #[.int .i64 ((numS 4096 0 bs).1 : Int)] 3 (0, 0)), .obj bc (.cells #[.pointer (some ⟨g, 0, none⟩)] 130 (0, 0)), .obj g (.cells #[.int .i64 (numS 4096 0 bs).2.1, .slice Ad ((numS 4096 0 bs).2.2).length cd] 189 (0, 0)), .rd Ad 1 ((numS 4096 0 bs).2.2).length (((numS 4096 0 bs).2.2).map (Value.int .u8)), .obj go (.cells #[.slice none 0 0] 22 (0, 0)), .vec none 0 88 21 0 [], .obj gp (.cells #[.pointer (some ⟨g, 0, none⟩)] 130 (0, 0)), .obj gf (.cells #[.func (.func 84) #[] #[.pointer (some ⟨go, 0, none⟩)]] 104 (0, 0))]) (by kernel_rfl) (by kernel_rfl) (by kernel_rfl) (by decide) (by kernel_rfl) hS (fun w7 hS => ?mixpre301) ?mixrest301
 case mixpre301 =>
  refine p_nil ?_
  simp only [List.length_cons, List.length_nil, Nat.reduceAdd, Nat.reduceSub]
  refine any_go (i := 0) (by rfl) (by decide +kernel) (by decide +kernel) noLate_nil (go_yields w_none (fun w hS => m_load_obj Tryz.underlying130 (hS := hS) (hv := by rfl))) ?_
  try simp only [opv, n1, n2, n3, n4, Value.cells, List.getElem_toArray, List.getElem_cons_zero, List.getElem_cons_succ]
  refine any_go (i := 1) (by rfl) (by decide +kernel) (by decide +kernel) noLate_nil (go_yields w_none (fun w hS => m_load_obj Tryz.underlying130 (hS := hS) (hv := by rfl))) ?_
  try simp only [opv, n1, n2, n3, n4, Value.cells, List.getElem_toArray, List.getElem_cons_zero, List.getElem_cons_succ]
  refine any_step [2] (by kernel_rfl) (by decide) (fun w8 hE => ⟨fun _ => (hS.ext hE).sel (by repeat (first | exact Sel.nil | (refine Sel.cons (by repeat (first | exact Del.head | apply Del.tail)) ?_))), ?_⟩)
  replace hS := hS.ext hE
  intro i hi
  simp only [List.mem_cons, List.not_mem_nil, or_false] at hi
  subst hi
  ·
   refine any_op (by rfl) ?_
   refine s_call en87 ?_
   try simp only [opv, n1, n2, n3, n4, Value.cells, List.map_toArray, List.map_cons, List.map_nil, List.append_toArray, List.cons_append, List.nil_append, Array.append_empty]
   refine CallR.mono (c_cNum _ g 0 Ac cc bs hcc hw hn 4096 (by omega) (hS.owns (by repeat (first | exact Spl.nil | (apply Spl.cons (by repeat (first | exact Del.head | apply Del.tail))))))) ?_
   rintro _ w9 ⟨rfl, Ad, cd, hcd, hRr, hC9⟩
   replace hS := hS.frame (by repeat (first | exact Spl.nil | (apply Spl.cons (by repeat (first | exact Del.head | apply Del.tail))))) hC9 (by intro r hr b hb; simp only [List.mem_cons, List.not_mem_nil, or_false] at hr; rcases hr with rfl | rfl <;> first | (simp [Res.reads] at hb; done) | exact hRr b hb)
   simp only [List.cons_append, List.nil_append] at hS
   try simp only [opv, n1, n2, n3, n4, Value.cells]
   refine x_nil ?_
   refine any_step [3] (by kernel_rfl) (by decide) (fun w10 hE => ⟨fun _ => (hS.ext hE).sel (by repeat (first | exact Sel.nil | (refine Sel.cons (by repeat (first | exact Del.head | apply Del.tail)) ?_))), ?_⟩)
   replace hS := hS.ext hE
   intro i hi
   simp only [List.mem_cons, List.not_mem_nil, or_false] at hi
   subst hi
   ·
    refine any_op (by rfl) ?_
    refine s_go (s_conv Tryz.underlying84 Tryz.underlying3 (hc := (wr_i64 (by omega) (by omega)))) ?_
    try simp only [opv, n1, n2, n3, n4, Value.cells]
    refine x_nil ?_
    refine any_step [4] (by kernel_rfl) (by decide) (fun w11 hE => ⟨fun _ => (hS.ext hE).sel (by repeat (first | exact Sel.nil | (refine Sel.cons (by repeat (first | exact Del.head | apply Del.tail)) ?_))), ?_⟩)
    replace hS := hS.ext hE
    intro i hi
    simp only [List.mem_cons, List.not_mem_nil, or_false] at hi
    subst hi
    ·
     refine any_op (by rfl) ?_
     refine s_call en86 ?_
     try simp only [opv, n1, n2, n3, n4, Value.cells, List.map_toArray, List.map_cons, List.map_nil, List.append_toArray, List.cons_append, List.nil_append, Array.append_empty]
     refine CallR.mono (c_comes g (numS 4096 0 bs).1 _) ?_
     rintro _ w12 ⟨bn, bc, rfl, hC12⟩
     replace hS := hS.call hC12
     simp only [List.cons_append, List.nil_append] at hS
     try simp only [opv, n1, n2, n3, n4, Value.cells]
     refine x_nil ?_
     refine any_nil (by kernel_rfl) (fun w13 hE => ?_)
     replace hS := hS.ext hE
     refine ⟨fun _ => hS.sel (by repeat (first | exact Sel.nil | (refine Sel.cons (by repeat (first | exact Del.head | apply Del.tail)) ?_))), ?_⟩
     refine mix_leaf (by simp only [clob, List.foldl, n1, n2, n3, n4]) ?_
     try simp only [n1, n2]
     exact ⟨_, _, _, _, by trivial, by assumption, hS.sel (by repeat (first | exact Sel.nil | (refine Sel.cons (by repeat (first | exact Del.head | apply Del.tail)) ?_)))⟩
 intro fm1 w14 hM
 obtain ⟨bn, bc, Ad, cd, h15, hcd, hS⟩ := hM
 simp only [clob, List.foldl, n3, n4, h15]
 refine hK5 _ _ ?_
 refine y_block ?_
 refine y_rangeX rfl en148 (show IterX _ _ _ (decR bs).1.length (fun k => [.agg (AA ((decR bs).1.getD k []))]) _ _ (fun L => ∃ (A : Option Addr) (c : Nat), (decR bs).2.2.length ≤ c ∧ L = [.obj bn (.cells #[.int .i64 ((numS 4096 0 bs).1 : Int)] 3 (0, 0)), .obj bc (.cells #[.pointer (some ⟨g, 0, none⟩)] 130 (0, 0)), .obj g (.cells #[.int .i64 (decR bs).2.1, .slice A ((decR bs).2.2).length c] 189 (0, 0)), .rd A 1 ((decR bs).2.2).length (((decR bs).2.2).map (Value.int .u8))]) from i_comes bn bc (numS 4096 0 bs).1 hml g (numS 4096 0 bs).2.1 Ad cd (numS 4096 0 bs).2.2 hcd hmb (by omega) heo) (fun _ => rfl) hS (by repeat (first | exact Spl.nil | (apply Spl.cons (by repeat (exact Del.head))))) (fun k L => k ≤ (decR bs).1.length ∧ ordN (decR bs).1 k = true ∧ ∃ (B : Option Addr) (d : Nat), L = [.obj go (.cells #[.slice B ((decR bs).1.take k).length d] 22 (0, 0)), .vec B d 88 21 ((decR bs).1.take k).length (arows ((decR bs).1.take k)), .obj gp (.cells #[.pointer (some ⟨g, 0, none⟩)] 130 (0, 0)), .obj gf (.cells #[.func (.func 84) #[] #[.pointer (some ⟨go, 0, none⟩)]] 104 (0, 0))]) (fun L => False) [(0, fun L => ∃ (Af : Option Addr) (cf : Nat) (ef : Int) (xf : List Int) (B : Option Addr) (d k : Nat), xf.length ≤ cf ∧ decP bs = ([], 3) ∧ ef = 3 ∧ xf = [] ∧ L = [.obj g (.cells #[.int .i64 ef, .slice Af (xf).length cf] 189 (0, 0)), .rd Af 1 (xf).length ((xf).map (Value.int .u8)), .obj go (.cells #[.slice B ((decR bs).1.take k).length d] 22 (0, 0)), .vec B d 88 21 ((decR bs).1.take k).length (arows ((decR bs).1.take k)), .obj gp (.cells #[.pointer (some ⟨g, 0, none⟩)] 130 (0, 0)), .obj gf (.cells #[.func (.func 84) #[] #[.pointer (some ⟨go, 0, none⟩)]] 104 (0, 0))])] ?rfh1 ?rfr1 (fun D1 T1 w15 R1 Lj hC hJ hS => ?rfd1) (fun D1 T1 w16 R1 hX hS => ?rft1) ?rfe1
 case rfh1 =>
  exact ⟨Nat.zero_le _, rfl, none, 0, rfl⟩
 case rfr1 =>
  intro k1 w17 R1 Lj T1 lr1 hk1 hC hJ hS
  obtain ⟨hk0, hor, B, d, rfl⟩ := hC
  obtain ⟨Aj, cj, zs, hcj, rfl⟩ := hJ
  simp only [List.cons_append, List.nil_append] at hS
  simp only [List.toList_toArray, entL, List.zip_cons_cons, List.zip_nil_left, List.foldl_cons, List.foldl_nil, n3, n4]
  obtain ⟨x, hx⟩ : ∃ x, (decR bs).1.getD k1 [] = x := ⟨_, rfl⟩
  have ha : AtomOk x := by rw [← hx]; exact hno.get (by omega)
  have hal := ha.len
  have hfa := fol_at hk1 hx
  have hst : (decR bs).1.take k1 ++ [x] = (decR bs).1.take (k1 + 1) := by rw [take_snoc hk1, hx]
  have hsl : ((decR bs).1.take k1).length + 1 = ((decR bs).1.take (k1 + 1)).length := by rw [← hst, List.length_append]; rfl
  have htl : ((decR bs).1.take k1).length ≤ 4096 := by rw [List.length_take]; omega
  simp only [hx]
  refine y_region (by kernel_rfl) ?_
  refine m_alloc ti88 hS (fun w18 g18 hS => ?_)
  try simp only [opv, n1, n2, n3, n4, Value.cells, Array.toArray_toList] at hS ⊢
  have h0l : (List.replicate 21 (0 : Int)).length = 21 := rfl
  replace hS : St _ _ w18 (.obj g18 (.cells (AA (List.replicate 21 0)) 88 (0, 0)) :: _) := hS
  refine m_store_obj ti88 (hS := hS) (hc := by exact zi_whole (by omega) (by omega)) (hv := by (show (zi _ _).toArray.size = _; rw [zi_size (by omega)]; rfl)) (hfit := by (rw [zi_size (by omega)]; decide)) (h1 := by exact zi_one _ _) (h := fun w19 hS => ?_)
  try simp only [opv, n1, n2, n3, n4, Value.cells, Array.toArray_toList] at hS ⊢
  refine y_nilf ?_
  refine round_open hS (by repeat (first | exact App.nil | apply App.cons)) (fun w20 T2 hS => ?_)
  simp only [List.cons_append, List.nil_append] at hS
  refine y_block ?_
  refine y_seq fun K6 hK6 => ?_
  refine y_seq fun K7 hK7 => ?_
  refine y_region (by kernel_rfl) ?_
  refine s_go (m_load_obj Tryz.underlying104 (hS := hS) (hv := by rfl)) ?_
  try simp only [opv, n1, n2, n3, n4, Value.cells, List.getElem_toArray, List.getElem_cons_zero, List.getElem_cons_succ]
  refine s_go (m_load_row Tryz.underlying88 (hi := ti88) (hS := hS) (hfit := by (rw [zi_size (by omega)]; rfl))) ?_
  try simp only [opv, n1, n2, n3, n4, Value.cells, List.getElem_toArray, List.getElem_cons_zero, List.getElem_cons_succ]
  refine s_callv (hv := rfl) en84 ?_
  try simp only [opv, n1, n2, n3, n4, Value.cells, List.map_toArray, List.map_cons, List.map_nil, List.append_toArray, List.cons_append, List.nil_append, Array.append_empty]
  refine CallR.mono (c_codecFol _ go B d ((decR bs).1.take k1) (hno.take k1) (by omega) x ha (hS.owns (by repeat (first | exact Spl.nil | (apply Spl.cons (by repeat (first | exact Del.head | apply Del.tail))))))) ?_
  rintro _ w21 ⟨rfl, hC21⟩
  replace hS := hS.frame (by repeat (first | exact Spl.nil | (apply Spl.cons (by repeat (first | exact Del.head | apply Del.tail))))) hC21 (by intro r hr g hg; simp only [List.mem_cons, List.not_mem_nil, or_false] at hr; rcases hr with rfl | rfl <;> (simp [Res.reads] at hg; done))
  simp only [List.cons_append, List.nil_append] at hS
  try simp only [opv, n1, n2, n3, n4, Value.cells]
  refine s_go (s_not) ?_
  try simp only [opv, n1, n2, n3, n4, Value.cells]
  refine y_nilf ?_
  refine hK7 _ _ ?_
  refine y_cond (ht := fun hc1 => ?_) (hf := fun hc1 => ?_)
  ·
   try simp only [decide_eq_true_eq, decide_eq_false_iff_not, Bool.not_eq_true', Bool.not_eq_false', Int.not_lt, Int.not_le, ne_eq, Decidable.not_not, bne_iff_ne, beq_iff_eq, not_true_eq_false, not_false_eq_true] at hc1
   have hfo : folS ((decR bs).1.take k1) x = false := by simpa using hc1
   have hol : ordL (decR bs).1 = false := ord_false (k := k1) (by rw [← hfa, hfo]) (by omega)
   refine y_seq fun K8 hK8 => ?_
   refine y_region (by kernel_rfl) ?_
   refine s_go (m_load_obj Tryz.underlying130 (hS := hS) (hv := by rfl)) ?_
   try simp only [opv, n1, n2, n3, n4, Value.cells, List.getElem_toArray, List.getElem_cons_zero, List.getElem_cons_succ]
   refine s_call en88 ?_
   try simp only [opv, n1, n2, n3, n4, Value.cells, List.map_toArray, List.map_cons, List.map_nil, List.append_toArray, List.cons_append, List.nil_append, Array.append_empty]
   refine CallR.mono (c_cFail _ g 0 Aj cj zs hcj 3 (hS.owns (by repeat (first | exact Spl.nil | (apply Spl.cons (by repeat (first | exact Del.head | apply Del.tail))))))) ?_
   rintro _ w22 ⟨rfl, Af, cf, hcf, hRr, hC22⟩
   replace hS := hS.frame (by repeat (first | exact Spl.nil | (apply Spl.cons (by repeat (first | exact Del.head | apply Del.tail))))) hC22 (by intro r hr b hb; simp only [List.mem_cons, List.not_mem_nil, or_false] at hr; rcases hr with rfl | rfl <;> first | (simp [Res.reads] at hb; done) | exact hRr b hb)
   simp only [List.cons_append, List.nil_append, show errE 0 3 = 3 from rfl, show errX 0 3 zs = [] from rfl] at hS hcf
   try simp only [opv, n1, n2, n3, n4, Value.cells]
   refine y_nilf ?_
   refine hK8 _ _ ?_
   refine y_exit (look_on (by decide) (look_here ?_))
   exact ⟨_, ⟨Af, cf, 3, [], B, d, k1, hcf, by rw [decP, if_pos hol], rfl, rfl, rfl⟩, by simp only [List.cons_append, List.nil_append]; exact hS.sel (by repeat (first | exact Sel.self | (refine Sel.cons (by repeat (first | exact Del.head | apply Del.tail)) ?_) | apply Sel.skip))⟩
  ·
   try simp only [decide_eq_true_eq, decide_eq_false_iff_not, Bool.not_eq_true', Bool.not_eq_false', Int.not_lt, Int.not_le, ne_eq, Decidable.not_not, bne_iff_ne, beq_iff_eq, not_true_eq_false, not_false_eq_true] at hc1
   have hfo : folS ((decR bs).1.take k1) x = true := by simpa using hc1
   refine y_skip ?_
   refine hK6 _ _ ?_
   refine y_region (by kernel_rfl) ?_
   refine s_go (m_load_obj Tryz.underlying22 (hS := hS) (hv := by rfl)) ?_
   try simp only [opv, n1, n2, n3, n4, Value.cells, List.getElem_toArray, List.getElem_cons_zero, List.getElem_cons_succ]
   refine s_go (m_load_row Tryz.underlying88 (hi := ti88) (hS := hS) (hfit := by (rw [zi_size (by omega)]; rfl))) ?_
   try simp only [opv, n1, n2, n3, n4, Value.cells, List.getElem_toArray, List.getElem_cons_zero, List.getElem_cons_succ]
   refine m_buildRow (cells := (AA x)) Tryz.underlying22 ti88 (hc := by simp only [List.map_toArray, List.map_cons, List.map_nil, opv, n1, n2, n3, n4, Value.cells, List.toList_toArray]; exact fill_one (by rfl) (zi_size21 hal) (by rfl)) (hS := hS) (h := fun w23 g23 hS => ?_)
   try simp only [opv, n1, n2, n3, n4, Value.cells, Array.toArray_toList] at hS ⊢
   replace hS := hS.obj_rd (sz := 21) (n := 1) (by exact zi_size21 hal) .head
   rw [arow_one hal] at hS
   refine m_append Tryz.underlying22 ti88 (hS := hS) (h1 := rowsZ_cells _ _) (h := fun w24 A24 C24 hS => ?_)
   try simp only [← List.map_append, ← List.map_drop, ← List.map_take, Nat.mul_one, Nat.zero_mul, Nat.sub_zero, List.drop_zero, List.nil_append, Nat.zero_add] at hS ⊢
   try simp only [opv, n1, n2, n3, n4, Value.cells, Array.toArray_toList] at hS ⊢
   rw [← rowsZ_app, hst, hsl] at hS
   rw [hsl]
   refine m_store_obj ti22 (hS := hS) (hc := by (exact splice_whole (by (simp [opv, Value.cells, *]; done)))) (hv := by rfl) (hfit := by (simp [*]; done)) (h1 := by simp [opv, Value.cells, Value.oneCell']) (h := fun w25 hS => ?_)
   try simp only [opv, n1, n2, n3, n4, Value.cells, Array.toArray_toList] at hS ⊢
   refine y_nilf ?_
   exact ⟨_, ⟨_, ⟨by omega, by rw [ordN, hor, ← hfa, hfo]; rfl, _, _, rfl⟩, rfl⟩, by simp only [List.cons_append, List.nil_append]; exact hS.sel (by repeat (first | exact Sel.self | (refine Sel.cons (by repeat (first | exact Del.head | apply Del.tail)) ?_) | apply Sel.skip))⟩
 case rfd1 =>
  obtain ⟨hk0, hor, B, d, rfl⟩ := hC
  obtain ⟨Af, cf, hcf, rfl⟩ := hJ
  simp only [List.cons_append, List.nil_append] at hS
  rw [List.take_of_length_le (Nat.le_refl _)] at hS
  obtain ⟨ef, xf, hex⟩ : ∃ ef xf, (decR bs).2 = (ef, xf) := ⟨_, _, rfl⟩
  have hD2 : decP bs = if (if 0 < xf.length then (3 : Int) else ef) = 0 then ((decR bs).1, 0) else ([], if 0 < xf.length then 3 else ef) := by rw [decP, if_neg (by rw [ordL, hor]; decide), hex]; rfl
  rw [hex] at hS hcf
  dsimp only at hS hcf
  refine hK4 _ _ ?_
  refine y_seq fun K9 hK9 => ?_
  refine y_seq fun K10 hK10 => ?_
  refine y_region (by kernel_rfl) ?_
  refine s_go (m_load_obj Tryz.underlying130 (hS := hS) (hv := by rfl)) ?_
  try simp only [opv, n1, n2, n3, n4, Value.cells, List.getElem_toArray, List.getElem_cons_zero, List.getElem_cons_succ]
  refine s_call en89 ?_
  try simp only [opv, n1, n2, n3, n4, Value.cells, List.map_toArray, List.map_cons, List.map_nil, List.append_toArray, List.cons_append, List.nil_append, Array.append_empty]
  refine CallR.mono (c_cDone _ g (ef) Af cf (xf) hcf (hS.owns (by repeat (first | exact Spl.nil | (apply Spl.cons (by repeat (first | exact Del.head | apply Del.tail))))))) ?_
  rintro _ w26 ⟨rfl, hC26⟩
  replace hS := hS.frame (by repeat (first | exact Spl.nil | (apply Spl.cons (by repeat (first | exact Del.head | apply Del.tail))))) hC26 (by intro r hr g hg; simp only [List.mem_cons, List.not_mem_nil, or_false] at hr; rcases hr with rfl | rfl | rfl <;> first | (simp [Res.reads] at hg; done) | exact .inr ⟨_, by simp, .inr hg⟩)
  simp only [List.cons_append, List.nil_append] at hS
  try simp only [opv, n1, n2, n3, n4, Value.cells]
  try (have hv3 : (if 0 < xf.length then (3 : Int) else ef) = 3 := by rw [hxf, hef]; rfl)
  try rw [show (if 0 < xf.length then (3 : Int) else ef) = 3 by rw [hxf, hef]; rfl]
  refine s_go (s_assign) ?_
  try simp only [opv, n1, n2, n3, n4, Value.cells]
  refine y_nilf ?_
  refine hK10 _ _ ?_
  refine y_seq fun K11 hK11 => ?_
  refine y_region (by kernel_rfl) ?_
  refine s_go (s_move) ?_
  try simp only [opv, n1, n2, n3, n4, Value.cells]
  refine s_go (s_neq) ?_
  try simp only [opv, n1, n2, n3, n4, Value.cells]
  refine y_nilf ?_
  refine hK11 _ _ ?_
  refine y_cond (ht := fun hc2 => ?_) (hf := fun hc2 => ?_)
  ·
   try simp only [decide_eq_true_eq, decide_eq_false_iff_not, Bool.not_eq_true', Bool.not_eq_false', Int.not_lt, Int.not_le, ne_eq, Decidable.not_not, bne_iff_ne, beq_iff_eq, not_true_eq_false, not_false_eq_true] at hc2
   try have hE : decP bs = ([], if 0 < xf.length then 3 else ef) := by rw [hD2, if_neg hc2]
   refine y_seq fun K12 hK12 => ?_
   refine y_region (by kernel_rfl) ?_
   refine s_go (s_move) ?_
   try simp only [opv, n1, n2, n3, n4, Value.cells]
   refine m_store_obj ti22 (hS := hS) (hc := by (exact splice_whole (by (simp [opv, Value.cells, *]; done)))) (hv := by rfl) (hfit := by (simp [*]; done)) (h1 := by simp [opv, Value.cells, Value.oneCell']) (h := fun w27 hS => ?_)
   try simp only [opv, n1, n2, n3, n4, Value.cells, Array.toArray_toList] at hS ⊢
   refine s_go (s_assign) ?_
   try simp only [opv, n1, n2, n3, n4, Value.cells]
   refine y_nilf ?_
   refine hK12 _ _ ?_
   refine y_ret ?_
   refine rm_mark hS (by repeat (first | exact Upd.head | apply Upd.tail)) (fun w28 hS => ?_)
   refine rm_nil ?_
   refine r_cell_tmp_one rfl Tryz.underlying22 (hS := hS) (hR := ?_)
   exact ⟨none, 0, by rw [hE]; rfl, by rw [hE]; exact (hS.nil_vec 88 21).sel (by repeat (first | exact Sel.nil | (refine Sel.cons (by repeat (exact Del.head)) ?_)))⟩
  ·
   try simp only [decide_eq_true_eq, decide_eq_false_iff_not, Bool.not_eq_true', Bool.not_eq_false', Int.not_lt, Int.not_le, ne_eq, Decidable.not_not, bne_iff_ne, beq_iff_eq, not_true_eq_false, not_false_eq_true] at hc2
   have hE : decP bs = ((decR bs).1, 0) := by rw [hD2, if_pos hc2]
   refine y_skip ?_
   refine hK9 _ _ ?_
   refine y_seq fun K13 hK13 => ?_
   refine y_region (by kernel_rfl) ?_
   refine s_go (m_load_obj Tryz.underlying22 (hS := hS) (hv := by rfl)) ?_
   try simp only [opv, n1, n2, n3, n4, Value.cells, List.getElem_toArray, List.getElem_cons_zero, List.getElem_cons_succ]
   refine m_store_obj ti22 (hS := hS) (hc := by (exact splice_whole (by (simp [opv, Value.cells, *]; done)))) (hv := by rfl) (hfit := by (simp [*]; done)) (h1 := by simp [opv, Value.cells, Value.oneCell']) (h := fun w29 hS => ?_)
   try simp only [opv, n1, n2, n3, n4, Value.cells, Array.toArray_toList] at hS ⊢
   refine s_go (s_assign) ?_
   try simp only [opv, n1, n2, n3, n4, Value.cells]
   refine y_nilf ?_
   refine hK13 _ _ ?_
   refine y_ret ?_
   refine rm_mark hS (by repeat (first | exact Upd.head | apply Upd.tail)) (fun w30 hS => ?_)
   refine rm_nil ?_
   refine r_cell_tmp_one rfl Tryz.underlying22 (hS := hS) (hR := ?_)
   rw [hE]
   exact ⟨_, _, rfl, hS.sel (by repeat (first | exact Sel.nil | (refine Sel.cons (by repeat (first | exact Del.head | apply Del.tail)) ?_)))⟩
 case rft1 =>
  exact hX.elim
 case rfe1 =>
  refine y_ex_cons (fun D1 T1 w31 R1 hX hS => ?_) ?_
  ·
   obtain ⟨Af, cf, ef, xf, B, d, kx, hcf, hE, hef, hxf, rfl⟩ := hX
   simp only [List.cons_append, List.nil_append] at hS
   refine (look_here ?_)
   refine hK4 _ _ ?_
   refine y_seq fun K14 hK14 => ?_
   refine y_seq fun K15 hK15 => ?_
   refine y_region (by kernel_rfl) ?_
   refine s_go (m_load_obj Tryz.underlying130 (hS := hS) (hv := by rfl)) ?_
   try simp only [opv, n1, n2, n3, n4, Value.cells, List.getElem_toArray, List.getElem_cons_zero, List.getElem_cons_succ]
   refine s_call en89 ?_
   try simp only [opv, n1, n2, n3, n4, Value.cells, List.map_toArray, List.map_cons, List.map_nil, List.append_toArray, List.cons_append, List.nil_append, Array.append_empty]
   refine CallR.mono (c_cDone _ g (ef) Af cf (xf) hcf (hS.owns (by repeat (first | exact Spl.nil | (apply Spl.cons (by repeat (first | exact Del.head | apply Del.tail))))))) ?_
   rintro _ w32 ⟨rfl, hC32⟩
   replace hS := hS.frame (by repeat (first | exact Spl.nil | (apply Spl.cons (by repeat (first | exact Del.head | apply Del.tail))))) hC32 (by intro r hr g hg; simp only [List.mem_cons, List.not_mem_nil, or_false] at hr; rcases hr with rfl | rfl | rfl <;> first | (simp [Res.reads] at hg; done) | exact .inr ⟨_, by simp, .inr hg⟩)
   simp only [List.cons_append, List.nil_append] at hS
   try simp only [opv, n1, n2, n3, n4, Value.cells]
   try (have hv3 : (if 0 < xf.length then (3 : Int) else ef) = 3 := by rw [hxf, hef]; rfl)
   try rw [show (if 0 < xf.length then (3 : Int) else ef) = 3 by rw [hxf, hef]; rfl]
   refine s_go (s_assign) ?_
   try simp only [opv, n1, n2, n3, n4, Value.cells]
   refine y_nilf ?_
   refine hK15 _ _ ?_
   refine y_seq fun K16 hK16 => ?_
   refine y_region (by kernel_rfl) ?_
   refine s_go (s_move) ?_
   try simp only [opv, n1, n2, n3, n4, Value.cells]
   refine s_go (s_neq) ?_
   try simp only [opv, n1, n2, n3, n4, Value.cells]
   refine y_nilf ?_
   refine hK16 _ _ ?_
   refine y_cond (ht := fun hc3 => ?_) (hf := fun hc3 => ?_)
   ·
    try simp only [decide_eq_true_eq, decide_eq_false_iff_not, Bool.not_eq_true', Bool.not_eq_false', Int.not_lt, Int.not_le, ne_eq, Decidable.not_not, bne_iff_ne, beq_iff_eq, not_true_eq_false, not_false_eq_true] at hc3
    try have hE : decP bs = ([], if 0 < xf.length then 3 else ef) := by rw [hD2, if_neg hc3]
    refine y_seq fun K17 hK17 => ?_
    refine y_region (by kernel_rfl) ?_
    refine s_go (s_move) ?_
    try simp only [opv, n1, n2, n3, n4, Value.cells]
    refine m_store_obj ti22 (hS := hS) (hc := by (exact splice_whole (by (simp [opv, Value.cells, *]; done)))) (hv := by rfl) (hfit := by (simp [*]; done)) (h1 := by simp [opv, Value.cells, Value.oneCell']) (h := fun w33 hS => ?_)
    try simp only [opv, n1, n2, n3, n4, Value.cells, Array.toArray_toList] at hS ⊢
    refine s_go (s_assign) ?_
    try simp only [opv, n1, n2, n3, n4, Value.cells]
    refine y_nilf ?_
    refine hK17 _ _ ?_
    refine y_ret ?_
    refine rm_mark hS (by repeat (first | exact Upd.head | apply Upd.tail)) (fun w34 hS => ?_)
    refine rm_nil ?_
    refine r_cell_tmp_one rfl Tryz.underlying22 (hS := hS) (hR := ?_)
    exact ⟨none, 0, by rw [hE]; rfl, by rw [hE]; exact (hS.nil_vec 88 21).sel (by repeat (first | exact Sel.nil | (refine Sel.cons (by repeat (exact Del.head)) ?_)))⟩
   ·
    try simp only [decide_eq_true_eq, decide_eq_false_iff_not, Bool.not_eq_true', Bool.not_eq_false', Int.not_lt, Int.not_le, ne_eq, Decidable.not_not, bne_iff_ne, beq_iff_eq, not_true_eq_false, not_false_eq_true] at hc3
    (exfalso; omega)
  exact y_ex_nil
end Go.Proofs.YtffmanidnlbjjaaGreat
set_option linter.unusedSimpArgs false
set_option linter.unusedVariables false
set_option maxHeartbeats 3000000
set_option maxRecDepth 100000
namespace Go.Proofs.YtffmanidnlbjjaaGreat
open Go.RowKit

theorem enc_nil : encP [] = ([0], 0) := by decide +kernel
theorem dec_0 : decP [0] = ([], 0) := by decide +kernel
theorem b0_byt : Byt [0] := by unfold Byt; decide

theorem c_law22alive  (w0 : World) :
    CallR Tryz.prog 39 #[] w0 fun v w' => v = .bool true ∧ Ext w0 w' := by
 have hS : St NoB w0 w0 [] := St.start w0
 replace hS := hS.nil_vec 88 21
 refine c_enter (l := [undef, undef, undef, undef, undef, undef, undef, undef, undef, undef, undef, undef, undef, undef, undef, undef, undef, undef, undef, undef, undef, undef, undef, undef, undef, undef, undef, undef, undef, undef, undef, undef, undef, undef]) Tryz.func39 rfl (by simp only [Tryz.ntmps39, List.size_toArray, List.length_cons, List.length_nil, Nat.reduceAdd, Nat.reduceSub, Array.replicate_succ, Array.replicate_zero, List.push_toArray, List.append_toArray, List.nil_append, List.cons_append]) ?_
 refine x_seq fun K1 hK1 => ?_
 refine x_region ?_
 refine s_go (s_assign) ?_
 try simp only [opv, n1, n2, n3, n4, Value.cells]
 refine x_nil ?_
 refine hK1 _ _ ?_
 refine x_seq fun K2 hK2 => ?_
 refine x_region ?_
 refine s_call en42 ?_
 try simp only [opv, n1, n2, n3, n4, Value.cells, List.map_toArray, List.map_cons, List.map_nil, List.append_toArray, List.cons_append, List.nil_append, Array.append_empty]
 refine CallR.mono (c_codecEncode _ none 0 [] (hS.vecRd (by repeat (exact Has.head))) AOks.nil (by simp)) ?_
 rintro _ w1 ⟨A1, c1, rfl, hC1⟩
 replace hS := hS.call hC1
 simp only [List.cons_append, List.nil_append] at hS
 simp only [enc_nil, dec_0, List.length_cons, List.length_nil, Nat.zero_add] at hS ⊢
 try simp only [opv, n1, n2, n3, n4, Value.cells]
 refine s_go (s_move) ?_
 try simp only [opv, n1, n2, n3, n4, Value.cells]
 refine s_go (s_extract (hv := rfl)) ?_
 try simp only [List.getElem_toArray, List.getElem_cons_zero, List.getElem_cons_succ]
 try simp only [opv, n1, n2, n3, n4, Value.cells]
 refine s_go (s_extract (hv := rfl)) ?_
 try simp only [List.getElem_toArray, List.getElem_cons_zero, List.getElem_cons_succ]
 try simp only [opv, n1, n2, n3, n4, Value.cells]
 refine s_go (s_assign) ?_
 try simp only [opv, n1, n2, n3, n4, Value.cells]
 refine s_go (s_assign) ?_
 try simp only [opv, n1, n2, n3, n4, Value.cells]
 refine x_nil ?_
 refine hK2 _ _ ?_
 refine x_seq fun K3 hK3 => ?_
 refine x_region ?_
 refine s_go (s_move) ?_
 try simp only [opv, n1, n2, n3, n4, Value.cells]
 refine s_call en40 ?_
 try simp only [opv, n1, n2, n3, n4, Value.cells, List.map_toArray, List.map_cons, List.map_nil, List.append_toArray, List.cons_append, List.nil_append, Array.append_empty]
 refine CallR.mono (c_codecDecode _ _ _ [0] (hS.vecRd (by repeat (exact Has.head))) b0_byt (by simp)) ?_
 rintro _ w2 ⟨A2, c2, rfl, hC2⟩
 replace hS := hS.call hC2
 simp only [List.cons_append, List.nil_append] at hS
 simp only [enc_nil, dec_0, List.length_cons, List.length_nil, Nat.zero_add] at hS ⊢
 try simp only [opv, n1, n2, n3, n4, Value.cells]
 refine s_go (s_move) ?_
 try simp only [opv, n1, n2, n3, n4, Value.cells]
 refine s_go (s_extract (hv := rfl)) ?_
 try simp only [List.getElem_toArray, List.getElem_cons_zero, List.getElem_cons_succ]
 try simp only [opv, n1, n2, n3, n4, Value.cells]
 refine s_go (s_extract (hv := rfl)) ?_
 try simp only [List.getElem_toArray, List.getElem_cons_zero, List.getElem_cons_succ]
 try simp only [opv, n1, n2, n3, n4, Value.cells]
 refine s_go (s_assign) ?_
 try simp only [opv, n1, n2, n3, n4, Value.cells]
 refine s_go (s_assign) ?_
 try simp only [opv, n1, n2, n3, n4, Value.cells]
 refine x_nil ?_
 refine hK3 _ _ ?_
 refine x_seq fun K4 hK4 => ?_
 refine x_region ?_
 refine s_go (s_move) ?_
 try simp only [opv, n1, n2, n3, n4, Value.cells]
 refine m_buildRow (cells := #[_]) Tryz.underlying73 ti5 (hc := by simp only [List.map_toArray, List.map_cons, List.map_nil, opv, n1, n2, n3, n4, Value.cells, List.toList_toArray]; (repeat (refine fill_cons rfl rfl (Nat.le_of_ble_eq_true rfl) ?_)); rfl) (hS := hS) (h := fun w3 g3 hS => ?_)
 try simp only [opv, n1, n2, n3, n4, Value.cells, Array.toArray_toList] at hS ⊢
 replace hS := hS.obj_rd (sz := 1) (n := 1) rfl .head
 refine s_call en46 ?_
 try simp only [opv, n1, n2, n3, n4, Value.cells, List.map_toArray, List.map_cons, List.map_nil, List.append_toArray, List.cons_append, List.nil_append, Array.append_empty]
 refine CallR.mono (c_ref03Same _ _ _ _ _ _ _ [0] [0] (hS.vecRd (by repeat (first | exact Has.head | apply Has.tail))) (hS.hasRd (by repeat (exact Has.head))) rfl rfl (by simp)) ?_
 rintro _ w4 ⟨rfl, hE4⟩
 replace hS := hS.ext hE4
 try simp only [opv, n1, n2, n3, n4, Value.cells]
 try simp only [eq_self, decide_true, beq_self_eq_true, Bool.and_self]
 refine s_go (s_move) ?_
 try simp only [opv, n1, n2, n3, n4, Value.cells]
 refine g_on (yi (t := 17) rfl rfl) ?_
 refine s_go (s_move) ?_
 try simp only [opv, n1, n2, n3, n4, Value.cells]
 refine g_on (yi (t := 17) rfl rfl) ?_
 refine s_go (s_eql) ?_
 try simp only [opv, n1, n2, n3, n4, Value.cells]
 try simp only [eq_self, decide_true, beq_self_eq_true, Bool.and_self]
 refine s_go (s_pick_t) ?_
 try simp only [opv, n1, n2, n3, n4, Value.cells]
 refine s_go (s_move) ?_
 try simp only [opv, n1, n2, n3, n4, Value.cells]
 refine g_on (yi (t := 21) rfl rfl) ?_
 refine s_go (s_move) ?_
 try simp only [opv, n1, n2, n3, n4, Value.cells]
 refine g_on (yi (t := 21) rfl rfl) ?_
 refine s_go (s_len_sl Tryz.underlying22) ?_
 try simp only [opv, n1, n2, n3, n4, Value.cells]
 refine g_on (yi (t := 21) rfl rfl) ?_
 refine s_go (s_eql) ?_
 try simp only [opv, n1, n2, n3, n4, Value.cells]
 rw [show decide (((0 : Nat) : Int) = 0) = true from rfl]
 refine s_go (s_pick_t) ?_
 try simp only [opv, n1, n2, n3, n4, Value.cells]
 refine s_go (s_move) ?_
 try simp only [opv, n1, n2, n3, n4, Value.cells]
 refine g_on (yi (t := 26) rfl rfl) ?_
 refine s_go (s_move) ?_
 try simp only [opv, n1, n2, n3, n4, Value.cells]
 refine g_on (yi (t := 26) rfl rfl) ?_
 refine s_go (s_eql) ?_
 try simp only [opv, n1, n2, n3, n4, Value.cells]
 try simp only [eq_self, decide_true, beq_self_eq_true, Bool.and_self]
 refine s_go (s_pick_t) ?_
 try simp only [opv, n1, n2, n3, n4, Value.cells]
 refine s_go (s_move) ?_
 try simp only [opv, n1, n2, n3, n4, Value.cells]
 refine g_on (yi (t := 30) rfl rfl) ?_
 refine s_call en47 ?_
 try simp only [opv, n1, n2, n3, n4, Value.cells, List.map_toArray, List.map_cons, List.map_nil, List.append_toArray, List.cons_append, List.nil_append, Array.append_empty]
 refine CallR.mono (c_codecSize _ none 0 [] (hS.vecRd (by repeat (first | exact Has.head | apply Has.tail))) AOks.nil (by simp)) ?_
 rintro _ w5 ⟨rfl, hE5⟩
 replace hS := hS.ext hE5
 try simp only [opv, n1, n2, n3, n4, Value.cells]
 simp only [enc_nil, List.length_cons, List.length_nil, Nat.zero_add]
 refine g_on (yi (t := 30) rfl rfl) ?_
 refine s_go (s_eql) ?_
 try simp only [opv, n1, n2, n3, n4, Value.cells]
 rw [show decide (((1 : Nat) : Int) = 1) = true from rfl]
 refine s_go (s_pick_t) ?_
 try simp only [opv, n1, n2, n3, n4, Value.cells]
 refine s_go (s_assign) ?_
 try simp only [opv, n1, n2, n3, n4, Value.cells]
 refine x_nil ?_
 refine hK4 _ _ ?_
 refine x_ret ?_
 refine r_tmp rfl ?_
 exact ⟨rfl, hS.ext_of⟩
end Go.Proofs.YtffmanidnlbjjaaGreat
set_option linter.unusedSimpArgs false
set_option linter.unusedVariables false
set_option maxHeartbeats 2000000
set_option maxRecDepth 100000
namespace Go.Proofs.YtffmanidnlbjjaaGreat
open Go.RowKit

theorem rdA_enc : ∀ {s : List (List Int)} {ys : List Int}, AOks s → (∀ a ∈ s, atomR a = true) → rdA s.length 0 (encB s ++ ys) = (s, 0, ys)
  | [], _, _, _ => rfl
  | a :: s, ys, h, hr => by
    have hb : atmS 0 (encB (a :: s) ++ ys) = (a, 0, encB s ++ ys) := by
      rw [atmS_atomS, encB_cons, List.append_assoc]; exact atomS_back (h a (by simp)) (hr a (by simp)) _
    show rdA (s.length + 1) 0 _ = _
    rw [rdA_ok (by rw [hb]), hb]
    dsimp only
    rw [rdA_enc (fun b hb => h b (by simp [hb])) fun b hb => hr b (by simp [hb])]
theorem rgt_ord {s : List (List Int)} : ∀ {n : Nat}, rgt s n = true → ordN s n = true
  | 0, _ => rfl
  | n + 1, h => by
    rw [rgt, Bool.and_eq_true] at h
    have h2 : (atomR (s.getD n []) && ordAt s n) = true := h.2
    rw [Bool.and_eq_true] at h2
    rw [ordN, rgt_ord h.1, h2.2]; rfl
theorem ord_sta {s : List (List Int)} (h : StaR s) : ordL s = true := rgt_ord ((right_iff h.ok).2 h)
theorem dec_enc {l : List (List Int)} (h : AOks l) (hn : (normP l).length ≤ 4096) : decP (encP l).1 = (normP l, 0) ∧ (encP l).2 = 0 := by
  have hs := norm_sta h
  have hE : encP l = (vari (normP l).length ++ encB (normP l), 0) := if_neg (by omega)
  have hR : decR (encP l).1 = (normP l, 0, []) := by
    rw [hE, decR]
    dsimp only
    rw [numS_back (by omega) hn]
    have := rdA_enc (ys := []) hs.ok hs.right
    rw [List.append_nil] at this; exact this
  refine ⟨?_, by rw [hE]⟩
  rw [decP, hR]
  dsimp only
  rw [if_neg (by rw [ord_sta hs]; decide)]; rfl
theorem enc_inj {a b : List (List Int)} (ha : AOks a) (hb : AOks b) (hna : (normP a).length ≤ 4096) (hnb : (normP b).length ≤ 4096) : (encP a).1 = (encP b).1 ↔ normP a = normP b := by
  constructor
  · intro h
    have h1 := (dec_enc ha hna).1
    rw [h, (dec_enc hb hnb).1] at h1
    exact (Prod.mk.inj h1).1.symm
  · intro h
    unfold encP; rw [h]
theorem encB_byt : ∀ {s : List (List Int)}, AOks s → Byt (encB s)
  | [], _ => fun y hy => by cases hy
  | a :: s, h => by rw [encB_cons]; exact Byt.app (atomOut_byt (h a (by simp))) (encB_byt fun b hb => h b (by simp [hb]))
theorem encP_byt {l : List (List Int)} (h : AOks l) : Byt (encP l).1 := by
  unfold encP
  split
  · intro y hy; cases hy
  · exact Byt.app (vari_byt _) (encB_byt (norm_sta h).ok)
end Go.Proofs.YtffmanidnlbjjaaGreat
set_option linter.unusedSimpArgs false
set_option linter.unusedVariables false
set_option maxHeartbeats 2000000
set_option maxRecDepth 100000
namespace Go.Proofs.YtffmanidnlbjjaaGreat
open Go.RowKit

theorem namS_inv {e : Int} {xs : List Int} (hb : Byt xs) (h : (namS e xs).2.1 = 0) : e = 0 ∧ xs = nmOut (namS e xs).1 ++ (namS e xs).2.2 ∧ ((namS e xs).1 = nm0 ∨ nright (namS e xs).1 = true) := by
  have he := namS_zero h
  subst he
  match xs, hb, h with
  | [], _, h => exact absurd h (by simp [namS])
  | x :: l, hb, h =>
    have hx := hb x (by simp)
    by_cases h8 : x ≤ 8
    · by_cases hk : 1 + x.toNat ≤ (x :: l).length
      · by_cases hc : x = 0 ∨ isN (l.take x.toNat) = true
        · have hE : namS 0 (x :: l) = (padN (l.take x.toNat), 0, l.drop x.toNat) := by
            simp only [namS, if_true]
            rw [if_pos (by simp), if_pos (by simpa using h8), if_pos (by simpa using hk)]
            rw [if_pos (by simpa using hc)]
            simp [Nat.add_comm 1]
          rw [hE]
          dsimp only
          rw [List.length_cons] at hk
          have hl : (l.take x.toNat).length = x.toNat := by rw [List.length_take]; omega
          by_cases h0 : x = 0
          · subst h0
            refine ⟨rfl, ?_, .inl ?_⟩
            · show (0 : Int) :: l = nmOut (padN (l.take 0)) ++ l.drop 0
              rw [List.take_zero, List.drop_zero]; rfl
            · show padN (l.take 0) = nm0
              rw [List.take_zero]; rfl
          · have hI := hc.resolve_left h0
            have ht := nmTxt_pad hI
            have hz : nsz (padN (l.take x.toNat)) = x.toNat := by rw [← nmTxt_len, ht, hl]
            refine ⟨rfl, ?_, .inr ?_⟩
            · rw [nmOut, hz, ht, List.cons_append, List.take_append_drop]
              congr 1; omega
            · rw [nright_eq (padN_len _), ht, hI, decide_eq_true rfl]; rfl
        · exfalso
          simp only [namS, if_true] at h
          rw [if_pos (by simp), if_pos (by simpa using h8), if_pos (by simpa using hk), if_neg (by simpa using hc)] at h
          exact absurd h (by decide)
      · exfalso
        simp only [namS, if_true] at h
        rw [if_pos (by simp), if_pos (by simpa using h8), if_neg (by simpa using hk)] at h
        exact absurd h (by decide)
    · exfalso
      simp only [namS, if_true] at h
      rw [if_pos (by simp), if_neg (by simpa using h8)] at h
      exact absurd h (by decide)
theorem mkKey_kn {s c r q : Nat} {l : List Int} (h : l.length = 8) : kn (mkKey s c l r q) 0 = s ∧ kn (mkKey s c l r q) 1 = c ∧ kn (mkKey s c l r q) 10 = r ∧ kn (mkKey s c l r q) 11 = q ∧ kitem (mkKey s c l r q) = l := by
  match l, h with
  | [_, _, _, _, _, _, _, _], _ => exact ⟨rfl, rfl, rfl, rfl, rfl⟩
theorem keyS_inv {e : Int} {xs : List Int} (hb : Byt xs) (h : (keyS e xs).2.1 = 0) : e = 0 ∧ xs = keyOut (keyS e xs).1 ++ (keyS e xs).2.2 ∧ keyR (keyS e xs).1 = true := by
  have hb1 := kS1_byt (e := e) hb
  have hb2 := kS2_byt (e := e) hb
  have hb3 := kS3_byt (e := e) hb
  have hb4 := kS4_byt (e := e) hb
  have hav := oneS_val (e := e) hb
  by_cases h1 : (kS1 e xs).1 = 0
  · obtain ⟨o1, o2, o3⟩ := kS1_zero h1
    obtain ⟨i1, i2⟩ := oneS_inv o1
    by_cases h2 : (kS2 e xs).1 = 0
    · obtain ⟨_, j2⟩ := numS_inv (m := 65535) hb1 h2
      have e1 : xs = kA e xs :: (kS1 e xs).2 := by rw [o3]; exact i2
      have e2 : xs = kA e xs :: (vari (kC e xs) ++ (kS2 e xs).2) := e1.trans (congrArg (kA e xs :: ·) j2)
      by_cases h4 : kA e xs = 4
      · rw [keyS_3 h1 h2 h4]
        obtain ⟨k0, k1, k10, k11, ki⟩ := mkKey_kn (s := 4) (c := kC e xs) (r := 0) (q := 0) (l := nm0) rfl
        refine ⟨i1, ?_, ?_⟩
        · show xs = keyOut (mkKey 4 (kC e xs) nm0 0 0) ++ (kS2 e xs).2
          rw [keyOut, k0, k1, if_pos rfl, List.append_nil, List.append_assoc]
          rw [h4] at e2; exact e2
        · show keyR (mkKey 4 (kC e xs) nm0 0 0) = true
          rw [keyR, k0, if_pos rfl, bareK, k0, k1]; exact decide_eq_true rfl
      · by_cases h5 : (kS4 e xs).1 = 0
        · obtain ⟨p1, p2, p3⟩ := kS4_zero h5
          obtain ⟨q1, q2⟩ := oneS_inv p1
          obtain ⟨r1, r2, r3⟩ := kS3_zero q1
          obtain ⟨_, s2, s3⟩ := namS_inv hb2 r1
          have hrv := oneS_val (e := (kS3 e xs).1) hb3
          have hnr := s3.resolve_left r2
          have hnl := namS_len (kS2 e xs).1 (kS2 e xs).2
          have e3 : (kS2 e xs).2 = nmOut (kN e xs) ++ (kS3 e xs).2 := by rw [r3]; exact s2
          have e4 : (kS3 e xs).2 = kR e xs :: (kS4 e xs).2 := by rw [p3]; exact q2
          have ha : ((kA e xs).toNat : Int) = kA e xs := Int.toNat_of_nonneg hav.1
          have hr : ((kR e xs).toNat : Int) = kR e xs := Int.toNat_of_nonneg hrv.1
          by_cases h6 : kA e xs = 1
          · by_cases h7 : (kS5 e xs).1 = 0
            · obtain ⟨t1, t2, t3⟩ := kS5_zero h7
              obtain ⟨_, u2⟩ := numS_inv (m := 4294967295) hb4 t1
              have e5 : (kS4 e xs).2 = vari (kQ e xs) ++ (kS5 e xs).2 := by rw [t3]; exact u2
              rw [keyS_7 h1 h2 h5 h6 h7]
              obtain ⟨k0, k1, k10, k11, ki⟩ := mkKey_kn (s := 1) (c := kC e xs) (r := (kR e xs).toNat) (q := kQ e xs) hnl
              refine ⟨i1, ?_, ?_⟩
              · show xs = keyOut (mkKey 1 (kC e xs) (kN e xs) (kR e xs).toNat (kQ e xs)) ++ (kS5 e xs).2
                rw [keyOut, k0, k1, k10, k11, ki, if_neg (by decide), if_pos rfl, hr]
                rw [h6, e3, e4, e5] at e2
                simpa using e2
              · show keyR (mkKey 1 (kC e xs) (kN e xs) (kR e xs).toNat (kQ e xs)) = true
                rw [keyR, k0, k10, k11, ki, if_neg (by decide), if_pos rfl, hnr, decide_eq_true t2, decide_eq_true (by omega)]; rfl
            · rw [keyS_6 h1 h2 h5 h6 h7] at h; exact absurd h h7
          · rw [keyS_5 h1 h2 h4 h5 h6]
            obtain ⟨k0, k1, k10, k11, ki⟩ := mkKey_kn (s := (kA e xs).toNat) (c := kC e xs) (r := (kR e xs).toNat) (q := 0) hnl
            refine ⟨i1, ?_, ?_⟩
            · show xs = keyOut (mkKey (kA e xs).toNat (kC e xs) (kN e xs) (kR e xs).toNat 0) ++ (kS4 e xs).2
              rw [keyOut, k0, k1, k10, k11, ki, if_neg (by omega), if_neg (by omega), hr, ha]
              rw [e3, e4] at e2
              simpa using e2
            · show keyR (mkKey (kA e xs).toNat (kC e xs) (kN e xs) (kR e xs).toNat 0) = true
              rw [keyR, k0, k10, k11, ki, if_neg (by omega), if_neg (by omega), if_pos (by omega), hnr, decide_eq_true rfl, decide_eq_true (by omega)]; rfl
        · rw [keyS_4 h1 h2 h4 h5] at h; exact absurd h h5
    · rw [keyS_2 h1 h2] at h; exact absurd h h2
  · rw [keyS_1 h1] at h; exact absurd h h1
theorem bare_nm (n : Nat) : bareV (mkV n nm0) = true := rfl
theorem mkV_kn (n : Nat) (t : List Int) : kn (mkV n t) 0 = n := rfl
theorem mkV_t (n : Nat) (t : List Int) : vtext (mkV n t) = t := rfl
theorem valP_inv {s : Nat} {e : Int} {xs : List Int} (hs : 1 ≤ s ∧ s ≤ 4) (hb : Byt xs) (h : (valP s e xs).2.1 = 0) : e = 0 ∧ xs = valOut s (valP s e xs).1 ++ (valP s e xs).2.2 ∧ valR s (valP s e xs).1 = true := by
  by_cases h1 : s = 1
  · subst h1
    rw [valP_1 rfl] at h ⊢
    dsimp only at h ⊢
    have hf := failS_0 (e2 := 3) (fun _ => by decide) h
    rw [hf.1, failS_no] at h ⊢
    obtain ⟨i1, i2⟩ := oneS_inv h
    have hv := oneS_val (e := e) hb
    have h12 : (oneS e xs).1 = 1 ∨ (oneS e xs).1 = 2 := by
      have := hf.1
      simp only [Bool.and_eq_false_iff, decide_eq_false_iff_not, Decidable.not_not] at this
      exact this
    have ha : (((oneS e xs).1.toNat : Nat) : Int) = (oneS e xs).1 := Int.toNat_of_nonneg hv.1
    refine ⟨i1, ?_, ?_⟩
    · rw [valOut, if_pos rfl, mkV_kn]
      have : (((oneS e xs).1.toNat % 256 : Nat) : Int) = (oneS e xs).1 := by omega
      rw [this]; exact i2
    · rw [valR, if_pos rfl, mkV_kn, bare_nm, decide_eq_true (by omega)]; rfl
  · by_cases h23 : s = 2 ∨ s = 3
    · rw [valP_2 h23] at h ⊢
      dsimp only at h ⊢
      have hf := failS_0 (e2 := 3) (fun _ => by decide) h
      rw [hf.1, failS_no] at h ⊢
      obtain ⟨i1, i2⟩ := numS_inv hb h
      have hl := numS_le 4294967295 e xs
      have h0 : ¬ (numS 4294967295 e xs).1 = 0 := of_decide_eq_false hf.1
      refine ⟨i1, ?_, ?_⟩
      · rw [valOut, if_neg h1, if_neg (by omega), mkV_kn]; exact i2
      · rw [valR, if_neg h1, if_pos h23, mkV_kn, bare_nm, decide_eq_true (by omega)]; rfl
    · have h4 : s = 4 := by omega
      subst h4
      rw [valP_4 rfl] at h ⊢
      dsimp only at h ⊢
      have hn := namS_zero h
      have hf := failS_0 (e2 := stampE (numS 1099511627775 e xs).1) (fun hq => by simpa using hq) hn
      rw [hf.1, failS_no] at h ⊢
      obtain ⟨i1, i2⟩ := numS_inv hb hf.2
      have hst : stampE (numS 1099511627775 e xs).1 = 0 := by simpa using hf.1
      obtain ⟨_, j2, j3⟩ := namS_inv (numS_byt hb) h
      refine ⟨i1, ?_, ?_⟩
      · rw [valOut, if_neg (by decide), if_pos rfl, mkV_kn, mkV_t, List.append_assoc, ← j2]; exact i2
      · rw [valR, if_neg (by decide), if_neg (by decide), if_pos rfl, mkV_kn, mkV_t, hst, decide_eq_true rfl, Bool.true_and, bareV, mkV_t]
        rcases j3 with j3 | j3
        · rw [j3]; rfl
        · rw [j3, Bool.or_true]
theorem keyR_sort4 {x : List Int} (h : keyR x = true) : 1 ≤ kn x 0 ∧ kn x 0 ≤ 4 := by
  unfold keyR at h
  split at h
  · omega
  · split at h
    · omega
    · split at h
      · omega
      · cases h
theorem atmS_inv {e : Int} {xs : List Int} (hb : Byt xs) (h : (atmS e xs).2.1 = 0) : e = 0 ∧ xs = atomOut (atmS e xs).1 ++ (atmS e xs).2.2 ∧ atomR (atmS e xs).1 = true := by
  by_cases hk : (keyS e xs).2.1 = 0
  · obtain ⟨a1, a2, a3⟩ := keyS_inv hb hk
    by_cases hv : (valP (kn (keyS e xs).1 0) (keyS e xs).2.1 (keyS e xs).2.2).2.1 = 0
    · obtain ⟨_, b2, b3⟩ := valP_inv (keyR_sort4 a3) (keyS_byt hb) hv
      have hl := keyS_l12 e hb
      rw [atmS_yes hk hv]
      dsimp only
      have hK : akey ((keyS e xs).1 ++ (valP (kn (keyS e xs).1 0) (keyS e xs).2.1 (keyS e xs).2.2).1) = (keyS e xs).1 := akey_kv hl
      have hV : aval ((keyS e xs).1 ++ (valP (kn (keyS e xs).1 0) (keyS e xs).2.1 (keyS e xs).2.2).1) = (valP (kn (keyS e xs).1 0) (keyS e xs).2.1 (keyS e xs).2.2).1 := aval_kv hl
      have h0 : kn ((keyS e xs).1 ++ (valP (kn (keyS e xs).1 0) (keyS e xs).2.1 (keyS e xs).2.2).1) 0 = kn (keyS e xs).1 0 := by
        have := akeyk_0 (kv_ok (keyS_key (e := e) hb) (valP_val (s := kn (keyS e xs).1 0) (e := (keyS e xs).2.1) (keyS_byt (e := e) hb)))
        rw [hK] at this; exact this.symm
      have hR : atomR ((keyS e xs).1 ++ (valP (kn (keyS e xs).1 0) (keyS e xs).2.1 (keyS e xs).2.2).1) = true := by
        rw [atomR, hK, hV, h0, a3, b3]; rfl
      refine ⟨a1, ?_, hR⟩
      rw [atomOut, if_pos hR, hK, hV, h0, List.append_assoc, ← b2]
      exact a2
    · rw [atmS_no hk hv] at h; exact absurd h hv
  · rw [atmS_key hk] at h; exact absurd h hk
theorem rdA_inv : ∀ {n : Nat} {e : Int} {xs : List Int}, Byt xs → (rdA n e xs).2.1 = 0 → e = 0 ∧ xs = encB (rdA n e xs).1 ++ (rdA n e xs).2.2 ∧ (rdA n e xs).1.length = n ∧ ∀ a ∈ (rdA n e xs).1, atomR a = true
  | 0, e, xs, _, h => ⟨h, rfl, rfl, fun a ha => by cases ha⟩
  | n + 1, e, xs, hb, h => by
    by_cases h0 : (atmS e xs).2.1 = 0
    · rw [rdA_ok h0] at h ⊢
      dsimp only at h ⊢
      obtain ⟨a1, a2, a3⟩ := atmS_inv hb h0
      obtain ⟨b1, b2, b3, b4⟩ := rdA_inv (atmS_byt hb) h
      refine ⟨a1, ?_, by rw [List.length_cons, b3], fun a ha => ?_⟩
      · rw [encB_cons, List.append_assoc, ← b2]; exact a2
      · rcases List.mem_cons.1 ha with rfl | ha
        · exact a3
        · exact b4 a ha
    · rw [rdA_no h0] at h; exact absurd h h0
theorem ord_rgt {s : List (List Int)} (hr : ∀ a ∈ s, atomR a = true) : ∀ {n : Nat}, n ≤ s.length → ordN s n = true → rgt s n = true
  | 0, _, _ => rfl
  | n + 1, hn, h => by
    rw [ordN, Bool.and_eq_true] at h
    rw [rgt, ord_rgt hr (by omega) h.1]
    have h2 : rgtAt s n = (atomR (s.getD n []) && ordAt s n) := rfl
    rw [h2, h.2, hr _ (getD_mem' (by omega))]; rfl
theorem dec_inv {bs : List Int} (hb : Byt bs) (h : (decP bs).2 = 0) : rowP (decP bs).1 = (bs, 0) := by
  have hmb := numS_byt (m := 4096) (e := 0) hb
  unfold decP at h ⊢
  split
  · next h1 => rw [if_pos h1] at h; exact absurd h (by decide)
  · next h1 =>
    rw [if_neg h1] at h
    split
    · next h2 =>
      have hfe : (decR bs).2.2 = [] ∧ (decR bs).2.1 = 0 := by
        unfold finE at h2
        split at h2
        · cases h2
        · next h3 => exact ⟨List.eq_nil_of_length_eq_zero (by omega), h2⟩
      obtain ⟨a1, a2, a3, a4⟩ := rdA_inv hmb hfe.2
      obtain ⟨b1, b2⟩ := numS_inv hb a1
      have hl := numS_le 4096 0 bs
      have hok := decR_ok hb
      have hsr : rightL (decR bs).1 = true := ord_rgt a4 (Nat.le_refl _) (by
        cases hq : ordL (decR bs).1
        · exact absurd hq h1
        · exact hq)
      have hst := (right_iff hok).1 hsr
      have hid := norm_id hst
      have hlen : (decR bs).1.length = (numS 4096 0 bs).1 := a3
      have hE : encP (decR bs).1 = (bs, 0) := by
        unfold encP
        rw [hid, if_neg (by rw [hlen]; omega), hlen]
        have a2' : (numS 4096 0 bs).2.2 = encB (decR bs).1 ++ (decR bs).2.2 := a2
        rw [hfe.1, List.append_nil] at a2'
        rw [← a2', ← b2]
      rw [rowP, if_neg (fun hq => by rw [hsr] at hq; exact absurd hq.2 (by decide)), hE]
    · next h2 => rw [if_neg h2] at h; exact absurd h h2
theorem dec_nil {bs : List Int} (h : ¬ (decP bs).2 = 0) : (decP bs).1 = [] := by
  unfold decP at h ⊢
  split
  · rfl
  · next h1 =>
    rw [if_neg h1] at h
    split
    · next h2 => rw [if_pos h2] at h; exact absurd rfl h
    · rfl
end Go.Proofs.YtffmanidnlbjjaaGreat
set_option linter.unusedSimpArgs false
set_option linter.unusedVariables false
set_option maxHeartbeats 3000000
set_option maxRecDepth 100000
namespace Go.Proofs.YtffmanidnlbjjaaGreat
open Go.RowKit
theorem c_CodecBack (w0 : World) (A : Option Addr) (c : Nat) (l : List (List Int)) (hr : Rd w0 A 21 l.length (arows l)) (hv : AOks l) (B : Option Addr) (d : Nat) (r : List (List Int)) (hr2 : Rd w0 B 21 r.length (arows r)) (hv2 : AOks r) (C : Option Addr) (ce : Nat) (bs : List Int) (hb : Rd w0 C 1 bs.length (bs.map (Value.int .u8))) (hw : Byt bs) (hbg : l.length ≤ 900000000000000 ∧ r.length ≤ 900000000000000 ∧ bs.length ≤ 900000000000000)  :
    CallR Tryz.prog 10 #[.slice A l.length c, .slice B r.length d, .slice C bs.length ce] w0 fun v w' => v = .bool true ∧ Ext w0 w' := by
 have hS := St.rd3 (S := NoB) hr hr2 hb
 have hel := encP_len hv
 have hel2 := encP_len hv2
 have hnb := norm_len l
 have hnb2 := norm_len r
 have hno := (norm_sta hv).ok
 refine c_enter (l := [.slice A l.length c, .slice B r.length d, .slice C bs.length ce, undef, undef, undef, undef, undef, undef, undef, undef, undef, undef, undef, undef, undef, undef, undef, undef, undef, undef, undef, undef, undef, undef, undef, undef, undef, undef, undef, undef, undef, undef, undef, undef, undef, undef, undef, undef, undef, undef, undef, undef, undef, undef, undef, undef, undef, undef, undef, undef, undef, undef, undef, undef, undef, undef, undef, undef, undef, undef, undef, undef, undef, undef, undef, undef, undef, undef, undef, undef, undef, undef, undef, undef, undef, undef, undef, undef, undef, undef, undef, undef, undef, undef, undef, undef, undef, undef, undef, undef, undef, undef, undef, undef, undef, undef, undef, undef]) Tryz.func10 rfl (by simp only [Tryz.ntmps10, List.size_toArray, List.length_cons, List.length_nil, Nat.reduceAdd, Nat.reduceSub, Array.replicate_succ, Array.replicate_zero, List.push_toArray, List.append_toArray, List.nil_append, List.cons_append]) ?_
 refine x_seq fun K1 hK1 => ?_
 refine x_region ?_
 refine s_go (s_assign) ?_
 try simp only [opv, n1, n2, n3, n4, Value.cells]
 refine x_nil ?_
 refine hK1 _ _ ?_
 refine x_seq fun K2 hK2 => ?_
 refine x_seq fun K3 hK3 => ?_
 refine x_region ?_
 refine s_go (s_move) ?_
 try simp only [opv, n1, n2, n3, n4, Value.cells]
 refine s_go (s_len_sl Tryz.underlying22) ?_
 try simp only [opv, n1, n2, n3, n4, Value.cells]
 refine s_go (s_gtr) ?_
 try simp only [opv, n1, n2, n3, n4, Value.cells]
 refine s_go (s_move) ?_
 try simp only [opv, n1, n2, n3, n4, Value.cells]
 refine s_part 20 rfl (fun hp1 => ?_) (fun hp1 => ?_)
 ·
  try simp only [n3, n4]
  try simp only [decide_eq_true_eq, decide_eq_false_iff_not, Bool.not_eq_true', Bool.not_eq_false', Int.not_lt, Int.not_le, ne_eq, Decidable.not_not] at hp1
  refine g_off (yi (t := 20) rfl rfl) ?_
  try simp only [opv, n1, n2, n3, n4, Value.cells]
  refine g_off (yi (t := 20) rfl rfl) ?_
  try simp only [opv, n1, n2, n3, n4, Value.cells]
  refine g_off (yi (t := 20) rfl rfl) ?_
  try simp only [opv, n1, n2, n3, n4, Value.cells]
  refine s_go (s_pick_t) ?_
  try simp only [opv, n1, n2, n3, n4, Value.cells]
  refine s_go (s_move) ?_
  try simp only [opv, n1, n2, n3, n4, Value.cells]
  refine g_off (yi (t := 25) rfl rfl) ?_
  try simp only [opv, n1, n2, n3, n4, Value.cells]
  refine g_off (yi (t := 25) rfl rfl) ?_
  try simp only [opv, n1, n2, n3, n4, Value.cells]
  refine g_off (yi (t := 25) rfl rfl) ?_
  try simp only [opv, n1, n2, n3, n4, Value.cells]
  refine s_go (s_pick_t) ?_
  try simp only [opv, n1, n2, n3, n4, Value.cells]
  refine x_nil ?_
  refine hK3 _ _ ?_
  refine x_cond_t (h := ?_)
  refine x_seq fun K4 hK4 => ?_
  refine x_region ?_
  refine s_call en39 ?_
  try simp only [opv, n1, n2, n3, n4, Value.cells, List.map_toArray, List.map_cons, List.map_nil, List.append_toArray, List.cons_append, List.nil_append, Array.append_empty]
  refine CallR.mono (c_law22alive _) ?_
  rintro _ w1 ⟨rfl, hE1⟩
  replace hS := hS.ext hE1
  try simp only [opv, n1, n2, n3, n4, Value.cells]
  refine s_go (s_assign) ?_
  try simp only [opv, n1, n2, n3, n4, Value.cells]
  refine x_nil ?_
  refine hK4 _ _ ?_
  refine x_ret ?_
  refine r_tmp rfl ?_
  exact ⟨rfl, hS.ext_of⟩
 ·
  try simp only [n3, n4]
  try simp only [decide_eq_true_eq, decide_eq_false_iff_not, Bool.not_eq_true', Bool.not_eq_false', Int.not_lt, Int.not_le, ne_eq, Decidable.not_not] at hp1
  refine g_on (yi (t := 20) rfl rfl) ?_
  refine s_go (s_move) ?_
  try simp only [opv, n1, n2, n3, n4, Value.cells]
  refine g_on (yi (t := 20) rfl rfl) ?_
  refine s_go (s_len_sl Tryz.underlying22) ?_
  try simp only [opv, n1, n2, n3, n4, Value.cells]
  refine g_on (yi (t := 20) rfl rfl) ?_
  refine s_go (s_gtr) ?_
  try simp only [opv, n1, n2, n3, n4, Value.cells]
  refine s_go (s_pick_f) ?_
  try simp only [opv, n1, n2, n3, n4, Value.cells]
  refine s_go (s_move) ?_
  try simp only [opv, n1, n2, n3, n4, Value.cells]
  refine s_part 25 rfl (fun hp2 => ?_) (fun hp2 => ?_)
  ·
   try simp only [n3, n4]
   try simp only [decide_eq_true_eq, decide_eq_false_iff_not, Bool.not_eq_true', Bool.not_eq_false', Int.not_lt, Int.not_le, ne_eq, Decidable.not_not] at hp2
   refine g_off (yi (t := 25) rfl rfl) ?_
   try simp only [opv, n1, n2, n3, n4, Value.cells]
   refine g_off (yi (t := 25) rfl rfl) ?_
   try simp only [opv, n1, n2, n3, n4, Value.cells]
   refine g_off (yi (t := 25) rfl rfl) ?_
   try simp only [opv, n1, n2, n3, n4, Value.cells]
   refine s_go (s_pick_t) ?_
   try simp only [opv, n1, n2, n3, n4, Value.cells]
   refine x_nil ?_
   refine hK3 _ _ ?_
   refine x_cond_t (h := ?_)
   refine x_seq fun K5 hK5 => ?_
   refine x_region ?_
   refine s_call en39 ?_
   try simp only [opv, n1, n2, n3, n4, Value.cells, List.map_toArray, List.map_cons, List.map_nil, List.append_toArray, List.cons_append, List.nil_append, Array.append_empty]
   refine CallR.mono (c_law22alive _) ?_
   rintro _ w2 ⟨rfl, hE2⟩
   replace hS := hS.ext hE2
   try simp only [opv, n1, n2, n3, n4, Value.cells]
   refine s_go (s_assign) ?_
   try simp only [opv, n1, n2, n3, n4, Value.cells]
   refine x_nil ?_
   refine hK5 _ _ ?_
   refine x_ret ?_
   refine r_tmp rfl ?_
   exact ⟨rfl, hS.ext_of⟩
  ·
   try simp only [n3, n4]
   try simp only [decide_eq_true_eq, decide_eq_false_iff_not, Bool.not_eq_true', Bool.not_eq_false', Int.not_lt, Int.not_le, ne_eq, Decidable.not_not] at hp2
   refine g_on (yi (t := 25) rfl rfl) ?_
   refine s_go (s_move) ?_
   try simp only [opv, n1, n2, n3, n4, Value.cells]
   refine g_on (yi (t := 25) rfl rfl) ?_
   refine s_go (s_len_sl Tryz.underlying73) ?_
   try simp only [opv, n1, n2, n3, n4, Value.cells]
   refine g_on (yi (t := 25) rfl rfl) ?_
   refine s_go (s_gtr) ?_
   try simp only [opv, n1, n2, n3, n4, Value.cells]
   refine s_go (s_pick_f) ?_
   try simp only [opv, n1, n2, n3, n4, Value.cells]
   refine x_nil ?_
   refine hK3 _ _ ?_
   refine x_cond (ht := fun hc3 => ?_) (hf := fun hc3 => ?_)
   ·
    try simp only [decide_eq_true_eq, decide_eq_false_iff_not, Bool.not_eq_true', Bool.not_eq_false', Int.not_lt, Int.not_le, ne_eq, Decidable.not_not, bne_iff_ne, beq_iff_eq, not_true_eq_false, not_false_eq_true] at hc3
    refine x_seq fun K6 hK6 => ?_
    refine x_region ?_
    refine s_call en39 ?_
    try simp only [opv, n1, n2, n3, n4, Value.cells, List.map_toArray, List.map_cons, List.map_nil, List.append_toArray, List.cons_append, List.nil_append, Array.append_empty]
    refine CallR.mono (c_law22alive _) ?_
    rintro _ w3 ⟨rfl, hE3⟩
    replace hS := hS.ext hE3
    try simp only [opv, n1, n2, n3, n4, Value.cells]
    refine s_go (s_assign) ?_
    try simp only [opv, n1, n2, n3, n4, Value.cells]
    refine x_nil ?_
    refine hK6 _ _ ?_
    refine x_ret ?_
    refine r_tmp rfl ?_
    exact ⟨rfl, hS.ext_of⟩
   ·
    try simp only [decide_eq_true_eq, decide_eq_false_iff_not, Bool.not_eq_true', Bool.not_eq_false', Int.not_lt, Int.not_le, ne_eq, Decidable.not_not, bne_iff_ne, beq_iff_eq, not_true_eq_false, not_false_eq_true] at hc3
    have hl5 : l.length ≤ 50 := by omega
    have hr5 : r.length ≤ 50 := by omega
    have hb6 : bs.length ≤ 600 := by omega
    have hn1 : (normP l).length ≤ 4096 := by omega
    have hn2 : (normP r).length ≤ 4096 := by omega
    have hd1 := dec_enc hv hn1
    have hd2 := dec_enc hv2 hn2
    refine x_skip ?_
    refine hK2 _ _ ?_
    refine x_seq fun K7 hK7 => ?_
    refine x_region ?_
    refine s_go (s_move) ?_
    try simp only [opv, n1, n2, n3, n4, Value.cells]
    refine s_call en42 ?_
    try simp only [opv, n1, n2, n3, n4, Value.cells, List.map_toArray, List.map_cons, List.map_nil, List.append_toArray, List.cons_append, List.nil_append, Array.append_empty]
    refine CallR.mono (c_codecEncode _ A c l (hS.hasRd (by repeat (exact Has.head))) hv (by omega)) ?_
    rintro _ w4 ⟨A4, c4, rfl, hC4⟩
    replace hS := hS.call hC4
    simp only [List.cons_append, List.nil_append] at hS
    rw [hd1.2]
    try simp only [opv, n1, n2, n3, n4, Value.cells]
    refine s_go (s_move) ?_
    try simp only [opv, n1, n2, n3, n4, Value.cells]
    refine s_go (s_extract (hv := rfl)) ?_
    try simp only [List.getElem_toArray, List.getElem_cons_zero, List.getElem_cons_succ]
    try simp only [opv, n1, n2, n3, n4, Value.cells]
    refine s_go (s_extract (hv := rfl)) ?_
    try simp only [List.getElem_toArray, List.getElem_cons_zero, List.getElem_cons_succ]
    try simp only [opv, n1, n2, n3, n4, Value.cells]
    refine s_go (s_assign) ?_
    try simp only [opv, n1, n2, n3, n4, Value.cells]
    refine s_go (s_assign) ?_
    try simp only [opv, n1, n2, n3, n4, Value.cells]
    refine x_nil ?_
    refine hK7 _ _ ?_
    refine x_seq fun K8 hK8 => ?_
    refine x_region ?_
    refine s_go (s_move) ?_
    try simp only [opv, n1, n2, n3, n4, Value.cells]
    refine s_call en42 ?_
    try simp only [opv, n1, n2, n3, n4, Value.cells, List.map_toArray, List.map_cons, List.map_nil, List.append_toArray, List.cons_append, List.nil_append, Array.append_empty]
    refine CallR.mono (c_codecEncode _ B d r (hS.hasRd (by repeat (first | exact Has.head | apply Has.tail))) hv2 (by omega)) ?_
    rintro _ w5 ⟨A5, c5, rfl, hC5⟩
    replace hS := hS.call hC5
    simp only [List.cons_append, List.nil_append] at hS
    rw [hd2.2]
    try simp only [opv, n1, n2, n3, n4, Value.cells]
    refine s_go (s_move) ?_
    try simp only [opv, n1, n2, n3, n4, Value.cells]
    refine s_go (s_extract (hv := rfl)) ?_
    try simp only [List.getElem_toArray, List.getElem_cons_zero, List.getElem_cons_succ]
    try simp only [opv, n1, n2, n3, n4, Value.cells]
    refine s_go (s_extract (hv := rfl)) ?_
    try simp only [List.getElem_toArray, List.getElem_cons_zero, List.getElem_cons_succ]
    try simp only [opv, n1, n2, n3, n4, Value.cells]
    refine s_go (s_assign) ?_
    try simp only [opv, n1, n2, n3, n4, Value.cells]
    refine s_go (s_assign) ?_
    try simp only [opv, n1, n2, n3, n4, Value.cells]
    refine x_nil ?_
    refine hK8 _ _ ?_
    refine x_seq fun K9 hK9 => ?_
    refine x_region ?_
    refine s_go (s_move) ?_
    try simp only [opv, n1, n2, n3, n4, Value.cells]
    refine s_call en40 ?_
    try simp only [opv, n1, n2, n3, n4, Value.cells, List.map_toArray, List.map_cons, List.map_nil, List.append_toArray, List.cons_append, List.nil_append, Array.append_empty]
    refine CallR.mono (c_codecDecode _ _ _ (encP l).1 (hS.vecRd (by repeat (first | exact Has.head | apply Has.tail))) (encP_byt hv) (by omega)) ?_
    rintro _ w6 ⟨A6, c6, rfl, hC6⟩
    replace hS := hS.call hC6
    simp only [List.cons_append, List.nil_append] at hS
    simp only [hd1.1] at hS ⊢
    try simp only [opv, n1, n2, n3, n4, Value.cells]
    refine s_go (s_move) ?_
    try simp only [opv, n1, n2, n3, n4, Value.cells]
    refine s_go (s_extract (hv := rfl)) ?_
    try simp only [List.getElem_toArray, List.getElem_cons_zero, List.getElem_cons_succ]
    try simp only [opv, n1, n2, n3, n4, Value.cells]
    refine s_go (s_extract (hv := rfl)) ?_
    try simp only [List.getElem_toArray, List.getElem_cons_zero, List.getElem_cons_succ]
    try simp only [opv, n1, n2, n3, n4, Value.cells]
    refine s_go (s_assign) ?_
    try simp only [opv, n1, n2, n3, n4, Value.cells]
    refine s_go (s_assign) ?_
    try simp only [opv, n1, n2, n3, n4, Value.cells]
    refine x_nil ?_
    refine hK9 _ _ ?_
    refine x_seq fun K10 hK10 => ?_
    refine x_seq fun K11 hK11 => ?_
    refine x_region ?_
    refine s_go (s_move) ?_
    try simp only [opv, n1, n2, n3, n4, Value.cells]
    refine s_go (s_neq) ?_
    try simp only [opv, n1, n2, n3, n4, Value.cells]
    try simp only [ne_eq, not_true_eq_false, decide_false, eq_self, decide_true]
    refine s_go (s_move) ?_
    try simp only [opv, n1, n2, n3, n4, Value.cells]
    refine g_on (yi (t := 48) rfl rfl) ?_
    refine s_go (s_move) ?_
    try simp only [opv, n1, n2, n3, n4, Value.cells]
    refine g_on (yi (t := 48) rfl rfl) ?_
    refine s_go (s_neq) ?_
    try simp only [opv, n1, n2, n3, n4, Value.cells]
    try simp only [ne_eq, not_true_eq_false, decide_false, eq_self, decide_true]
    refine s_go (s_pick_f) ?_
    try simp only [opv, n1, n2, n3, n4, Value.cells]
    refine s_go (s_move) ?_
    try simp only [opv, n1, n2, n3, n4, Value.cells]
    refine g_on (yi (t := 52) rfl rfl) ?_
    refine s_go (s_move) ?_
    try simp only [opv, n1, n2, n3, n4, Value.cells]
    refine g_on (yi (t := 52) rfl rfl) ?_
    refine s_go (s_neq) ?_
    try simp only [opv, n1, n2, n3, n4, Value.cells]
    try simp only [ne_eq, not_true_eq_false, decide_false, eq_self, decide_true]
    refine s_go (s_pick_f) ?_
    try simp only [opv, n1, n2, n3, n4, Value.cells]
    refine s_go (s_move) ?_
    try simp only [opv, n1, n2, n3, n4, Value.cells]
    refine g_on (yi (t := 56) rfl rfl) ?_
    refine s_go (s_move) ?_
    try simp only [opv, n1, n2, n3, n4, Value.cells]
    refine g_on (yi (t := 56) rfl rfl) ?_
    refine s_go (s_move) ?_
    try simp only [opv, n1, n2, n3, n4, Value.cells]
    refine g_on (yi (t := 56) rfl rfl) ?_
    refine s_call en48 ?_
    try simp only [opv, n1, n2, n3, n4, Value.cells, List.map_toArray, List.map_cons, List.map_nil, List.append_toArray, List.cons_append, List.nil_append, Array.append_empty]
    refine CallR.mono (c_ref10Same _ _ _ (normP l) (hS.vecRd (by repeat (exact Has.head))) hno _ _ l (hS.hasRd (by repeat (first | exact Has.head | apply Has.tail))) hv (by omega)) ?_
    rintro _ w7 ⟨rfl, hE7⟩
    replace hS := hS.ext hE7
    try simp only [opv, n1, n2, n3, n4, Value.cells]
    rw [norm_id (norm_sta hv), decide_eq_true rfl]
    refine g_on (yi (t := 56) rfl rfl) ?_
    refine s_go (s_not) ?_
    try simp only [opv, n1, n2, n3, n4, Value.cells]
    try simp only [Bool.not_true]
    refine s_go (s_pick_f) ?_
    try simp only [opv, n1, n2, n3, n4, Value.cells]
    refine s_go (s_move) ?_
    try simp only [opv, n1, n2, n3, n4, Value.cells]
    refine g_on (yi (t := 62) rfl rfl) ?_
    refine s_go (s_move) ?_
    try simp only [opv, n1, n2, n3, n4, Value.cells]
    refine g_on (yi (t := 62) rfl rfl) ?_
    refine s_go (s_move) ?_
    try simp only [opv, n1, n2, n3, n4, Value.cells]
    refine g_on (yi (t := 62) rfl rfl) ?_
    refine s_call en46 ?_
    try simp only [opv, n1, n2, n3, n4, Value.cells, List.map_toArray, List.map_cons, List.map_nil, List.append_toArray, List.cons_append, List.nil_append, Array.append_empty]
    refine CallR.mono (c_ref03Same _ _ _ _ _ _ _ _ _ (hS.vecRd (by repeat (first | exact Has.head | apply Has.tail))) (hS.vecRd (by repeat (first | exact Has.head | apply Has.tail))) (rfl) (rfl) (by omega)) ?_
    rintro _ w8 ⟨rfl, hE8⟩
    replace hS := hS.ext hE8
    try simp only [opv, n1, n2, n3, n4, Value.cells]
    rw [show decide ((encP l).1 = (encP r).1) = decide (normP l = normP r) from decide_eq_decide.2 (enc_inj hv hv2 hn1 hn2)]
    refine g_on (yi (t := 62) rfl rfl) ?_
    refine s_go (s_move) ?_
    try simp only [opv, n1, n2, n3, n4, Value.cells]
    refine g_on (yi (t := 62) rfl rfl) ?_
    refine s_go (s_move) ?_
    try simp only [opv, n1, n2, n3, n4, Value.cells]
    refine g_on (yi (t := 62) rfl rfl) ?_
    refine s_call en48 ?_
    try simp only [opv, n1, n2, n3, n4, Value.cells, List.map_toArray, List.map_cons, List.map_nil, List.append_toArray, List.cons_append, List.nil_append, Array.append_empty]
    refine CallR.mono (c_ref10Same _ A c l (hS.hasRd (by repeat (first | exact Has.head | apply Has.tail))) hv B d r (hS.hasRd (by repeat (first | exact Has.head | apply Has.tail))) hv2 (by omega)) ?_
    rintro _ w9 ⟨rfl, hE9⟩
    replace hS := hS.ext hE9
    try simp only [opv, n1, n2, n3, n4, Value.cells]
    refine g_on (yi (t := 62) rfl rfl) ?_
    refine s_go (s_neq_bool Tryz.underlying4) ?_
    try simp only [opv, n1, n2, n3, n4, Value.cells]
    simp only [beq_self_eq_true, Bool.not_true]
    refine s_go (s_pick_f) ?_
    try simp only [opv, n1, n2, n3, n4, Value.cells]
    refine x_nil ?_
    refine hK11 _ _ ?_
    refine x_cond_f (h := ?_)
    refine x_skip ?_
    refine hK10 _ _ ?_
    refine x_seq fun K12 hK12 => ?_
    refine x_region ?_
    refine s_go (s_move) ?_
    try simp only [opv, n1, n2, n3, n4, Value.cells]
    refine s_call en40 ?_
    try simp only [opv, n1, n2, n3, n4, Value.cells, List.map_toArray, List.map_cons, List.map_nil, List.append_toArray, List.cons_append, List.nil_append, Array.append_empty]
    refine CallR.mono (c_codecDecode _ C ce bs (hS.hasRd (by repeat (first | exact Has.head | apply Has.tail))) hw (by omega)) ?_
    rintro _ w10 ⟨A10, c10, rfl, hC10⟩
    replace hS := hS.call hC10
    simp only [List.cons_append, List.nil_append] at hS
    try simp only [opv, n1, n2, n3, n4, Value.cells]
    refine s_go (s_move) ?_
    try simp only [opv, n1, n2, n3, n4, Value.cells]
    refine s_go (s_extract (hv := rfl)) ?_
    try simp only [List.getElem_toArray, List.getElem_cons_zero, List.getElem_cons_succ]
    try simp only [opv, n1, n2, n3, n4, Value.cells]
    refine s_go (s_extract (hv := rfl)) ?_
    try simp only [List.getElem_toArray, List.getElem_cons_zero, List.getElem_cons_succ]
    try simp only [opv, n1, n2, n3, n4, Value.cells]
    refine s_go (s_assign) ?_
    try simp only [opv, n1, n2, n3, n4, Value.cells]
    refine s_go (s_assign) ?_
    try simp only [opv, n1, n2, n3, n4, Value.cells]
    refine x_nil ?_
    refine hK12 _ _ ?_
    refine x_seq fun K13 hK13 => ?_
    refine x_seq fun K14 hK14 => ?_
    refine x_region ?_
    refine s_go (s_move) ?_
    try simp only [opv, n1, n2, n3, n4, Value.cells]
    refine s_go (s_neq) ?_
    try simp only [opv, n1, n2, n3, n4, Value.cells]
    refine x_nil ?_
    refine hK14 _ _ ?_
    refine x_cond (ht := fun hc5 => ?_) (hf := fun hc5 => ?_)
    ·
     try simp only [decide_eq_true_eq, decide_eq_false_iff_not, Bool.not_eq_true', Bool.not_eq_false', Int.not_lt, Int.not_le, ne_eq, Decidable.not_not, bne_iff_ne, beq_iff_eq, not_true_eq_false, not_false_eq_true] at hc5
     have hdn := dec_nil (bs := bs) (by simpa using hc5)
     simp only [hdn, List.length_nil] at hS ⊢
     refine x_seq fun K15 hK15 => ?_
     refine x_region ?_
     refine s_go (s_move) ?_
     try simp only [opv, n1, n2, n3, n4, Value.cells]
     refine s_go (s_len_sl Tryz.underlying22) ?_
     try simp only [opv, n1, n2, n3, n4, Value.cells]
     refine s_go (s_eql) ?_
     try simp only [opv, n1, n2, n3, n4, Value.cells]
     rw [show decide (((0 : Nat) : Int) = 0) = true from rfl]
     refine s_go (s_move) ?_
     try simp only [opv, n1, n2, n3, n4, Value.cells]
     refine g_on (yi (t := 81) rfl rfl) ?_
     refine s_call en39 ?_
     try simp only [opv, n1, n2, n3, n4, Value.cells, List.map_toArray, List.map_cons, List.map_nil, List.append_toArray, List.cons_append, List.nil_append, Array.append_empty]
     refine CallR.mono (c_law22alive _) ?_
     rintro _ w11 ⟨rfl, hE11⟩
     replace hS := hS.ext hE11
     try simp only [opv, n1, n2, n3, n4, Value.cells]
     refine s_go (s_pick_t) ?_
     try simp only [opv, n1, n2, n3, n4, Value.cells]
     refine s_go (s_assign) ?_
     try simp only [opv, n1, n2, n3, n4, Value.cells]
     refine x_nil ?_
     refine hK15 _ _ ?_
     refine x_ret ?_
     refine r_tmp rfl ?_
     exact ⟨rfl, hS.ext_of⟩
    ·
     try simp only [decide_eq_true_eq, decide_eq_false_iff_not, Bool.not_eq_true', Bool.not_eq_false', Int.not_lt, Int.not_le, ne_eq, Decidable.not_not, bne_iff_ne, beq_iff_eq, not_true_eq_false, not_false_eq_true] at hc5
     have hd0 : (decP bs).2 = 0 := by simpa using hc5
     have hri := dec_inv hw hd0
     have hdo := decP_ok hw
     have hdl := decP_len (bs := bs)
     refine x_skip ?_
     refine hK13 _ _ ?_
     refine x_seq fun K16 hK16 => ?_
     refine x_region ?_
     refine s_go (s_move) ?_
     try simp only [opv, n1, n2, n3, n4, Value.cells]
     refine s_call en44 ?_
     try simp only [opv, n1, n2, n3, n4, Value.cells, List.map_toArray, List.map_cons, List.map_nil, List.append_toArray, List.cons_append, List.nil_append, Array.append_empty]
     refine CallR.mono (c_codecRows _ _ _ (decP bs).1 (hS.vecRd (by repeat (exact Has.head))) hdo (by omega)) ?_
     rintro _ w12 ⟨A12, c12, rfl, hC12⟩
     replace hS := hS.call hC12
     simp only [List.cons_append, List.nil_append] at hS
     simp only [hri] at hS ⊢
     try simp only [opv, n1, n2, n3, n4, Value.cells]
     refine s_go (s_move) ?_
     try simp only [opv, n1, n2, n3, n4, Value.cells]
     refine s_go (s_extract (hv := rfl)) ?_
     try simp only [List.getElem_toArray, List.getElem_cons_zero, List.getElem_cons_succ]
     try simp only [opv, n1, n2, n3, n4, Value.cells]
     refine s_go (s_extract (hv := rfl)) ?_
     try simp only [List.getElem_toArray, List.getElem_cons_zero, List.getElem_cons_succ]
     try simp only [opv, n1, n2, n3, n4, Value.cells]
     refine s_go (s_assign) ?_
     try simp only [opv, n1, n2, n3, n4, Value.cells]
     refine s_go (s_assign) ?_
     try simp only [opv, n1, n2, n3, n4, Value.cells]
     refine x_nil ?_
     refine hK16 _ _ ?_
     refine x_seq fun K17 hK17 => ?_
     refine x_region ?_
     refine s_go (s_move) ?_
     try simp only [opv, n1, n2, n3, n4, Value.cells]
     refine s_go (s_eql) ?_
     try simp only [opv, n1, n2, n3, n4, Value.cells]
     try simp only [eq_self, decide_true, beq_self_eq_true, Bool.and_self]
     refine s_go (s_move) ?_
     try simp only [opv, n1, n2, n3, n4, Value.cells]
     refine g_on (yi (t := 91) rfl rfl) ?_
     refine s_go (s_move) ?_
     try simp only [opv, n1, n2, n3, n4, Value.cells]
     refine g_on (yi (t := 91) rfl rfl) ?_
     refine s_go (s_move) ?_
     try simp only [opv, n1, n2, n3, n4, Value.cells]
     refine g_on (yi (t := 91) rfl rfl) ?_
     refine s_call en46 ?_
     try simp only [opv, n1, n2, n3, n4, Value.cells, List.map_toArray, List.map_cons, List.map_nil, List.append_toArray, List.cons_append, List.nil_append, Array.append_empty]
     refine CallR.mono (c_ref03Same _ _ _ _ _ _ _ bs bs (hS.vecRd (by repeat (exact Has.head))) (hS.hasRd (by repeat (first | exact Has.head | apply Has.tail))) rfl rfl (by omega)) ?_
     rintro _ w13 ⟨rfl, hE13⟩
     replace hS := hS.ext hE13
     try simp only [opv, n1, n2, n3, n4, Value.cells]
     try simp only [eq_self, decide_true, beq_self_eq_true, Bool.and_self]
     refine s_go (s_pick_t) ?_
     try simp only [opv, n1, n2, n3, n4, Value.cells]
     refine s_go (s_move) ?_
     try simp only [opv, n1, n2, n3, n4, Value.cells]
     refine g_on (yi (t := 96) rfl rfl) ?_
     refine s_call en39 ?_
     try simp only [opv, n1, n2, n3, n4, Value.cells, List.map_toArray, List.map_cons, List.map_nil, List.append_toArray, List.cons_append, List.nil_append, Array.append_empty]
     refine CallR.mono (c_law22alive _) ?_
     rintro _ w14 ⟨rfl, hE14⟩
     replace hS := hS.ext hE14
     try simp only [opv, n1, n2, n3, n4, Value.cells]
     refine s_go (s_pick_t) ?_
     try simp only [opv, n1, n2, n3, n4, Value.cells]
     refine s_go (s_assign) ?_
     try simp only [opv, n1, n2, n3, n4, Value.cells]
     refine x_nil ?_
     refine hK17 _ _ ?_
     refine x_ret ?_
     refine r_tmp rfl ?_
     exact ⟨rfl, hS.ext_of⟩
end Go.Proofs.YtffmanidnlbjjaaGreat
set_option linter.unusedSimpArgs false
set_option linter.unusedVariables false
set_option maxHeartbeats 800000
set_option maxRecDepth 100000
namespace Go.Proofs.YtffmanidnlbjjaaGreat
open Go.ChangeShapes Go.WideShapes Go.ChangeAt Go.RowKit

theorem rows_aok {l : List (List Int)} (h : ∀ x ∈ l, x.length = atomKs.length ∧ ∀ i k, atomKs[i]? = some k → (Lit.int k (x.getD i 0)).wf = true) : AOks l := fun x hx => by
  obtain ⟨h1, h2⟩ := h x hx
  have W : World := { heap := #[], tape := fun _ _ => 0, drawn := 0, os := default, output := #[] }
  obtain ⟨a, e, ha⟩ := atom_open (w := W) (allOk_of h1 h2)
  rw [zi_inj h1 (by simpa using ha.len) e]; exact ha
theorem open_rows {w : World} {n : Nat} {xs : List Value} {A : Option Addr} (hr : Rd w A 21 n xs) (h : ∀ i, i < n → AllOk w (atomKs.map LK.int) ((xs.drop (i * 21)).take 21)) : ∃ l : List (List Int), l.length = n ∧ xs = arows l ∧ AOks l := by
  obtain ⟨l, hl, e, hok⟩ := rowsZ_open (w := w) (ks := atomKs) (n := n) (xs := xs) hr.1 h
  exact ⟨l, hl, e, rows_aok hok⟩
end Go.Proofs.YtffmanidnlbjjaaGreat
namespace Go.Proofs.YtffmanidnlbjjaaGreat
open Go.ChangeShapes Go.WideShapes Go.ChangeAt Go.RowKit
theorem own0 : ownKnob Tryz.prog.godebug = none := by kernel_rfl
theorem laidOut0 : laidOutB Tryz.prog = true := by kernel_rfl
theorem fl5 : Flat Tryz.prog 5 [LK.int .u8] := flat_int Tryz.underlying5
theorem fl39 : Flat Tryz.prog 39 [LK.int .u16] := flat_int Tryz.underlying39
theorem fl41 : Flat Tryz.prog 41 (List.replicate 8 [LK.int .u8]).flatten := flat_arr Tryz.underlying41 fl5 rfl (by kernel_rfl) (by kernel_rfl)
theorem fl24 : Flat Tryz.prog 24 [LK.int .u32] := flat_int Tryz.underlying24
theorem fl83 : Flat Tryz.prog 83 ([LK.int .u8] ++ ([LK.int .u16] ++ ((List.replicate 8 [LK.int .u8]).flatten ++ ([LK.int .u8] ++ ([LK.int .u32] ++ ([])))))) := flat_struct Tryz.underlying83 (.cons rfl fl5 rfl (by kernel_rfl) (.cons rfl fl39 rfl (by kernel_rfl) (.cons rfl fl41 rfl (by kernel_rfl) (.cons rfl fl5 rfl (by kernel_rfl) (.cons rfl fl24 rfl (by kernel_rfl) (.nil)))))) (by kernel_rfl)
theorem fl84 : Flat Tryz.prog 84 [LK.int .u64] := flat_int Tryz.underlying84
theorem fl86 : Flat Tryz.prog 86 ([LK.int .u64] ++ ((List.replicate 8 [LK.int .u8]).flatten ++ ([]))) := flat_struct Tryz.underlying86 (.cons rfl fl84 rfl (by kernel_rfl) (.cons rfl fl41 rfl (by kernel_rfl) (.nil))) (by kernel_rfl)
theorem fl88 : Flat Tryz.prog 88 (([LK.int .u8] ++ ([LK.int .u16] ++ ((List.replicate 8 [LK.int .u8]).flatten ++ ([LK.int .u8] ++ ([LK.int .u32] ++ ([])))))) ++ (([LK.int .u64] ++ ((List.replicate 8 [LK.int .u8]).flatten ++ ([]))) ++ ([]))) := flat_struct Tryz.underlying88 (.cons rfl fl83 rfl (by kernel_rfl) (.cons rfl fl86 rfl (by kernel_rfl) (.nil))) (by kernel_rfl)
end Go.Proofs.YtffmanidnlbjjaaGreat
namespace Go.Proofs.YtffmanidnlbjjaaGreat
theorem ws_cons {c : Char} (h : c ≠ Char.ofNat 32) (x : List Char) : wordsSigns (c :: x) = (match wordsSigns x with | w :: ws => (c :: w) :: ws | [] => [[c]]) := by
  conv => lhs; unfold wordsSigns
  split
  · simp_all
  · next h1 => exact absurd (by simpa using (List.cons.inj h1).1) h
  · next h1 => obtain ⟨rfl, rfl⟩ := List.cons.inj h1; rfl
theorem ws_app (b : List Char) : ∀ (a : List Char), (∀ c ∈ a, c ≠ Char.ofNat 32) → wordsSigns (a ++ Char.ofNat 32 :: b) = a :: wordsSigns b
  | [], _ => rfl
  | c :: r, h => by
    rw [List.cons_append, ws_cons (h c (by simp)), ws_app b r (fun x hx => h x (by simp [hx]))]
/-- the head's words: harness, a sum, cut -/
theorem head_words {P : Program} {s b : List Char} (he : P.initOrder = String.ofList ("harness".toList ++ Char.ofNat 32 :: (s ++ Char.ofNat 32 :: ("cut".toList ++ Char.ofNat 32 :: b)))) (hs : isSumSigns s = true) (hb : ∀ c ∈ s, c ≠ Char.ofNat 32) :
    ∃ R, behindMainWord (wordsSigns P.initOrder.toList) = "cut".toList :: R := by
  refine ⟨wordsSigns b, ?_⟩
  rw [he, String.toList_ofList, ws_app _ _ (by decide), ws_app _ _ hb, ws_app _ _ (by decide)]
  simp only [behindMainWord, hs, beq_self_eq_true, Bool.true_or, Bool.and_self, if_true]
theorem e_gc : ("cut".toList == "gc".toList) = false := by decide
theorem e_spec : ("cut".toList == "spec".toList) = false := by decide
theorem e_car : ("cut".toList == "carried".toList) = false := by decide
theorem e_sl (R : List (List Char)) : stripLifts liftWords ("cut".toList :: R) = ([], "cut".toList :: R) := by
  have h : ∀ (l : List String), (∀ o ∈ l, ("cut".toList == o.toList) = false) → stripLifts l ("cut".toList :: R) = ([], "cut".toList :: R) := by
    intro l
    induction l with
    | nil => intro _; rfl
    | cons o os ih => intro hl; rw [stripLifts, hl o (by simp)]; simp only [Bool.false_eq_true, if_false]; exact ih fun x hx => hl x (by simp [hx])
  exact h liftWords (by decide)
section
variable {P : Program} (h : ∃ R, behindMainWord (wordsSigns P.initOrder.toList) = "cut".toList :: R)
include h
theorem make_of : P.make = some .cut := by
  obtain ⟨R, h⟩ := h
  unfold Program.make
  rw [h]
  simp only [e_gc, e_spec, beq_self_eq_true, Bool.or_self, Bool.true_or, Bool.false_eq_true, if_false, if_true]
theorem lifts_of : P.liftsFinal = false := by
  obtain ⟨R, h⟩ := h
  unfold Program.liftsFinal Program.headLifts
  rw [h, e_sl]
  show (_ || _) = false
  rfl
theorem enter_of (hl : P.laysLater = false) (hr : P.bearsReflect = false) (hd : P.doorFits [] = true) : P.mayEnter = true := by
  obtain ⟨R, h⟩ := h
  unfold Program.mayEnter
  rw [h]
  dsimp only
  rw [e_sl, hl, hr]
  simp only [hd, e_gc, e_spec, e_car, beq_self_eq_true, Bool.or_self, Bool.false_and, Bool.not_false, Bool.or_true, Bool.and_true, List.head?_cons, List.contains_nil]
end
theorem closed_of {P : Program} {f : FuncId} {fn : Func} {s : ChangeSpec} {c : OpenClaim} (hm : P.make = some .cut) (hl : P.liftsFinal = false) (he : P.mayEnter = true) (h2 : laidOutB P = true) (h3 : mapsRowed P = true) (hst : (P.stops == []) = true) (hk : (P.stopKnobs == []) = true)
    (hp : P.plainKeys = c.plainKeys) (hh : P.stopsHeard = true) (i1 : P.inPlace f = c.inPlace) (i2 : P.unfollowed f = c.unfollowed) (i3 : P.recurses f = c.recurses) (i4 : P.varsNamed f = c.named)
    (rest : (c.wf (OpenSpec.ofChange s) && fn.params.all (P.readableRec ·) && namedTie P c.named s.vars && (c.stops == []) && (c.knobs == []) &&
      (c.maps == (fn.params.toList ++ s.plain.varTypes P).any (P.mapsRec ·)) && (c.ifaces == (fn.params.toList ++ s.plain.varTypes P).any (P.ifacesRec ·)) && (c.mapsOut == P.mapsAmong fn.resultTypes.toList) &&
      (c.loops == (fn.params.toList ++ s.plain.varTypes P).any (P.loopsFrom ·)) && (c.wideKeys == (fn.params.toList ++ s.plain.varTypes P ++ fn.resultTypes.toList).any (P.wideKeysFrom ·)) &&
      s.vars.all (P.varReadable ·) && fn.resultTypes.all (fun t => P.readableRec t && decide (t < P.types.size)) && (c.ifacesOut == fn.resultTypes.toList.any (P.ifacesRec ·)) && (c.loopsOut == fn.resultTypes.toList.any (P.loopsFrom ·)) && c.shortTexts.isNone && (c.lifted == false) && (some Make.cut == some c.make) &&
      (c.kinds == (if c.domain.isEmpty then [] else fn.params.toList.map fun t => match P.underlying t with | some (.int k) => some k | _ => none)) && (c.pinned == c.pinnedBy) &&
      (c.veiled == (fn.params.toList ++ s.plain.varTypes P ++ fn.resultTypes.toList).any (P.veiledRec ·)) && c.veiledFits P fn.params.toList (fn.params.toList ++ s.plain.varTypes P ++ fn.resultTypes.toList)) = true) : joinedFacts P f fn s c = true := by
  simp only [Bool.and_eq_true] at rest
  unfold joinedFacts
  rw [hm, hl, he, h2, h3, hst, hk, hp, hh, i1, i2, i3, i4]
  simp only [beq_self_eq_true, Bool.and_eq_true, Bool.and_true]
  have hkd := rest.1.1.1.2
  simp only [rest, and_self]
  exact ⟨⟨⟨⟨trivial, hkd⟩, trivial⟩, trivial⟩, trivial⟩
end Go.Proofs.YtffmanidnlbjjaaGreat
namespace Go.Proofs.YtffmanidnlbjjaaGreat
def ioS : List Nat := [48, 97, 55, 98, 52, 99, 101, 98, 48, 99, 48, 54, 102, 48, 55, 51, 50, 57, 56, 98, 53, 97, 50, 50, 51, 101, 97, 101, 99, 53, 56, 102, 98, 50, 49, 100, 97, 55, 98, 100, 49, 52, 102, 97, 55, 53, 101, 101, 56, 98, 98, 49, 55, 57, 56, 101, 100, 102, 51, 56, 52, 99, 54, 54]
def ioB : List Nat := [97, 116, 32, 104, 97, 110, 100, 99, 97, 114, 116, 47, 104, 97, 110, 100, 99, 97, 114, 116, 108, 97, 119, 49, 51, 46, 68, 111, 116, 115, 83, 101, 101, 110, 32, 104, 97, 110, 100, 99, 97, 114, 116, 47, 104, 97, 110, 100, 99, 97, 114, 116, 108, 97, 119, 49, 56, 46, 83, 104, 111, 112, 82, 117, 110, 115, 32, 104, 97, 110, 100, 99, 97, 114, 116, 47, 104, 97, 110, 100, 99, 97, 114, 116, 108, 97, 119, 49, 56, 46, 83, 104, 111, 112, 82, 111, 111, 109, 32, 104, 97, 110, 100, 99, 97, 114, 116, 47, 104, 97, 110, 100, 99, 97, 114, 116, 108, 97, 119, 49, 56, 46, 83, 104, 111, 112, 68, 111, 101, 115, 32, 104, 97, 110, 100, 99, 97, 114, 116, 47, 104, 97, 110, 100, 99, 97, 114, 116, 108, 97, 119, 49, 56, 46, 83, 104, 111, 112, 82, 101, 97, 100, 115, 32, 104, 97, 110, 100, 99, 97, 114, 116, 47, 104, 97, 110, 100, 99, 97, 114, 116, 108, 97, 119, 50, 50, 46, 67, 111, 100, 101, 99, 68, 101, 99, 111, 100, 101, 115, 32, 104, 97, 110, 100, 99, 97, 114, 116, 47, 104, 97, 110, 100, 99, 97, 114, 116, 108, 97, 119, 50, 50, 46, 67, 111, 100, 101, 99, 69, 110, 99, 111, 100, 101, 115, 32, 104, 97, 110, 100, 99, 97, 114, 116, 47, 104, 97, 110, 100, 99, 97, 114, 116, 108, 97, 119, 50, 50, 46, 67, 111, 100, 101, 99, 66, 97, 99, 107, 32, 104, 97, 110, 100, 99, 97, 114, 116, 47, 104, 97, 110, 100, 99, 97, 114, 116, 108, 97, 119, 50, 50, 46, 67, 111, 100, 101, 99, 66, 105, 103]
theorem io_eq : Tryz.prog.initOrder = String.ofList ("harness".toList ++ Char.ofNat 32 :: (ioS.map Char.ofNat ++ Char.ofNat 32 :: ("cut".toList ++ Char.ofNat 32 :: ioB.map Char.ofNat))) := by kernel_rfl
theorem io_sum : isSumSigns (ioS.map Char.ofNat) = true := by kernel_rfl
theorem io_hd : ∃ R, behindMainWord (wordsSigns Tryz.prog.initOrder.toList) = "cut".toList :: R := head_words io_eq io_sum (by decide)
theorem p_make : Tryz.prog.make = some .cut := make_of io_hd
theorem p_lifts : Tryz.prog.liftsFinal = false := lifts_of io_hd
theorem p_ll : Tryz.prog.laysLater = false := by kernel_rfl
theorem p_br : Tryz.prog.bearsReflect = false := by kernel_rfl
theorem p_df : Tryz.prog.doorFits [] = true := by kernel_rfl
theorem p_enter : Tryz.prog.mayEnter = true := enter_of io_hd p_ll p_br p_df
theorem p_rowed : mapsRowed Tryz.prog = true := by kernel_rfl
theorem p_stops : (Tryz.prog.stops == []) = true := by kernel_rfl
theorem p_knobs : (Tryz.prog.stopKnobs == []) = true := by kernel_rfl
theorem p_keys : Tryz.prog.plainKeys = false := by kernel_rfl
theorem p_heard : Tryz.prog.stopsHeard = true := by kernel_rfl
end Go.Proofs.YtffmanidnlbjjaaGreat
