/- Rules, plain words and walks that the claim leans on: Pg, Pk, Pm, Lzopen, Tb, Vj, Tc. -/
import Derived.Test.YtmgacmkikefpjaaZDeltaLeast3
set_option linter.unusedSimpArgs false
set_option linter.unusedVariables false
set_option linter.unusedSimpArgs false
set_option linter.unusedVariables false
set_option maxHeartbeats 2000000
set_option maxRecDepth 100000
namespace Go.Proofs.Ytmgacmkikefpjaa
open Go.RowKit

theorem callR_eq {P : Program} {n : Nat} {a b : Array Value} {w : World} {R : Value → World → Prop} (h : a = b) (hc : CallR P n a w R) : CallR P n b w R := h ▸ hc
theorem rws_one (rs : List Rw) : ∀ u ∈ rs.map rwV, u.oneCell' = true := fun u hu => by
  obtain ⟨r, _, rfl⟩ := List.mem_map.1 hu
  rfl
theorem ndl_on {rs L : List Rw} {o : List Int} {k : Nat} {x : Rw} (h : ndlS rs k = (L, o)) (hx : rs.getD k rw0 = x) (hs : spQ x.l L k = true) : ndlS rs (k + 1) = (L.set k rw0, o ++ [(k : Int)]) := by
  rw [ndlS, h, hx, if_pos hs]
theorem ndl_off {rs L : List Rw} {o : List Int} {k : Nat} {x : Rw} (h : ndlS rs k = (L, o)) (hx : rs.getD k rw0 = x) (hs : spQ x.l L k = false) : ndlS rs (k + 1) = (L, o) := by
  rw [ndlS, h, hx, if_neg (by rw [hs]; decide)]
theorem ndl_facts {rs L : List Rw} {o : List Int} {k : Nat} (h : ndlS rs k = (L, o)) : L.length = rs.length ∧ o.length ≤ k ∧ ∀ r ∈ L, r ∈ rs ∨ r = rw0 := by
  have h1 := ndl_len rs k
  have h2 := ndl_out rs k
  have h3 := ndl_mem rs k
  rw [h] at h1 h2 h3
  exact ⟨h1, h2, h3⟩
theorem ndl_ok {w0 w : World} {rs L : List Rw} (h : ∀ r ∈ L, r ∈ rs ∨ r = rw0) (hrs : ∀ r ∈ rs, RwOk w0 r) (hE : Ext w0 w) : ∀ r ∈ L, RwOk w r := fun r hr => (h r hr).elim (fun h => (hrs r h).ext hE) (fun h => h ▸ rw0_ok w)
theorem ndl_le {M : Nat} {rs L : List Rw} (h : ∀ r ∈ L, r ∈ rs ∨ r = rw0) (hM : ∀ r ∈ rs, r.l.length ≤ M) : ∀ r ∈ L, r.l.length ≤ M := fun r hr => (h r hr).elim (hM r) (fun h => h ▸ Nat.zero_le _)

theorem c_deltaNdl (w0 : World) (B : Option Addr) (d : Nat) (rs : List Rw) (hB : Rd w0 B 1 rs.length (rs.map rwV)) (hrs : ∀ r ∈ rs, RwOk w0 r) (hm : rs.length ≤ 40) (h30 : ∀ r ∈ rs, r.l.length ≤ 40)  :
    CallR Try.prog 49 #[.slice B rs.length d] w0 fun v w' => ∃ A c, v = .slice A ((ndlS rs rs.length).2).length c ∧ St NoB w0 w' [.vec A c 3 1 ((ndlS rs rs.length).2).length (((ndlS rs rs.length).2).map (Value.int .i64))] := by
 have hS := St.rd1 (S := NoB) hB
 have hrl := rws_len rs
 refine c_enter (l := [.slice B rs.length d, undef, undef, undef, undef, undef, undef, undef, undef, undef, undef, undef, undef, undef, undef, undef, undef, undef, undef, undef, undef, undef, undef, undef, undef, undef, undef, undef, undef, undef, undef]) Try.func49 rfl (by simp only [Try.ntmps49, List.size_toArray, List.length_cons, List.length_nil, Nat.reduceAdd, Nat.reduceSub, Array.replicate_succ, Array.replicate_zero, List.push_toArray, List.append_toArray, List.nil_append, List.cons_append]) ?_
 refine x_seq fun K1 hK1 => ?_
 refine x_region ?_
 refine s_go (s_assign) ?_
 try simp only [opv, n1, n2, n3, n4, Value.cells]
 refine x_nil ?_
 refine hK1 _ _ ?_
 refine x_scope ?_
 refine x_seq fun K2 hK2 => ?_
 refine x_region ?_
 refine m_buildRow (cells := #[]) Try.underlying22 ti24 (hc := by simp only [List.map_toArray, List.map_cons, List.map_nil, opv, n1, n2, n3, n4, Value.cells, List.toList_toArray]; (repeat (refine fill_cons rfl rfl (Nat.le_of_ble_eq_true rfl) ?_)); rfl) (hS := hS) (h := fun w1 g1 hS => ?_)
 try simp only [opv, n1, n2, n3, n4, Value.cells, Array.toArray_toList] at hS ⊢
 replace hS := hS.obj_vec (sz := 1) (n := 0) rfl (by decide) .head
 refine s_go (s_move) ?_
 try simp only [opv, n1, n2, n3, n4, Value.cells]
 refine m_append Try.underlying22 ti24 (hS := hS) (h1 := rws_one rs) (h := fun w2 A2 C2 hS => ?_)
 try simp only [← List.map_append, ← List.map_drop, ← List.map_take, Nat.mul_one, Nat.zero_mul, Nat.sub_zero, List.drop_zero, List.nil_append, Nat.zero_add] at hS ⊢
 try simp only [opv, n1, n2, n3, n4, Value.cells, Array.toArray_toList] at hS ⊢
 obtain ⟨D, hD⟩ : ∃ z, z = A2 := ⟨_, rfl⟩
 obtain ⟨De, hDe⟩ : ∃ z, z = C2 := ⟨_, rfl⟩
 rw [← hD, ← hDe] at hS ⊢
 have hDc := hS.vec_cap (by exact Has.head)
 refine s_go (s_assign) ?_
 try simp only [opv, n1, n2, n3, n4, Value.cells]
 refine x_nil ?_
 refine hK2 _ _ ?_
 refine x_seq fun K3 hK3 => ?_
 refine x_label ?_
 refine hK3 _ _ ?_
 refine x_seq fun K4 hK4 => ?_
 refine x_seq fun K5 hK5 => ?_
 refine x_region ?_
 refine s_go (s_move) ?_
 try simp only [opv, n1, n2, n3, n4, Value.cells]
 refine s_go (s_len_sl Try.underlying22) ?_
 try simp only [opv, n1, n2, n3, n4, Value.cells]
 refine s_go (s_move) ?_
 try simp only [opv, n1, n2, n3, n4, Value.cells]
 refine x_nil ?_
 refine hK5 _ _ ?_
 refine x_block ?_
 refine x_loop [2, 4, 5, 11, 12, 13, 14, 15, 16, 17, 18, 19, 20, 21, 22, 23, 24, 25, 26, 27, 28, 29] (fun m f w => ∃ (k : Nat) (O : Option Addr) (oe : Nat) (L : List Rw) (o : List Int), k ≤ rs.length ∧ m = rs.length - k ∧ f 11 = .int .i64 (k : Int) ∧ ndlS rs k = (L, o) ∧ f 2 = .slice O o.length oe ∧ St NoB w0 w [.vec O oe 3 1 (o).length ((o).map (Value.int .i64)), .vec D De 24 1 rs.length ((L).map rwV), .rd B 1 rs.length (rs.map rwV)]) (rs.length) ?init1 (fun m1 f1 wl1 hI => ?_)
 case init1 =>
  try simp only [opv, n1, n2, n3, n4, Value.cells]
  replace hS := hS.nil_vec 3 1
  exact ⟨0, none, 0, rs, [], by omega, rfl, rfl, rfl, rfl, hS.sel (by repeat (first | exact Sel.nil | (refine Sel.cons (by repeat (first | exact Del.head | apply Del.tail)) ?_)))⟩
 obtain ⟨k, O, oe, L, o, hk0, hmk, hfi, hnd, hfo, hS⟩ := hI
 simp only [clob, List.foldl, n3, n4, hfi, hfo]
 obtain ⟨x, hx⟩ : ∃ r, rs.getD k rw0 = r := ⟨_, rfl⟩
 obtain ⟨hLl, hol, hLm⟩ := ndl_facts hnd
 have hLe := ndl_le hLm h30
 have hLo := ndl_ok hLm hrs hS.ext_of
 refine x_seq fun K6 hK6 => ?_
 refine x_region ?_
 refine s_go (s_lss) ?_
 try simp only [opv, n1, n2, n3, n4, Value.cells]
 refine x_nil ?_
 refine hK6 _ _ ?_
 refine x_seq fun K7 hK7 => ?_
 refine x_cond (ht := fun hc1 => ?_) (hf := fun hc1 => ?_)
 ·
  try simp only [decide_eq_true_eq, decide_eq_false_iff_not, Bool.not_eq_true', Bool.not_eq_false', Int.not_lt, Int.not_le, ne_eq, Decidable.not_not, bne_iff_ne, beq_iff_eq, not_true_eq_false, not_false_eq_true] at hc1
  have hx3 := h30 _ (rws_mem (by omega) hx)
  have hbf := flat_sub_len hLe k L.length (Nat.le_refl _)
  have hbn := but_len (rs := L) (i := k) (by omega)
  refine x_skip ?_
  refine hK7 _ _ ?_
  refine x_seq fun K8 hK8 => ?_
  refine x_block ?_
  refine x_seq fun K9 hK9 => ?_
  refine x_region ?_
  refine s_go (s_move) ?_
  try simp only [opv, n1, n2, n3, n4, Value.cells]
  first | refine s_go (m_indexAddr_rd Try.underlying22 ti24 (hS := hS)) ?_ | refine s_go (m_indexAddr_vec Try.underlying22 ti24 (hS := hS)) ?_
  try simp only [opv, n1, n2, n3, n4, Value.cells, Nat.mul_one, Nat.zero_add, Int.toNat_natCast, Int.reduceToNat]
  first | refine s_go (m_load_obj Try.underlying24 (hS := hS) (hv := rws_get (by omega) hx)) ?_ | refine s_go (m_load_bx Try.underlying24 (hS := hS) (hv := rws_get (by omega) hx)) ?_ | refine s_go (m_load_rd Try.underlying24 (hS := hS) (hv := rws_get (by omega) hx)) ?_ | refine s_go (m_load_vec Try.underlying24 (hS := hS) (hv := rws_get (by omega) hx)) ?_
  try simp only [opv, n1, n2, n3, n4, Value.cells, List.getElem_toArray, List.getElem_cons_zero, List.getElem_cons_succ]
  refine s_go (s_assign) ?_
  try simp only [opv, n1, n2, n3, n4, Value.cells]
  refine s_go (s_assign) ?_
  try simp only [opv, n1, n2, n3, n4, Value.cells]
  refine x_nil ?_
  refine hK9 _ _ ?_
  refine x_seq fun K10 hK10 => ?_
  refine x_seq fun K11 hK11 => ?_
  refine x_region ?_
  refine s_go (s_move) ?_
  try simp only [opv, n1, n2, n3, n4, Value.cells]
  refine s_go (s_move) ?_
  try simp only [opv, n1, n2, n3, n4, Value.cells]
  refine s_go (s_move) ?_
  try simp only [opv, n1, n2, n3, n4, Value.cells]
  refine s_call en133 ?_
  try simp only [opv, n1, n2, n3, n4, Value.cells, List.map_toArray, List.map_cons, List.map_nil, List.append_toArray, List.cons_append, List.nil_append, Array.append_empty]
  refine CallR.mono (callR_eq (by rw [hLl]) (c_deltaBut _ D De L (by rw [hLl]; exact hS.vecRd (by repeat (first | exact Has.head | apply Has.tail))) (by omega) (by omega) k (by omega))) ?_
  rintro _ w3 ⟨Cb, cb, rfl, hE3, hRb⟩
  replace hS := hS.ext hE3
  try simp only [opv, n1, n2, n3, n4, Value.cells]
  refine s_call en132 ?_
  try simp only [opv, n1, n2, n3, n4, Value.cells, List.map_toArray, List.map_cons, List.map_nil, List.append_toArray, List.cons_append, List.nil_append, Array.append_empty]
  refine CallR.mono (c_deltaSpare _ x.A x.c x.l (RwOk.at hrs hS.ext_of (by omega) hx).1 (RwOk.at hrs hS.ext_of (by omega) hx).2 (by omega) Cb cb (butL L k L.length) hRb (fun r h => ndl_ok hLm hrs hS.ext_of r (but_mem (Nat.le_refl _) h)) (by omega) (by omega)) ?_
  rintro _ w4 ⟨rfl, hE4⟩
  replace hS := hS.ext hE4
  try simp only [opv, n1, n2, n3, n4, Value.cells]
  refine s_go (s_not) ?_
  try simp only [opv, n1, n2, n3, n4, Value.cells]
  refine x_nil ?_
  refine hK11 _ _ ?_
  refine x_cond (ht := fun hc2 => ?_) (hf := fun hc2 => ?_)
  ·
   try simp only [decide_eq_true_eq, decide_eq_false_iff_not, Bool.not_eq_true', Bool.not_eq_false', Int.not_lt, Int.not_le, ne_eq, Decidable.not_not, bne_iff_ne, beq_iff_eq, not_true_eq_false, not_false_eq_true] at hc2
   have hsp : spQ x.l L k = false := by first | (unfold spQ; simpa using hc2) | simpa using hc2
   have hst := ndl_off hnd hx hsp
   refine x_exit (look_here ?_)
   refine hK8 _ _ ?_
   refine x_region ?_
   refine s_go (s_add (hc := by first | exact wr_i64 (by omega) (by omega) | rfl)) ?_
   try simp only [opv, n1, n2, n3, n4, Value.cells]
   refine s_go (s_move) ?_
   try simp only [opv, n1, n2, n3, n4, Value.cells]
   refine x_nil ?_
   refine loop_back (m' := rs.length - (k + 1)) (by simp only [clob, List.foldl, n1, n2, n3, n4]) ?_ ?_
   · try simp only [opv, n1, n2, n3, n4, Value.cells]
     first
     | exact ⟨k + 1, _, _, L.set k rw0, o ++ [(k : Int)], by omega, by omega, by rfl, hst, by rw [List.length_append]; rfl, by rw [List.length_append]; exact hS.sel (by repeat (first | exact Sel.nil | (refine Sel.cons (by repeat (first | exact Del.head | apply Del.tail)) ?_)))⟩
     | exact ⟨k + 1, _, _, L, o, by omega, by omega, by rfl, hst, by rfl, hS.sel (by repeat (first | exact Sel.nil | (refine Sel.cons (by repeat (first | exact Del.head | apply Del.tail)) ?_)))⟩
   · omega
  ·
   try simp only [decide_eq_true_eq, decide_eq_false_iff_not, Bool.not_eq_true', Bool.not_eq_false', Int.not_lt, Int.not_le, ne_eq, Decidable.not_not, bne_iff_ne, beq_iff_eq, not_true_eq_false, not_false_eq_true] at hc2
   have hsp : spQ x.l L k = true := by first | (unfold spQ; simpa using hc2) | simpa using hc2
   have hst := ndl_on hnd hx hsp
   refine x_skip ?_
   refine hK10 _ _ ?_
   refine x_region ?_
   refine s_go (s_move) ?_
   try simp only [opv, n1, n2, n3, n4, Value.cells]
   refine s_go (s_move) ?_
   try simp only [opv, n1, n2, n3, n4, Value.cells]
   refine s_go (s_move) ?_
   try simp only [opv, n1, n2, n3, n4, Value.cells]
   refine s_go (s_move) ?_
   try simp only [opv, n1, n2, n3, n4, Value.cells]
   refine m_buildRow (cells := #[_]) Try.underlying62 ti3 (hc := by simp only [List.map_toArray, List.map_cons, List.map_nil, opv, n1, n2, n3, n4, Value.cells, List.toList_toArray]; (repeat (refine fill_cons rfl rfl (Nat.le_of_ble_eq_true rfl) ?_)); rfl) (hS := hS) (h := fun w5 g5 hS => ?_)
   try simp only [opv, n1, n2, n3, n4, Value.cells, Array.toArray_toList] at hS ⊢
   replace hS := hS.obj_vec (sz := 1) (n := 1) rfl (by decide) .head
   refine m_append_vec Try.underlying62 ti3 (hS := hS) (news := [(k : Int)].map (Value.int .i64)) (h := fun w6 A6 C6 hS => ?_)
   try simp only [← List.map_append, ← List.map_drop, ← List.map_take, Nat.mul_one, Nat.zero_mul, Nat.sub_zero, List.drop_zero, List.nil_append, Nat.zero_add] at hS ⊢
   try simp only [opv, n1, n2, n3, n4, Value.cells, Array.toArray_toList] at hS ⊢
   refine s_go (s_assign) ?_
   try simp only [opv, n1, n2, n3, n4, Value.cells]
   first | refine s_go (m_indexAddr_rd Try.underlying22 ti24 (hS := hS)) ?_ | refine s_go (m_indexAddr_vec Try.underlying22 ti24 (hS := hS)) ?_
   try simp only [opv, n1, n2, n3, n4, Value.cells, Nat.mul_one, Nat.zero_add, Int.toNat_natCast, Int.reduceToNat]
   refine m_store_vec ti24 (hS := hS) (hc := by exact rw_set (by omega)) (h := fun w7 hS => ?_)
   try simp only [opv, n1, n2, n3, n4, Value.cells, Array.toArray_toList] at hS ⊢
   refine x_nil ?_
   refine hK8 _ _ ?_
   refine x_region ?_
   refine s_go (s_add (hc := by first | exact wr_i64 (by omega) (by omega) | rfl)) ?_
   try simp only [opv, n1, n2, n3, n4, Value.cells]
   refine s_go (s_move) ?_
   try simp only [opv, n1, n2, n3, n4, Value.cells]
   refine x_nil ?_
   refine loop_back (m' := rs.length - (k + 1)) (by simp only [clob, List.foldl, n1, n2, n3, n4]) ?_ ?_
   · try simp only [opv, n1, n2, n3, n4, Value.cells]
     first
     | exact ⟨k + 1, _, _, L.set k rw0, o ++ [(k : Int)], by omega, by omega, by rfl, hst, by rw [List.length_append]; rfl, by rw [List.length_append]; exact hS.sel (by repeat (first | exact Sel.nil | (refine Sel.cons (by repeat (first | exact Del.head | apply Del.tail)) ?_)))⟩
     | exact ⟨k + 1, _, _, L, o, by omega, by omega, by rfl, hst, by rfl, hS.sel (by repeat (first | exact Sel.nil | (refine Sel.cons (by repeat (first | exact Del.head | apply Del.tail)) ?_)))⟩
   · omega
 ·
  try simp only [decide_eq_true_eq, decide_eq_false_iff_not, Bool.not_eq_true', Bool.not_eq_false', Int.not_lt, Int.not_le, ne_eq, Decidable.not_not, bne_iff_ne, beq_iff_eq, not_true_eq_false, not_false_eq_true] at hc1
  obtain rfl : k = rs.length := by omega
  refine x_exit (look_here ?_)
  refine hK4 _ _ ?_
  refine x_seq fun K12 hK12 => ?_
  refine x_region ?_
  refine s_go (s_move) ?_
  try simp only [opv, n1, n2, n3, n4, Value.cells]
  refine s_go (s_assign) ?_
  try simp only [opv, n1, n2, n3, n4, Value.cells]
  refine x_nil ?_
  refine hK12 _ _ ?_
  refine x_ret ?_
  refine r_tmp rfl ?_
  rw [hnd]
  exact ⟨_, _, rfl, hS.sel (by repeat (first | exact Sel.nil | (refine Sel.cons (by repeat (first | exact Del.head | apply Del.tail)) ?_)))⟩
end Go.Proofs.Ytmgacmkikefpjaa
set_option linter.unusedSimpArgs false
set_option linter.unusedVariables false
set_option maxHeartbeats 1000000
set_option maxRecDepth 100000
namespace Go.Proofs.Ytmgacmkikefpjaa
open Go.RowKit

theorem leqA_rnk {t : List (List Int)} {a : List Int} (ht : AOks t) (ha : AtomOk a) : leqA t a = decide (rnk (some (aval a)) ≤ rnk (fnd (akey a) t)) := by
  rw [leqA]
  cases hf : fnd (akey a) t with
  | none => simp [rnk]
  | some w =>
    show overV w (aval a) = _
    rw [over_rank (fnd_ok ht hf) ha.val]
    simp [rnk]
theorem rnk_dif {t : List (List Int)} (ht : AOks t) (k : List Int) : ∀ {s : List (List Int)}, StaR s → rnk (fnd k (difS t s)) = if rnk (fnd k s) ≤ rnk (fnd k t) then 0 else rnk (fnd k s)
  | [], _ => by simp [difS, fnd, rnk]
  | a :: s, h => by
    have ha := h.ok a (by simp)
    have ih := rnk_dif ht k h.tail
    have hl := leqA_rnk ht ha
    have hd : difS t (a :: s) = if leqA t a = true then difS t s else a :: difS t s := by
      rw [difS, List.filter_cons]
      cases leqA t a <;> rfl
    by_cases e : akey a = k
    · subst e
      have hn : fnd (akey a) s = none := fnd_none.2 fun b hb h2 => by have := h.head b hb; rw [h2] at this; omega
      rw [hn] at ih
      have e1 : fnd (akey a) (a :: s) = some (aval a) := by rw [fnd, if_pos rfl]
      rw [hd, e1, hl]
      by_cases h3 : rnk (some (aval a)) ≤ rnk (fnd (akey a) t)
      · rw [if_pos (decide_eq_true h3), if_pos h3, ih]; simp [rnk]
      · rw [if_neg (by rw [decide_eq_false h3]; decide), if_neg h3, fnd, if_pos rfl]
    · have e1 : fnd k (a :: s) = fnd k s := by rw [fnd, if_neg e]
      rw [hd, e1, ← ih]
      cases leqA t a
      · rw [if_neg (by decide), fnd, if_neg e]
      · rw [if_pos rfl]
theorem dif_ok {a b : List (List Int)} (ha : AOks a) (_hb : AOks b) : AOks (difP a b) := (dif_sta (norm_sta ha)).ok
theorem dif_norm {a b : List (List Int)} (ha : AOks a) (_hb : AOks b) : normP (difP a b) = difP a b := norm_id (dif_sta (norm_sta ha))
section
variable {a b c : List (List Int)} (ha : AOks a) (hb : AOks b) (hc : AOks c)
include ha hb
theorem rnk_difP (k : List Int) : rnk (fnd k (normP (difP a b))) = if rnk (fnd k (normP a)) ≤ rnk (fnd k (normP b)) then 0 else rnk (fnd k (normP a)) := by
  rw [dif_norm ha hb, rnk_dif (norm_sta hb).ok k (norm_sta ha)]
theorem dl_1 : normP (difP a b ++ b) = normP (a ++ b) := by
  refine sta_rnk (norm_sta ((dif_ok ha hb).app hb)) (norm_sta (ha.app hb)) fun k => ?_
  rw [val_join (dif_ok ha hb) hb, val_join ha hb, rnk_difP ha hb]
  split <;> omega
theorem dl_2 : leqP (normP (difP a b)) (normP a) = true := (leqN (dif_ok ha hb) ha).2 fun k => by
  rw [rnk_difP ha hb]; split <;> omega
theorem dl_3 : (difP (difP a b) (normP (a ++ b))).length = 0 := dif_zero.2 ((leqN (dif_ok ha hb) (norm_sta (ha.app hb)).ok).2 fun k => by
  rw [norm_norm (ha.app hb), val_join ha hb, rnk_difP ha hb]; split <;> omega)
include hc in
theorem dl_4 (h : normP (c ++ b) = normP (a ++ b)) : leqP (normP (difP a b)) (normP c) = true := (leqN (dif_ok ha hb) hc).2 fun k => by
  have h1 := val_join hc hb k
  have h2 := val_join ha hb k
  rw [h, h2] at h1
  rw [rnk_difP ha hb]; split <;> omega
end
theorem ndl_in {rs : List Rw} {i : Int} : ∀ {k : Nat}, i ∈ (ndlS rs k).2 → ∃ n : Nat, n < k ∧ i = n
  | 0, h => by cases h
  | k + 1, h => by
    rw [ndlS] at h
    split at h
    · rcases List.mem_append.1 h with h | h
      · obtain ⟨n, h1, h2⟩ := ndl_in h; exact ⟨n, by omega, h2⟩
      · rw [List.mem_singleton] at h; exact ⟨k, by omega, h⟩
    · obtain ⟨n, h1, h2⟩ := ndl_in h; exact ⟨n, by omega, h2⟩
/-- rows, those at some places made empty -/
def blankR (rs : List Rw) (p : List Int) : List Rw := p.foldl (fun L i => L.set i.toNat rw0) rs
theorem blank_take {rs : List Rw} {p : List Int} {j q : Nat} (hj : j < p.length) (hq : p.getD j 0 = (q : Int)) : blankR rs (p.take (j + 1)) = (blankR rs (p.take j)).set q rw0 := by
  have e : p.getD j 0 = p[j] := by rw [List.getD_eq_getElem?_getD, List.getElem?_eq_getElem hj]; rfl
  rw [blankR, List.take_succ_eq_append_getElem hj, List.foldl_append, ← e, hq]; rfl
theorem blank_len (rs : List Rw) : ∀ p : List Int, ∀ L : List Rw, L.length = rs.length → (p.foldl (fun L i => L.set i.toNat rw0) L).length = rs.length
  | [], L, h => h
  | i :: p, L, h => blank_len rs p _ (by rw [List.length_set]; exact h)
theorem ndl_blank (rs : List Rw) : ∀ k, (ndlS rs k).1 = blankR rs (ndlS rs k).2
  | 0 => rfl
  | k + 1 => by
    have ih := ndl_blank rs k
    rw [ndlS]
    split
    · show (ndlS rs k).1.set k rw0 = blankR rs ((ndlS rs k).2 ++ [(k : Int)])
      rw [ih, blankR, blankR, List.foldl_append]; rfl
    · exact ih
theorem setR_getD {L : List Rw} {i j : Nat} (h : ¬ i = j) : (L.set i rw0).getD j rw0 = L.getD j rw0 := by
  rw [List.getD_eq_getElem?_getD, List.getD_eq_getElem?_getD, List.getElem?_set_ne h]
theorem ndl_at {rs : List Rw} {j : Nat} : ∀ {k : Nat}, k ≤ j → (ndlS rs k).1.getD j rw0 = rs.getD j rw0
  | 0, _ => rfl
  | k + 1, h => by
    rw [ndlS]
    split
    · show ((ndlS rs k).1.set k rw0).getD j rw0 = _
      rw [setR_getD (by omega), ndl_at (by omega)]
    · exact ndl_at (by omega)
theorem in_set {L : List Rw} {k j : Nat} (hj : j < L.length) (h : ¬ k = j) : L.getD j rw0 ∈ L.set k rw0 := by
  rw [← setR_getD (L := L) h]
  exact rws_mem (by rw [List.length_set]; exact hj) rfl
theorem but_set {L : List Rw} {k : Nat} {r : Rw} : ∀ {m : Nat}, m ≤ L.length → r ∈ butL L k m → r ∈ L.set k rw0
  | 0, _, h => by cases h
  | m + 1, hm, h => by
    rw [butL] at h
    split at h
    · exact but_set (by omega) h
    · rcases List.mem_append.1 h with h | h
      · exact but_set (by omega) h
      · rw [List.mem_singleton] at h; rw [h]; exact in_set (by omega) (by omega)
theorem set_join {L : List Rw} {k : Nat} {x : Rw} (hok : ∀ r ∈ L, AOks r.l) (hk : k < L.length) (hx : L.getD k rw0 = x) (hs : spQ x.l L k = true) : normP (flatR (L.set k rw0)) = normP (flatR L) := by
  have hok2 : ∀ r ∈ L.set k rw0, AOks r.l := fun r hr => by
    rcases List.mem_or_eq_of_mem_set hr with h | h
    · exact hok r h
    · rw [h]; exact AOks.nil
  have hok3 : ∀ r ∈ butL L k L.length, AOks r.l := fun r hr => hok r (but_mem (Nat.le_refl _) hr)
  have hxm : x ∈ L := rws_mem hk hx
  refine sta_rnk (norm_sta (flat_aok hok2)) (norm_sta (flat_aok hok)) fun q => ?_
  rw [rnk_flat q hok2, rnk_flat q hok]
  refine Nat.le_antisymm (fmax_le fun y hy => ?_) (fmax_le fun y hy => ?_)
  · obtain ⟨r, hr, rfl⟩ := List.mem_map.1 hy
    rcases List.mem_or_eq_of_mem_set hr with h | h
    · exact le_fmax (List.mem_map.2 ⟨r, h, rfl⟩)
    · rw [h]; exact Nat.zero_le _
  · obtain ⟨r, hr, rfl⟩ := List.mem_map.1 hy
    obtain ⟨j, hj, rfl⟩ := List.getElem_of_mem hr
    by_cases e : k = j
    · subst e
      have h1 := (leqN (hok x hxm) (flat_aok hok3)).1 hs q
      rw [rnk_flat q hok3] at h1
      have h2 : L[k] = x := by rw [← rw_here hk]; exact hx
      rw [h2]
      refine Nat.le_trans h1 (fmax_le fun z hz => ?_)
      obtain ⟨r2, hr2, rfl⟩ := List.mem_map.1 hz
      exact le_fmax (List.mem_map.2 ⟨r2, but_set (Nat.le_refl _) hr2, rfl⟩)
    · rw [← rw_here hj]
      exact le_fmax (List.mem_map.2 ⟨_, in_set hj e, rfl⟩)
theorem ndl_join {rs : List Rw} (hok : ∀ r ∈ rs, AOks r.l) : ∀ k, k ≤ rs.length → normP (flatR (ndlS rs k).1) = normP (flatR rs)
  | 0, _ => rfl
  | k + 1, hk => by
    have ih := ndl_join hok k (by omega)
    have hL : ∀ r ∈ (ndlS rs k).1, AOks r.l := fun r hr => (ndl_mem rs k r hr).elim (hok r) (fun h => h ▸ AOks.nil)
    rw [ndlS]
    split
    · next hs =>
      show normP (flatR ((ndlS rs k).1.set k rw0)) = _
      rw [set_join hL (by rw [ndl_len]; omega) (ndl_at (Nat.le_refl _)) hs, ih]
    · exact ih
theorem rw_three {w : World} {A B C : Option Addr} {c d e : Nat} {l r q : List (List Int)} (h1 : Rd w A 21 l.length (arows l)) (v1 : AOks l) (h2 : Rd w B 21 r.length (arows r)) (v2 : AOks r) (h3 : Rd w C 21 q.length (arows q)) (v3 : AOks q) : ∀ x ∈ ([⟨A, c, l⟩, ⟨B, d, r⟩, ⟨C, e, q⟩] : List Rw), RwOk w x := by
  intro x hx
  simp only [List.mem_cons, List.not_mem_nil, or_false] at hx
  rcases hx with rfl | rfl | rfl
  · exact ⟨h1, v1⟩
  · exact ⟨h2, v2⟩
  · exact ⟨h3, v3⟩
end Go.Proofs.Ytmgacmkikefpjaa
set_option linter.unusedSimpArgs false
set_option linter.unusedVariables false
set_option maxHeartbeats 2000000
set_option maxRecDepth 100000
namespace Go.Proofs.Ytmgacmkikefpjaa
open Go.RowKit
theorem c_DeltaLeast (w0 : World) (A : Option Addr) (c : Nat) (l : List (List Int)) (hr : Rd w0 A 21 l.length (arows l)) (hv : AOks l) (B : Option Addr) (d : Nat) (r : List (List Int)) (hr2 : Rd w0 B 21 r.length (arows r)) (hv2 : AOks r) (hn : l.length + r.length ≤ 600000000000000) (C : Option Addr) (e : Nat) (q : List (List Int)) (hr3 : Rd w0 C 21 q.length (arows q)) (hv3 : AOks q) (hn3 : q.length ≤ 600000000000000)  :
    CallR Try.prog 9 #[.slice A l.length c, .slice B r.length d, .slice C q.length e] w0 fun v w' => v = .bool true ∧ Ext w0 w' := by
 have hS := St.rd3 (S := NoB) hr hr2 hr3
 refine c_enter (l := [.slice A l.length c, .slice B r.length d, .slice C q.length e, undef, undef, undef, undef, undef, undef, undef, undef, undef, undef, undef, undef, undef, undef, undef, undef, undef, undef, undef, undef, undef, undef, undef, undef, undef, undef, undef, undef, undef, undef, undef, undef, undef, undef, undef, undef, undef, undef, undef, undef, undef, undef, undef, undef, undef, undef, undef, undef, undef, undef, undef, undef, undef, undef, undef, undef, undef, undef, undef, undef, undef, undef, undef, undef, undef, undef, undef, undef, undef, undef, undef, undef, undef, undef, undef, undef, undef, undef, undef, undef, undef, undef, undef, undef, undef, undef, undef, undef, undef, undef, undef, undef, undef, undef, undef, undef, undef, undef, undef, undef]) Try.func9 rfl (by simp only [Try.ntmps9, List.size_toArray, List.length_cons, List.length_nil, Nat.reduceAdd, Nat.reduceSub, Array.replicate_succ, Array.replicate_zero, List.push_toArray, List.append_toArray, List.nil_append, List.cons_append]) ?_
 refine x_seq fun K1 hK1 => ?_
 refine x_region ?_
 refine s_go (s_assign) ?_
 try simp only [opv, n1, n2, n3, n4, Value.cells]
 refine x_nil ?_
 refine hK1 _ _ ?_
 refine x_seq fun K2 hK2 => ?_
 refine x_seq fun K3 hK3 => ?_
 refine x_region ?_
 refine s_go (s_move) ?_
 try simp only [opv, n1, n2, n3, n4, Value.cells]
 refine s_go (s_len_sl Try.underlying24) ?_
 try simp only [opv, n1, n2, n3, n4, Value.cells]
 refine s_go (s_gtr) ?_
 try simp only [opv, n1, n2, n3, n4, Value.cells]
 refine s_go (s_move) ?_
 try simp only [opv, n1, n2, n3, n4, Value.cells]
 refine s_part 15 rfl (fun hp1 => ?_) (fun hp1 => ?_)
 ·
  try simp only [n3, n4]
  try simp only [decide_eq_true_eq, decide_eq_false_iff_not, Bool.not_eq_true', Bool.not_eq_false', Int.not_lt, Int.not_le, ne_eq, Decidable.not_not] at hp1
  first
  | (exfalso; omega)
  | skip
    refine g_off (yi (t := 15) rfl rfl) ?_
    try simp only [opv, n1, n2, n3, n4, Value.cells]
    refine g_off (yi (t := 15) rfl rfl) ?_
    try simp only [opv, n1, n2, n3, n4, Value.cells]
    refine g_off (yi (t := 15) rfl rfl) ?_
    try simp only [opv, n1, n2, n3, n4, Value.cells]
    first | refine s_go (s_pick_t) ?_ | refine s_go (s_pick_f) ?_
    try simp only [opv, n1, n2, n3, n4, Value.cells]
    refine s_go (s_move) ?_
    try simp only [opv, n1, n2, n3, n4, Value.cells]
    refine g_off (yi (t := 20) rfl rfl) ?_
    try simp only [opv, n1, n2, n3, n4, Value.cells]
    refine g_off (yi (t := 20) rfl rfl) ?_
    try simp only [opv, n1, n2, n3, n4, Value.cells]
    refine g_off (yi (t := 20) rfl rfl) ?_
    try simp only [opv, n1, n2, n3, n4, Value.cells]
    first | refine s_go (s_pick_t) ?_ | refine s_go (s_pick_f) ?_
    try simp only [opv, n1, n2, n3, n4, Value.cells]
    refine x_nil ?_
    refine hK3 _ _ ?_
    refine x_cond_t (h := ?_)
    refine x_seq fun K4 hK4 => ?_
    refine x_region ?_
    refine s_call en47 ?_
    try simp only [opv, n1, n2, n3, n4, Value.cells, List.map_toArray, List.map_cons, List.map_nil, List.append_toArray, List.cons_append, List.nil_append, Array.append_empty]
    refine CallR.mono (c_law11alive _) ?_
    rintro _ w1 ⟨rfl, hE1⟩
    replace hS := hS.ext hE1
    try simp only [opv, n1, n2, n3, n4, Value.cells]
    refine s_go (s_assign) ?_
    try simp only [opv, n1, n2, n3, n4, Value.cells]
    refine x_nil ?_
    refine hK4 _ _ ?_
    refine x_ret ?_
    refine r_tmp rfl ?_
    exact ⟨rfl, hS.ext_of⟩
 ·
  try simp only [n3, n4]
  try simp only [decide_eq_true_eq, decide_eq_false_iff_not, Bool.not_eq_true', Bool.not_eq_false', Int.not_lt, Int.not_le, ne_eq, Decidable.not_not] at hp1
  first
  | (exfalso; omega)
  | skip
    refine g_on (yi (t := 15) rfl rfl) ?_
    refine s_go (s_move) ?_
    try simp only [opv, n1, n2, n3, n4, Value.cells]
    refine g_on (yi (t := 15) rfl rfl) ?_
    refine s_go (s_len_sl Try.underlying24) ?_
    try simp only [opv, n1, n2, n3, n4, Value.cells]
    refine g_on (yi (t := 15) rfl rfl) ?_
    refine s_go (s_gtr) ?_
    try simp only [opv, n1, n2, n3, n4, Value.cells]
    first | refine s_go (s_pick_t) ?_ | refine s_go (s_pick_f) ?_
    try simp only [opv, n1, n2, n3, n4, Value.cells]
    refine s_go (s_move) ?_
    try simp only [opv, n1, n2, n3, n4, Value.cells]
    refine s_part 20 rfl (fun hp2 => ?_) (fun hp2 => ?_)
    ·
     try simp only [n3, n4]
     try simp only [decide_eq_true_eq, decide_eq_false_iff_not, Bool.not_eq_true', Bool.not_eq_false', Int.not_lt, Int.not_le, ne_eq, Decidable.not_not] at hp2
     first
     | (exfalso; omega)
     | skip
       refine g_off (yi (t := 20) rfl rfl) ?_
       try simp only [opv, n1, n2, n3, n4, Value.cells]
       refine g_off (yi (t := 20) rfl rfl) ?_
       try simp only [opv, n1, n2, n3, n4, Value.cells]
       refine g_off (yi (t := 20) rfl rfl) ?_
       try simp only [opv, n1, n2, n3, n4, Value.cells]
       first | refine s_go (s_pick_t) ?_ | refine s_go (s_pick_f) ?_
       try simp only [opv, n1, n2, n3, n4, Value.cells]
       refine x_nil ?_
       refine hK3 _ _ ?_
       refine x_cond_t (h := ?_)
       refine x_seq fun K5 hK5 => ?_
       refine x_region ?_
       refine s_call en47 ?_
       try simp only [opv, n1, n2, n3, n4, Value.cells, List.map_toArray, List.map_cons, List.map_nil, List.append_toArray, List.cons_append, List.nil_append, Array.append_empty]
       refine CallR.mono (c_law11alive _) ?_
       rintro _ w2 ⟨rfl, hE2⟩
       replace hS := hS.ext hE2
       try simp only [opv, n1, n2, n3, n4, Value.cells]
       refine s_go (s_assign) ?_
       try simp only [opv, n1, n2, n3, n4, Value.cells]
       refine x_nil ?_
       refine hK5 _ _ ?_
       refine x_ret ?_
       refine r_tmp rfl ?_
       exact ⟨rfl, hS.ext_of⟩
    ·
     try simp only [n3, n4]
     try simp only [decide_eq_true_eq, decide_eq_false_iff_not, Bool.not_eq_true', Bool.not_eq_false', Int.not_lt, Int.not_le, ne_eq, Decidable.not_not] at hp2
     first
     | (exfalso; omega)
     | skip
       refine g_on (yi (t := 20) rfl rfl) ?_
       refine s_go (s_move) ?_
       try simp only [opv, n1, n2, n3, n4, Value.cells]
       refine g_on (yi (t := 20) rfl rfl) ?_
       refine s_go (s_len_sl Try.underlying24) ?_
       try simp only [opv, n1, n2, n3, n4, Value.cells]
       refine g_on (yi (t := 20) rfl rfl) ?_
       refine s_go (s_gtr) ?_
       try simp only [opv, n1, n2, n3, n4, Value.cells]
       first | refine s_go (s_pick_t) ?_ | refine s_go (s_pick_f) ?_
       try simp only [opv, n1, n2, n3, n4, Value.cells]
       refine x_nil ?_
       refine hK3 _ _ ?_
       refine x_cond (ht := fun hc3 => ?_) (hf := fun hc3 => ?_)
       ·
        try simp only [decide_eq_true_eq, decide_eq_false_iff_not, Bool.not_eq_true', Bool.not_eq_false', Int.not_lt, Int.not_le, ne_eq, Decidable.not_not, bne_iff_ne, beq_iff_eq, not_true_eq_false, not_false_eq_true] at hc3
        first
        | (exfalso; omega)
        | skip
          refine x_seq fun K6 hK6 => ?_
          refine x_region ?_
          refine s_call en47 ?_
          try simp only [opv, n1, n2, n3, n4, Value.cells, List.map_toArray, List.map_cons, List.map_nil, List.append_toArray, List.cons_append, List.nil_append, Array.append_empty]
          refine CallR.mono (c_law11alive _) ?_
          rintro _ w3 ⟨rfl, hE3⟩
          replace hS := hS.ext hE3
          try simp only [opv, n1, n2, n3, n4, Value.cells]
          refine s_go (s_assign) ?_
          try simp only [opv, n1, n2, n3, n4, Value.cells]
          refine x_nil ?_
          refine hK6 _ _ ?_
          refine x_ret ?_
          refine r_tmp rfl ?_
          exact ⟨rfl, hS.ext_of⟩
       ·
        try simp only [decide_eq_true_eq, decide_eq_false_iff_not, Bool.not_eq_true', Bool.not_eq_false', Int.not_lt, Int.not_le, ne_eq, Decidable.not_not, bne_iff_ne, beq_iff_eq, not_true_eq_false, not_false_eq_true] at hc3
        first
        | (exfalso; omega)
        | skip
          have hn1 : l.length ≤ 40 := by omega
          have hn2 : r.length ≤ 40 := by omega
          have hn3 : q.length ≤ 40 := by omega
          have hjo := (norm_sta (hv.app hv2)).ok
          have hjl := norm_len (l ++ r)
          rw [List.length_append] at hjl
          have hdo := dif_ok hv hv2
          have hdl : (difP l r).length ≤ (normP l).length := dif_len _ _
          have hnl := norm_len l
          have hd1 := norm_len (difP l r ++ r)
          rw [List.length_append] at hd1
          have hc1 := norm_len (q ++ r)
          rw [List.length_append] at hc1
          refine x_skip ?_
          refine hK2 _ _ ?_
          refine x_seq fun K7 hK7 => ?_
          refine x_region ?_
          refine s_go (s_move) ?_
          try simp only [opv, n1, n2, n3, n4, Value.cells]
          refine s_go (s_move) ?_
          try simp only [opv, n1, n2, n3, n4, Value.cells]
          refine s_call en33 ?_
          try simp only [opv, n1, n2, n3, n4, Value.cells, List.map_toArray, List.map_cons, List.map_nil, List.append_toArray, List.cons_append, List.nil_append, Array.append_empty]
          refine CallR.mono (c_latJoin _ A c l (hS.hasRd (by repeat (first | exact Has.head | apply Has.tail))) hv B d r (hS.hasRd (by repeat (first | exact Has.head | apply Has.tail))) hv2 (by omega)) ?_
          rintro _ w4 ⟨Aj, cj, rfl, hC4⟩
          replace hS := hS.call hC4
          simp only [List.cons_append, List.nil_append] at hS
          try simp only [opv, n1, n2, n3, n4, Value.cells]
          refine s_go (s_move) ?_
          try simp only [opv, n1, n2, n3, n4, Value.cells]
          refine s_go (s_move) ?_
          try simp only [opv, n1, n2, n3, n4, Value.cells]
          refine s_call en48 ?_
          try simp only [opv, n1, n2, n3, n4, Value.cells, List.map_toArray, List.map_cons, List.map_nil, List.append_toArray, List.cons_append, List.nil_append, Array.append_empty]
          refine CallR.mono (c_deltaDiff _ A c l (hS.hasRd (by repeat (first | exact Has.head | apply Has.tail))) hv B d r (hS.hasRd (by repeat (first | exact Has.head | apply Has.tail))) hv2 (by omega)) ?_
          rintro _ w5 ⟨Ad, cd, rfl, hC5⟩
          replace hS := hS.call hC5
          simp only [List.cons_append, List.nil_append] at hS
          try simp only [opv, n1, n2, n3, n4, Value.cells]
          refine s_go (s_assign) ?_
          try simp only [opv, n1, n2, n3, n4, Value.cells]
          refine s_go (s_assign) ?_
          try simp only [opv, n1, n2, n3, n4, Value.cells]
          refine x_nil ?_
          refine hK7 _ _ ?_
          refine x_seq fun K8 hK8 => ?_
          refine x_seq fun K9 hK9 => ?_
          refine x_region ?_
          refine s_go (s_move) ?_
          try simp only [opv, n1, n2, n3, n4, Value.cells]
          refine s_go (s_move) ?_
          try simp only [opv, n1, n2, n3, n4, Value.cells]
          refine s_call en33 ?_
          try simp only [opv, n1, n2, n3, n4, Value.cells, List.map_toArray, List.map_cons, List.map_nil, List.append_toArray, List.cons_append, List.nil_append, Array.append_empty]
          refine CallR.mono (c_latJoin _ Ad cd (difP l r) (hS.vecRd (by repeat (first | exact Has.head | apply Has.tail))) hdo B d r (hS.hasRd (by repeat (first | exact Has.head | apply Has.tail))) hv2 (by omega)) ?_
          rintro _ w6 ⟨Ae, ce, rfl, hC6⟩
          replace hS := hS.call hC6
          simp only [List.cons_append, List.nil_append] at hS
          try simp only [opv, n1, n2, n3, n4, Value.cells]
          refine s_go (s_move) ?_
          try simp only [opv, n1, n2, n3, n4, Value.cells]
          refine s_call en25 ?_
          try simp only [opv, n1, n2, n3, n4, Value.cells, List.map_toArray, List.map_cons, List.map_nil, List.append_toArray, List.cons_append, List.nil_append, Array.append_empty]
          refine CallR.mono (c_ref10Rows _ _ _ _ (hS.vecRd (by repeat (first | exact Has.head | apply Has.tail))) (norm_sta (hdo.app hv2)).ok _ _ _ (hS.vecRd (by repeat (first | exact Has.head | apply Has.tail))) hjo (by omega)) ?_
          rintro _ w7 ⟨rfl, hE7⟩
          replace hS := hS.ext hE7
          try simp only [opv, n1, n2, n3, n4, Value.cells]
          rw [decide_eq_true (dl_1 hv hv2)]
          refine s_go (s_not) ?_
          try simp only [opv, n1, n2, n3, n4, Value.cells]
          refine s_go (s_move) ?_
          try simp only [opv, n1, n2, n3, n4, Value.cells]
          refine g_on (yi (t := 38) rfl rfl) ?_
          refine s_go (s_move) ?_
          try simp only [opv, n1, n2, n3, n4, Value.cells]
          refine g_on (yi (t := 38) rfl rfl) ?_
          refine s_go (s_move) ?_
          try simp only [opv, n1, n2, n3, n4, Value.cells]
          refine g_on (yi (t := 38) rfl rfl) ?_
          refine s_call en37 ?_
          try simp only [opv, n1, n2, n3, n4, Value.cells, List.map_toArray, List.map_cons, List.map_nil, List.append_toArray, List.cons_append, List.nil_append, Array.append_empty]
          refine CallR.mono (c_latLeq _ Ad cd (difP l r) (hS.vecRd (by repeat (first | exact Has.head | apply Has.tail))) hdo A c l (hS.hasRd (by repeat (first | exact Has.head | apply Has.tail))) hv (by omega)) ?_
          rintro _ w8 ⟨rfl, hE8⟩
          replace hS := hS.ext hE8
          try simp only [opv, n1, n2, n3, n4, Value.cells]
          rw [dl_2 hv hv2]
          refine g_on (yi (t := 38) rfl rfl) ?_
          refine s_go (s_not) ?_
          try simp only [opv, n1, n2, n3, n4, Value.cells]
          first | refine s_go (s_pick_t) ?_ | refine s_go (s_pick_f) ?_
          try simp only [opv, n1, n2, n3, n4, Value.cells]
          refine s_go (s_move) ?_
          try simp only [opv, n1, n2, n3, n4, Value.cells]
          refine g_on (yi (t := 44) rfl rfl) ?_
          refine s_go (s_move) ?_
          try simp only [opv, n1, n2, n3, n4, Value.cells]
          refine g_on (yi (t := 44) rfl rfl) ?_
          refine s_go (s_move) ?_
          try simp only [opv, n1, n2, n3, n4, Value.cells]
          refine g_on (yi (t := 44) rfl rfl) ?_
          refine s_call en48 ?_
          try simp only [opv, n1, n2, n3, n4, Value.cells, List.map_toArray, List.map_cons, List.map_nil, List.append_toArray, List.cons_append, List.nil_append, Array.append_empty]
          refine CallR.mono (c_deltaDiff _ Ad cd (difP l r) (hS.vecRd (by repeat (first | exact Has.head | apply Has.tail))) hdo Aj cj (normP (l ++ r)) (hS.vecRd (by repeat (first | exact Has.head | apply Has.tail))) hjo (by omega)) ?_
          rintro _ w9 ⟨Af, cf, rfl, hC9⟩
          replace hS := hS.call hC9
          simp only [List.cons_append, List.nil_append] at hS
          rw [dl_3 hv hv2]
          try simp only [opv, n1, n2, n3, n4, Value.cells]
          refine g_on (yi (t := 44) rfl rfl) ?_
          refine s_go (s_len_sl Try.underlying24) ?_
          try simp only [opv, n1, n2, n3, n4, Value.cells]
          refine g_on (yi (t := 44) rfl rfl) ?_
          refine s_go (s_neq) ?_
          try simp only [opv, n1, n2, n3, n4, Value.cells]
          try simp only [ne_eq, not_true_eq_false, decide_false, eq_self, decide_true]
          first | refine s_go (s_pick_t) ?_ | refine s_go (s_pick_f) ?_
          try simp only [opv, n1, n2, n3, n4, Value.cells]
          refine x_nil ?_
          refine hK9 _ _ ?_
          refine x_cond_f (h := ?_)
          refine x_skip ?_
          refine hK8 _ _ ?_
          refine x_seq_j [6, 51, 52, 53, 54, 55, 56, 57, 58, 59, 60, 61] (fun f w => St NoB w0 w [.rd A 21 (l).length (arows (l)), .rd B 21 (r).length (arows (r)), .rd C 21 (q).length (arows (q))]) ?jx1 ?jy1
          case jx1 =>
           refine x_seq fun K10 hK10 => ?_
           refine x_region ?_
           refine s_go (s_move) ?_
           try simp only [opv, n1, n2, n3, n4, Value.cells]
           refine s_go (s_move) ?_
           try simp only [opv, n1, n2, n3, n4, Value.cells]
           refine s_call en33 ?_
           try simp only [opv, n1, n2, n3, n4, Value.cells, List.map_toArray, List.map_cons, List.map_nil, List.append_toArray, List.cons_append, List.nil_append, Array.append_empty]
           refine CallR.mono (c_latJoin _ C e q (hS.hasRd (by repeat (first | exact Has.head | apply Has.tail))) hv3 B d r (hS.hasRd (by repeat (first | exact Has.head | apply Has.tail))) hv2 (by omega)) ?_
           rintro _ w10 ⟨Ag, cg, rfl, hC10⟩
           replace hS := hS.call hC10
           simp only [List.cons_append, List.nil_append] at hS
           try simp only [opv, n1, n2, n3, n4, Value.cells]
           refine s_go (s_move) ?_
           try simp only [opv, n1, n2, n3, n4, Value.cells]
           refine s_call en25 ?_
           try simp only [opv, n1, n2, n3, n4, Value.cells, List.map_toArray, List.map_cons, List.map_nil, List.append_toArray, List.cons_append, List.nil_append, Array.append_empty]
           refine CallR.mono (c_ref10Rows _ _ _ _ (hS.vecRd (by repeat (first | exact Has.head | apply Has.tail))) (norm_sta (hv3.app hv2)).ok _ _ _ (hS.vecRd (by repeat (first | exact Has.head | apply Has.tail))) hjo (by omega)) ?_
           rintro _ w11 ⟨rfl, hE11⟩
           replace hS := hS.ext hE11
           try simp only [opv, n1, n2, n3, n4, Value.cells]
           refine s_go (s_move) ?_
           try simp only [opv, n1, n2, n3, n4, Value.cells]
           refine s_part 56 rfl (fun hp3 => ?_) (fun hp3 => ?_)
           ·
            try simp only [n3, n4]
            try simp only [decide_eq_true_eq, decide_eq_false_iff_not, Bool.not_eq_true', Bool.not_eq_false', Int.not_lt, Int.not_le, ne_eq, Decidable.not_not] at hp3
            first
            | (exfalso; omega)
            | skip
              have hcb : normP (q ++ r) = normP (l ++ r) := by simpa using hp3
              refine g_on (yi (t := 56) rfl rfl) ?_
              refine s_go (s_move) ?_
              try simp only [opv, n1, n2, n3, n4, Value.cells]
              refine g_on (yi (t := 56) rfl rfl) ?_
              refine s_go (s_move) ?_
              try simp only [opv, n1, n2, n3, n4, Value.cells]
              refine g_on (yi (t := 56) rfl rfl) ?_
              refine s_call en37 ?_
              try simp only [opv, n1, n2, n3, n4, Value.cells, List.map_toArray, List.map_cons, List.map_nil, List.append_toArray, List.cons_append, List.nil_append, Array.append_empty]
              refine CallR.mono (c_latLeq _ Ad cd (difP l r) (hS.vecRd (by repeat (first | exact Has.head | apply Has.tail))) hdo C e q (hS.hasRd (by repeat (first | exact Has.head | apply Has.tail))) hv3 (by omega)) ?_
              rintro _ w12 ⟨rfl, hE12⟩
              replace hS := hS.ext hE12
              try simp only [opv, n1, n2, n3, n4, Value.cells]
              rw [dl_4 hv hv2 hv3 hcb]
              refine g_on (yi (t := 56) rfl rfl) ?_
              refine s_go (s_not) ?_
              try simp only [opv, n1, n2, n3, n4, Value.cells]
              first | refine s_go (s_pick_t) ?_ | refine s_go (s_pick_f) ?_
              try simp only [opv, n1, n2, n3, n4, Value.cells]
              refine x_nil ?_
              refine hK10 _ _ ?_
              refine x_cond_f (h := ?_)
              refine x_skip ?_
              refine mix_leaf (by simp only [clob, List.foldl, n1, n2, n3, n4]) ?_
              try simp only [n1, n2]
              exact hS.sel (by repeat (first | exact Sel.nil | (refine Sel.cons (by repeat (first | exact Del.head | apply Del.tail)) ?_)))
           ·
            try simp only [n3, n4]
            try simp only [decide_eq_true_eq, decide_eq_false_iff_not, Bool.not_eq_true', Bool.not_eq_false', Int.not_lt, Int.not_le, ne_eq, Decidable.not_not] at hp3
            first
            | (exfalso; omega)
            | skip
              refine g_off (yi (t := 56) rfl rfl) ?_
              try simp only [opv, n1, n2, n3, n4, Value.cells]
              refine g_off (yi (t := 56) rfl rfl) ?_
              try simp only [opv, n1, n2, n3, n4, Value.cells]
              refine g_off (yi (t := 56) rfl rfl) ?_
              try simp only [opv, n1, n2, n3, n4, Value.cells]
              refine g_off (yi (t := 56) rfl rfl) ?_
              try simp only [opv, n1, n2, n3, n4, Value.cells]
              first | refine s_go (s_pick_t) ?_ | refine s_go (s_pick_f) ?_
              try simp only [opv, n1, n2, n3, n4, Value.cells]
              refine x_nil ?_
              refine hK10 _ _ ?_
              refine x_cond_f (h := ?_)
              refine x_skip ?_
              refine mix_leaf (by simp only [clob, List.foldl, n1, n2, n3, n4]) ?_
              try simp only [n1, n2]
              exact hS.sel (by repeat (first | exact Sel.nil | (refine Sel.cons (by repeat (first | exact Del.head | apply Del.tail)) ?_)))
          intro fm1 w13 hM
          simp only [clob, List.foldl, n3, n4]
          replace hS := hM
          refine x_seq fun K11 hK11 => ?_
          refine x_region ?_
          refine s_go (s_move) ?_
          try simp only [opv, n1, n2, n3, n4, Value.cells]
          refine s_go (s_move) ?_
          try simp only [opv, n1, n2, n3, n4, Value.cells]
          refine s_go (s_move) ?_
          try simp only [opv, n1, n2, n3, n4, Value.cells]
          refine m_buildRow (cells := #[_, _, _]) Try.underlying22 ti24 (hc := by simp only [List.map_toArray, List.map_cons, List.map_nil, opv, n1, n2, n3, n4, Value.cells, List.toList_toArray]; (repeat (refine fill_cons rfl rfl (Nat.le_of_ble_eq_true rfl) ?_)); rfl) (hS := hS) (h := fun w14 g14 hS => ?_)
          try simp only [opv, n1, n2, n3, n4, Value.cells, Array.toArray_toList] at hS ⊢
          replace hS := hS.obj_vec (sz := 1) (n := 3) rfl (by decide) .head
          obtain ⟨gl, hgl⟩ : ∃ z, z = g14 := ⟨_, rfl⟩
          rw [← hgl] at hS ⊢
          refine s_go (s_assign) ?_
          try simp only [opv, n1, n2, n3, n4, Value.cells]
          have h40 : ∀ x ∈ ([⟨A, c, l⟩, ⟨B, d, r⟩, ⟨C, e, q⟩] : List Rw), x.l.length ≤ 40 := fun x hx => by simp only [List.mem_cons, List.not_mem_nil, or_false] at hx; rcases hx with rfl | rfl | rfl <;> assumption
          have hok3 : ∀ x ∈ ([⟨A, c, l⟩, ⟨B, d, r⟩, ⟨C, e, q⟩] : List Rw), AOks x.l := fun x hx => by simp only [List.mem_cons, List.not_mem_nil, or_false] at hx; rcases hx with rfl | rfl | rfl <;> assumption
          refine x_nil ?_
          refine hK11 _ _ ?_
          refine x_seq fun K12 hK12 => ?_
          refine x_region ?_
          refine s_go (s_move) ?_
          try simp only [opv, n1, n2, n3, n4, Value.cells]
          refine s_call en49 ?_
          try simp only [opv, n1, n2, n3, n4, Value.cells, List.map_toArray, List.map_cons, List.map_nil, List.append_toArray, List.cons_append, List.nil_append, Array.append_empty]
          refine CallR.mono (c_deltaNdl _ (some ⟨gl, 0, none⟩) 3 [⟨A, c, l⟩, ⟨B, d, r⟩, ⟨C, e, q⟩] (hS.vecRd (by repeat (first | exact Has.head | apply Has.tail))) (rw_three (hS.hasRd (by repeat (first | exact Has.head | apply Has.tail))) hv (hS.hasRd (by repeat (first | exact Has.head | apply Has.tail))) hv2 (hS.hasRd (by repeat (first | exact Has.head | apply Has.tail))) hv3) (Nat.le_of_ble_eq_true rfl) h40) ?_
          rintro _ w15 ⟨Dn, en, rfl, hC15⟩
          replace hS := hS.call hC15
          simp only [List.cons_append, List.nil_append] at hS
          obtain ⟨p, hp⟩ : ∃ p, (ndlS ([⟨A, c, l⟩, ⟨B, d, r⟩, ⟨C, e, q⟩] : List Rw) 3).2 = p := ⟨_, rfl⟩
          have hpl := ndl_out ([⟨A, c, l⟩, ⟨B, d, r⟩, ⟨C, e, q⟩] : List Rw) 3
          have hpi : ∀ i ∈ p, ∃ n : Nat, n < 3 ∧ i = n := fun i hi => ndl_in (by rw [hp]; exact hi)
          rw [show (ndlS ([⟨A, c, l⟩, ⟨B, d, r⟩, ⟨C, e, q⟩] : List Rw) (List.length ([⟨A, c, l⟩, ⟨B, d, r⟩, ⟨C, e, q⟩] : List Rw))).2 = p from hp] at hS ⊢
          rw [hp] at hpl
          try simp only [opv, n1, n2, n3, n4, Value.cells]
          refine s_go (s_assign) ?_
          try simp only [opv, n1, n2, n3, n4, Value.cells]
          refine x_nil ?_
          refine hK12 _ _ ?_
          refine x_seq fun K13 hK13 => ?_
          refine x_seq fun K14 hK14 => ?_
          refine x_region ?_
          refine s_go (s_assign) ?_
          try simp only [opv, n1, n2, n3, n4, Value.cells]
          refine x_nil ?_
          refine hK14 _ _ ?_
          refine x_block ?_
          refine x_loop [6, 11, 68, 69, 70, 71, 72, 73, 74, 75, 76, 77, 78, 79, 80, 81, 82, 83, 84, 85, 86, 87, 88, 89, 90, 91] (fun m f w => ∃ j : Nat, j ≤ p.length ∧ m = p.length - j ∧ f 11 = .int .i64 (j : Int) ∧ St NoB w0 w [.vec (some ⟨gl, 0, none⟩) 3 24 1 3 ((blankR ([⟨A, c, l⟩, ⟨B, d, r⟩, ⟨C, e, q⟩] : List Rw) (p.take j)).map rwV), .vec Dn en 3 1 (p).length ((p).map (Value.int .i64)), .rd A 21 (l).length (arows (l)), .rd B 21 (r).length (arows (r)), .rd C 21 (q).length (arows (q))]) (p.length) ?init1 (fun m1 f1 wl1 hI => ?_)
          case init1 =>
           try simp only [opv, n1, n2, n3, n4, Value.cells]
           exact ⟨0, by omega, rfl, rfl, hS.sel (by repeat (first | exact Sel.nil | (refine Sel.cons (by repeat (first | exact Del.head | apply Del.tail)) ?_)))⟩
          obtain ⟨j, hj0, hmj, h11, hS⟩ := hI
          simp only [clob, List.foldl, n3, n4, h11]
          have hbl : (blankR ([⟨A, c, l⟩, ⟨B, d, r⟩, ⟨C, e, q⟩] : List Rw) (p.take j)).length = 3 := blank_len ([⟨A, c, l⟩, ⟨B, d, r⟩, ⟨C, e, q⟩] : List Rw) _ _ rfl
          refine x_seq fun K15 hK15 => ?_
          refine x_seq fun K16 hK16 => ?_
          refine x_region ?_
          refine s_go (s_move) ?_
          try simp only [opv, n1, n2, n3, n4, Value.cells]
          refine s_go (s_move) ?_
          try simp only [opv, n1, n2, n3, n4, Value.cells]
          refine s_go (s_len_sl Try.underlying62) ?_
          try simp only [opv, n1, n2, n3, n4, Value.cells]
          refine s_go (s_lss) ?_
          try simp only [opv, n1, n2, n3, n4, Value.cells]
          refine x_nil ?_
          refine hK16 _ _ ?_
          refine x_cond (ht := fun hc7 => ?_) (hf := fun hc7 => ?_)
          ·
           try simp only [decide_eq_true_eq, decide_eq_false_iff_not, Bool.not_eq_true', Bool.not_eq_false', Int.not_lt, Int.not_le, ne_eq, Decidable.not_not, bne_iff_ne, beq_iff_eq, not_true_eq_false, not_false_eq_true] at hc7
           first
           | (exfalso; omega)
           | skip
             have hjl : j < p.length := by omega
             obtain ⟨z, hz, hpn⟩ := hpi (p.getD j 0) (getD_mem' hjl)
             refine x_skip ?_
             refine hK15 _ _ ?_
             refine x_seq fun K17 hK17 => ?_
             refine x_block ?_
             refine x_seq fun K18 hK18 => ?_
             refine x_seq fun K19 hK19 => ?_
             refine x_region ?_
             refine s_go (s_move) ?_
             try simp only [opv, n1, n2, n3, n4, Value.cells]
             refine s_go (s_move) ?_
             try simp only [opv, n1, n2, n3, n4, Value.cells]
             first | refine s_go (m_indexAddr_rd Try.underlying62 ti3 (hS := hS)) ?_ | refine s_go (m_indexAddr_vec Try.underlying62 ti3 (hS := hS)) ?_
             try simp only [opv, n1, n2, n3, n4, Value.cells, Nat.mul_one, Nat.zero_add, Int.toNat_natCast, Int.reduceToNat]
             first | refine s_go (m_load_obj Try.underlying3 (hS := hS) (hv := il_get (by omega))) ?_ | refine s_go (m_load_bx Try.underlying3 (hS := hS) (hv := il_get (by omega))) ?_ | refine s_go (m_load_rd Try.underlying3 (hS := hS) (hv := il_get (by omega))) ?_ | refine s_go (m_load_vec Try.underlying3 (hS := hS) (hv := il_get (by omega))) ?_
             try simp only [opv, n1, n2, n3, n4, Value.cells, List.getElem_toArray, List.getElem_cons_zero, List.getElem_cons_succ]
             rw [hpn]
             refine s_go (s_lss) ?_
             try simp only [opv, n1, n2, n3, n4, Value.cells]
             rw [decide_eq_false (show ¬ (z : Int) < 0 by omega)]
             refine s_go (s_move) ?_
             try simp only [opv, n1, n2, n3, n4, Value.cells]
             refine g_on (yi (t := 79) rfl rfl) ?_
             refine s_go (s_move) ?_
             try simp only [opv, n1, n2, n3, n4, Value.cells]
             refine g_on (yi (t := 79) rfl rfl) ?_
             refine s_go (s_move) ?_
             try simp only [opv, n1, n2, n3, n4, Value.cells]
             refine g_on (yi (t := 79) rfl rfl) ?_
             first | refine s_go (m_indexAddr_rd Try.underlying62 ti3 (hS := hS)) ?_ | refine s_go (m_indexAddr_vec Try.underlying62 ti3 (hS := hS)) ?_
             try simp only [opv, n1, n2, n3, n4, Value.cells, Nat.mul_one, Nat.zero_add, Int.toNat_natCast, Int.reduceToNat]
             refine g_on (yi (t := 79) rfl rfl) ?_
             first | refine s_go (m_load_obj Try.underlying3 (hS := hS) (hv := il_get (by omega))) ?_ | refine s_go (m_load_bx Try.underlying3 (hS := hS) (hv := il_get (by omega))) ?_ | refine s_go (m_load_rd Try.underlying3 (hS := hS) (hv := il_get (by omega))) ?_ | refine s_go (m_load_vec Try.underlying3 (hS := hS) (hv := il_get (by omega))) ?_
             try simp only [opv, n1, n2, n3, n4, Value.cells, List.getElem_toArray, List.getElem_cons_zero, List.getElem_cons_succ]
             rw [hpn]
             refine g_on (yi (t := 79) rfl rfl) ?_
             refine s_go (s_gtr) ?_
             try simp only [opv, n1, n2, n3, n4, Value.cells]
             rw [decide_eq_false (show ¬ (2 : Int) < (z : Int) by omega)]
             first | refine s_go (s_pick_t) ?_ | refine s_go (s_pick_f) ?_
             try simp only [opv, n1, n2, n3, n4, Value.cells]
             refine x_nil ?_
             refine hK19 _ _ ?_
             refine x_cond_f (h := ?_)
             refine x_skip ?_
             refine hK18 _ _ ?_
             refine x_region ?_
             refine s_go (s_move) ?_
             try simp only [opv, n1, n2, n3, n4, Value.cells]
             refine s_go (s_move) ?_
             try simp only [opv, n1, n2, n3, n4, Value.cells]
             refine s_go (s_move) ?_
             try simp only [opv, n1, n2, n3, n4, Value.cells]
             first | refine s_go (m_indexAddr_rd Try.underlying62 ti3 (hS := hS)) ?_ | refine s_go (m_indexAddr_vec Try.underlying62 ti3 (hS := hS)) ?_
             try simp only [opv, n1, n2, n3, n4, Value.cells, Nat.mul_one, Nat.zero_add, Int.toNat_natCast, Int.reduceToNat]
             first | refine s_go (m_load_obj Try.underlying3 (hS := hS) (hv := il_get (by omega))) ?_ | refine s_go (m_load_bx Try.underlying3 (hS := hS) (hv := il_get (by omega))) ?_ | refine s_go (m_load_rd Try.underlying3 (hS := hS) (hv := il_get (by omega))) ?_ | refine s_go (m_load_vec Try.underlying3 (hS := hS) (hv := il_get (by omega))) ?_
             try simp only [opv, n1, n2, n3, n4, Value.cells, List.getElem_toArray, List.getElem_cons_zero, List.getElem_cons_succ]
             rw [hpn]
             first | refine s_go (m_indexAddr_rd Try.underlying22 ti24 (hS := hS)) ?_ | refine s_go (m_indexAddr_vec Try.underlying22 ti24 (hS := hS)) ?_
             try simp only [opv, n1, n2, n3, n4, Value.cells, Nat.mul_one, Nat.zero_add, Int.toNat_natCast, Int.reduceToNat]
             refine m_store_vec ti24 (hS := hS) (hc := by exact rw_set (by omega)) (h := fun w16 hS => ?_)
             try simp only [opv, n1, n2, n3, n4, Value.cells, Array.toArray_toList] at hS ⊢
             refine x_nil ?_
             refine hK17 _ _ ?_
             refine x_region ?_
             refine s_go (s_move) ?_
             try simp only [opv, n1, n2, n3, n4, Value.cells]
             refine s_go (s_add (hc := by first | exact wr_i64 (by omega) (by omega) | rfl)) ?_
             try simp only [opv, n1, n2, n3, n4, Value.cells]
             refine s_go (s_assign) ?_
             try simp only [opv, n1, n2, n3, n4, Value.cells]
             refine x_nil ?_
             refine loop_back (m' := p.length - (j + 1)) (by simp only [clob, List.foldl, n1, n2, n3, n4]) ?_ ?_
             · try simp only [opv, n1, n2, n3, n4, Value.cells]
               exact ⟨j + 1, by omega, by omega, by rfl, by rw [blank_take hjl hpn]; exact hS.sel (by repeat (first | exact Sel.nil | (refine Sel.cons (by repeat (first | exact Del.head | apply Del.tail)) ?_)))⟩
             · omega
          ·
           try simp only [decide_eq_true_eq, decide_eq_false_iff_not, Bool.not_eq_true', Bool.not_eq_false', Int.not_lt, Int.not_le, ne_eq, Decidable.not_not, bne_iff_ne, beq_iff_eq, not_true_eq_false, not_false_eq_true] at hc7
           first
           | (exfalso; omega)
           | skip
             obtain rfl : j = p.length := by omega
             rw [List.take_of_length_le (Nat.le_refl _)] at hS hbl
             refine x_exit (look_here ?_)
             refine hK13 _ _ ?_
             refine x_seq fun K20 hK20 => ?_
             refine x_region ?_
             have hbe : blankR ([⟨A, c, l⟩, ⟨B, d, r⟩, ⟨C, e, q⟩] : List Rw) p = (ndlS ([⟨A, c, l⟩, ⟨B, d, r⟩, ⟨C, e, q⟩] : List Rw) 3).1 := by rw [ndl_blank, hp]
             have hbm : ∀ x ∈ blankR ([⟨A, c, l⟩, ⟨B, d, r⟩, ⟨C, e, q⟩] : List Rw) p, x ∈ ([⟨A, c, l⟩, ⟨B, d, r⟩, ⟨C, e, q⟩] : List Rw) ∨ x = rw0 := by rw [hbe]; exact ndl_mem _ 3
             have hbo := ndl_ok hbm (rw_three (hS.hasRd (by repeat (first | exact Has.head | apply Has.tail))) hv (hS.hasRd (by repeat (first | exact Has.head | apply Has.tail))) hv2 (hS.hasRd (by repeat (first | exact Has.head | apply Has.tail))) hv3) (Ext.rfl')
             have hbf := flat_bnd (ndl_le hbm h40)
             have hnj := ndl_join hok3 3 (Nat.le_refl _)
             rw [← hbe] at hnj
             have hba : AOks (flatR (blankR ([⟨A, c, l⟩, ⟨B, d, r⟩, ⟨C, e, q⟩] : List Rw) p)) := flat_aok fun x hx => (hbo x hx).ok
             have h3f : (flatR ([⟨A, c, l⟩, ⟨B, d, r⟩, ⟨C, e, q⟩] : List Rw)).length ≤ 120 := flat_bnd h40
             have hb1 := norm_len (flatR (blankR ([⟨A, c, l⟩, ⟨B, d, r⟩, ⟨C, e, q⟩] : List Rw) p))
             have hb2 := norm_len (flatR ([⟨A, c, l⟩, ⟨B, d, r⟩, ⟨C, e, q⟩] : List Rw))
             refine s_go (s_move) ?_
             try simp only [opv, n1, n2, n3, n4, Value.cells]
             refine s_call en26 ?_
             try simp only [opv, n1, n2, n3, n4, Value.cells, List.map_toArray, List.map_cons, List.map_nil, List.append_toArray, List.cons_append, List.nil_append, Array.append_empty]
             refine CallR.mono (callR_eq (by rw [hbl]) (c_latAll _ (some ⟨gl, 0, none⟩) 3 (blankR ([⟨A, c, l⟩, ⟨B, d, r⟩, ⟨C, e, q⟩] : List Rw) p) (by rw [hbl]; exact hS.vecRd (by repeat (first | exact Has.head | apply Has.tail))) hbo (by omega) (by omega))) ?_
             rintro _ w17 ⟨Ax, cx, rfl, hC17⟩
             replace hS := hS.call hC17
             simp only [List.cons_append, List.nil_append] at hS
             try simp only [opv, n1, n2, n3, n4, Value.cells]
             refine s_go (s_move) ?_
             try simp only [opv, n1, n2, n3, n4, Value.cells]
             refine s_go (s_move) ?_
             try simp only [opv, n1, n2, n3, n4, Value.cells]
             refine s_go (s_move) ?_
             try simp only [opv, n1, n2, n3, n4, Value.cells]
             refine m_buildRow (cells := #[_, _, _]) Try.underlying22 ti24 (hc := by simp only [List.map_toArray, List.map_cons, List.map_nil, opv, n1, n2, n3, n4, Value.cells, List.toList_toArray]; (repeat (refine fill_cons rfl rfl (Nat.le_of_ble_eq_true rfl) ?_)); rfl) (hS := hS) (h := fun w18 g18 hS => ?_)
             try simp only [opv, n1, n2, n3, n4, Value.cells, Array.toArray_toList] at hS ⊢
             replace hS := hS.obj_rd (sz := 1) (n := 3) rfl .head
             refine s_call en26 ?_
             try simp only [opv, n1, n2, n3, n4, Value.cells, List.map_toArray, List.map_cons, List.map_nil, List.append_toArray, List.cons_append, List.nil_append, Array.append_empty]
             refine CallR.mono (c_latAll _ _ 3 [⟨A, c, l⟩, ⟨B, d, r⟩, ⟨C, e, q⟩] (hS.hasRd (by repeat (first | exact Has.head | apply Has.tail))) (rw_three (hS.hasRd (by repeat (first | exact Has.head | apply Has.tail))) hv (hS.hasRd (by repeat (first | exact Has.head | apply Has.tail))) hv2 (hS.hasRd (by repeat (first | exact Has.head | apply Has.tail))) hv3) (Nat.le_of_ble_eq_true rfl) (Nat.le_trans h3f (Nat.le_of_ble_eq_true rfl))) ?_
             rintro _ w19 ⟨Ay, cy, rfl, hC19⟩
             replace hS := hS.call hC19
             simp only [List.cons_append, List.nil_append] at hS
             try simp only [opv, n1, n2, n3, n4, Value.cells]
             refine s_call en25 ?_
             try simp only [opv, n1, n2, n3, n4, Value.cells, List.map_toArray, List.map_cons, List.map_nil, List.append_toArray, List.cons_append, List.nil_append, Array.append_empty]
             refine CallR.mono (c_ref10Rows _ _ _ _ (hS.vecRd (by repeat (first | exact Has.head | apply Has.tail))) (norm_sta hba).ok _ _ _ (hS.vecRd (by repeat (first | exact Has.head | apply Has.tail))) (norm_sta (flat_aok hok3)).ok (by omega)) ?_
             rintro _ w20 ⟨rfl, hE20⟩
             replace hS := hS.ext hE20
             try simp only [opv, n1, n2, n3, n4, Value.cells]
             rw [decide_eq_true hnj]
             refine s_go (s_move) ?_
             try simp only [opv, n1, n2, n3, n4, Value.cells]
             refine g_on (yi (t := 100) rfl rfl) ?_
             refine s_call en47 ?_
             try simp only [opv, n1, n2, n3, n4, Value.cells, List.map_toArray, List.map_cons, List.map_nil, List.append_toArray, List.cons_append, List.nil_append, Array.append_empty]
             refine CallR.mono (c_law11alive _) ?_
             rintro _ w21 ⟨rfl, hE21⟩
             replace hS := hS.ext hE21
             try simp only [opv, n1, n2, n3, n4, Value.cells]
             first | refine s_go (s_pick_t) ?_ | refine s_go (s_pick_f) ?_
             try simp only [opv, n1, n2, n3, n4, Value.cells]
             refine s_go (s_assign) ?_
             try simp only [opv, n1, n2, n3, n4, Value.cells]
             refine x_nil ?_
             refine hK20 _ _ ?_
             refine x_ret ?_
             refine r_tmp rfl ?_
             exact ⟨rfl, hS.ext_of⟩
end Go.Proofs.Ytmgacmkikefpjaa
set_option linter.unusedSimpArgs false
set_option linter.unusedVariables false
set_option maxHeartbeats 800000
set_option maxRecDepth 100000
namespace Go.Proofs.Ytmgacmkikefpjaa
open Go.ChangeShapes Go.WideShapes Go.ChangeAt Go.RowKit

theorem rows_aok {l : List (List Int)} (h : ∀ x ∈ l, x.length = atomKs.length ∧ ∀ i k, atomKs[i]? = some k → (Lit.int k (x.getD i 0)).wf = true) : AOks l := fun x hx => by
  obtain ⟨h1, h2⟩ := h x hx
  have W : World := { heap := #[], tape := fun _ _ => 0, drawn := 0, os := default, output := #[] }
  obtain ⟨a, e, ha⟩ := atom_open (w := W) (allOk_of h1 h2)
  rw [zi_inj h1 (by simpa using ha.len) e]; exact ha
theorem open_rows {w : World} {n : Nat} {xs : List Value} {A : Option Addr} (hr : Rd w A 21 n xs) (h : ∀ i, i < n → AllOk w (atomKs.map LK.int) ((xs.drop (i * 21)).take 21)) : ∃ l : List (List Int), l.length = n ∧ xs = arows l ∧ AOks l := by
  obtain ⟨l, hl, e, hok⟩ := rowsZ_open (w := w) (ks := atomKs) (n := n) (xs := xs) hr.1 h
  exact ⟨l, hl, e, rows_aok hok⟩
end Go.Proofs.Ytmgacmkikefpjaa
namespace Go.Proofs.Ytmgacmkikefpjaa
open Go.ChangeShapes Go.WideShapes Go.ChangeAt Go.RowKit
theorem own0 : ownKnob Try.prog.godebug = none := by kernel_rfl
theorem laidOut0 : laidOutB Try.prog = true := by kernel_rfl
theorem fl5 : Flat Try.prog 5 [LK.int .u8] := flat_int Try.underlying5
theorem fl29 : Flat Try.prog 29 [LK.int .u16] := flat_int Try.underlying29
theorem fl31 : Flat Try.prog 31 (List.replicate 8 [LK.int .u8]).flatten := flat_arr Try.underlying31 fl5 rfl (by kernel_rfl) (by kernel_rfl)
theorem fl32 : Flat Try.prog 32 [LK.int .u32] := flat_int Try.underlying32
theorem fl34 : Flat Try.prog 34 ([LK.int .u8] ++ ([LK.int .u16] ++ ((List.replicate 8 [LK.int .u8]).flatten ++ ([LK.int .u8] ++ ([LK.int .u32] ++ ([])))))) := flat_struct Try.underlying34 (.cons rfl fl5 rfl (by kernel_rfl) (.cons rfl fl29 rfl (by kernel_rfl) (.cons rfl fl31 rfl (by kernel_rfl) (.cons rfl fl5 rfl (by kernel_rfl) (.cons rfl fl32 rfl (by kernel_rfl) (.nil)))))) (by kernel_rfl)
theorem fl35 : Flat Try.prog 35 [LK.int .u64] := flat_int Try.underlying35
theorem fl37 : Flat Try.prog 37 ([LK.int .u64] ++ ((List.replicate 8 [LK.int .u8]).flatten ++ ([]))) := flat_struct Try.underlying37 (.cons rfl fl35 rfl (by kernel_rfl) (.cons rfl fl31 rfl (by kernel_rfl) (.nil))) (by kernel_rfl)
theorem fl39 : Flat Try.prog 39 (([LK.int .u8] ++ ([LK.int .u16] ++ ((List.replicate 8 [LK.int .u8]).flatten ++ ([LK.int .u8] ++ ([LK.int .u32] ++ ([])))))) ++ (([LK.int .u64] ++ ((List.replicate 8 [LK.int .u8]).flatten ++ ([]))) ++ ([]))) := flat_struct Try.underlying39 (.cons rfl fl34 rfl (by kernel_rfl) (.cons rfl fl37 rfl (by kernel_rfl) (.nil))) (by kernel_rfl)
end Go.Proofs.Ytmgacmkikefpjaa
namespace Go.Proofs.Ytmgacmkikefpjaa
theorem ws_cons {c : Char} (h : c ≠ Char.ofNat 32) (x : List Char) : wordsSigns (c :: x) = (match wordsSigns x with | w :: ws => (c :: w) :: ws | [] => [[c]]) := by
  conv => lhs; unfold wordsSigns
  split
  · simp_all
  · next h1 => exact absurd (by simpa using (List.cons.inj h1).1) h
  · next h1 => obtain ⟨rfl, rfl⟩ := List.cons.inj h1; rfl
theorem ws_app (b : List Char) : ∀ (a : List Char), (∀ c ∈ a, c ≠ Char.ofNat 32) → wordsSigns (a ++ Char.ofNat 32 :: b) = a :: wordsSigns b
  | [], _ => rfl
  | c :: r, h => by
    rw [List.cons_append, ws_cons (h c (by simp)), ws_app b r (fun x hx => h x (by simp [hx]))]
/-- the head's words: harness, a sum, cut -/
theorem head_words {P : Program} {s b : List Char} (he : P.initOrder = String.ofList ("harness".toList ++ Char.ofNat 32 :: (s ++ Char.ofNat 32 :: ("cut".toList ++ Char.ofNat 32 :: b)))) (hs : isSumSigns s = true) (hb : ∀ c ∈ s, c ≠ Char.ofNat 32) :
    ∃ R, behindMainWord (wordsSigns P.initOrder.toList) = "cut".toList :: R := by
  refine ⟨wordsSigns b, ?_⟩
  rw [he, String.toList_ofList, ws_app _ _ (by decide), ws_app _ _ hb, ws_app _ _ (by decide)]
  simp only [behindMainWord, hs, beq_self_eq_true, Bool.true_or, Bool.and_self, if_true]
theorem e_gc : ("cut".toList == "gc".toList) = false := by decide
theorem e_spec : ("cut".toList == "spec".toList) = false := by decide
theorem e_car : ("cut".toList == "carried".toList) = false := by decide
theorem e_sl (R : List (List Char)) : stripLifts liftWords ("cut".toList :: R) = ([], "cut".toList :: R) := by
  have h : ∀ (l : List String), (∀ o ∈ l, ("cut".toList == o.toList) = false) → stripLifts l ("cut".toList :: R) = ([], "cut".toList :: R) := by
    intro l
    induction l with
    | nil => intro _; rfl
    | cons o os ih => intro hl; rw [stripLifts, hl o (by simp)]; simp only [Bool.false_eq_true, if_false]; exact ih fun x hx => hl x (by simp [hx])
  exact h liftWords (by decide)
section
variable {P : Program} (h : ∃ R, behindMainWord (wordsSigns P.initOrder.toList) = "cut".toList :: R)
include h
theorem make_of : P.make = some .cut := by
  obtain ⟨R, h⟩ := h
  unfold Program.make
  rw [h]
  simp only [e_gc, e_spec, beq_self_eq_true, Bool.or_self, Bool.true_or, Bool.false_eq_true, if_false, if_true]
theorem lifts_of : P.liftsFinal = false := by
  obtain ⟨R, h⟩ := h
  unfold Program.liftsFinal Program.headLifts
  rw [h, e_sl]
  show (_ || _) = false
  rfl
theorem enter_of (hl : P.laysLater = false) (hr : P.bearsReflect = false) (hd : P.doorFits [] = true) : P.mayEnter = true := by
  obtain ⟨R, h⟩ := h
  unfold Program.mayEnter
  rw [h]
  dsimp only
  rw [e_sl, hl, hr]
  simp only [hd, e_gc, e_spec, e_car, beq_self_eq_true, Bool.or_self, Bool.false_and, Bool.not_false, Bool.or_true, Bool.and_true, List.head?_cons, List.contains_nil]
end
theorem closed_of {P : Program} {f : FuncId} {fn : Func} {s : ChangeSpec} {c : OpenClaim} (hm : P.make = some .cut) (hl : P.liftsFinal = false) (he : P.mayEnter = true) (h2 : laidOutB P = true) (h3 : mapsRowed P = true) (hst : (P.stops == []) = true) (hk : (P.stopKnobs == []) = true)
    (hp : P.plainKeys = c.plainKeys) (hh : P.stopsHeard = true) (i1 : P.inPlace f = c.inPlace) (i2 : P.unfollowed f = c.unfollowed) (i3 : P.recurses f = c.recurses) (i4 : P.varsNamed f = c.named)
    (rest : (c.wf (OpenSpec.ofChange s) && fn.params.all (P.readableRec ·) && namedTie P c.named s.vars && (c.stops == []) && (c.knobs == []) &&
      (c.maps == (fn.params.toList ++ s.plain.varTypes P).any (P.mapsRec ·)) && (c.ifaces == (fn.params.toList ++ s.plain.varTypes P).any (P.ifacesRec ·)) && (c.mapsOut == P.mapsAmong fn.resultTypes.toList) &&
      (c.loops == (fn.params.toList ++ s.plain.varTypes P).any (P.loopsFrom ·)) && (c.wideKeys == (fn.params.toList ++ s.plain.varTypes P ++ fn.resultTypes.toList).any (P.wideKeysFrom ·)) &&
      s.vars.all (P.varReadable ·) && fn.resultTypes.all (fun t => P.readableRec t && decide (t < P.types.size)) && (c.ifacesOut == fn.resultTypes.toList.any (P.ifacesRec ·)) && (c.loopsOut == fn.resultTypes.toList.any (P.loopsFrom ·)) && c.shortTexts.isNone && (c.lifted == false) && (some Make.cut == some c.make) &&
      (c.kinds == (if c.domain.isEmpty then [] else fn.params.toList.map fun t => match P.underlying t with | some (.int k) => some k | _ => none)) && (c.pinned == c.pinnedBy) &&
      (c.veiled == (fn.params.toList ++ s.plain.varTypes P ++ fn.resultTypes.toList).any (P.veiledRec ·)) && c.veiledFits P fn.params.toList (fn.params.toList ++ s.plain.varTypes P ++ fn.resultTypes.toList)) = true) : joinedFacts P f fn s c = true := by
  simp only [Bool.and_eq_true] at rest
  unfold joinedFacts
  rw [hm, hl, he, h2, h3, hst, hk, hp, hh, i1, i2, i3, i4]
  simp only [beq_self_eq_true, Bool.and_eq_true, Bool.and_true]
  have hkd := rest.1.1.1.2
  simp only [rest, and_self]
  exact ⟨⟨⟨⟨trivial, hkd⟩, trivial⟩, trivial⟩, trivial⟩
end Go.Proofs.Ytmgacmkikefpjaa
namespace Go.Proofs.Ytmgacmkikefpjaa
def ioS : List Nat := [51, 53, 49, 99, 97, 57, 100, 56, 49, 57, 50, 99, 53, 49, 49, 48, 97, 97, 102, 51, 53, 50, 53, 100, 54, 101, 48, 99, 51, 50, 102, 56, 97, 51, 51, 55, 57, 54, 57, 98, 56, 51, 99, 51, 102, 50, 101, 53, 55, 48, 101, 98, 50, 49, 97, 101, 101, 50, 48, 54, 55, 56, 101, 101]
def ioB : List Nat := [97, 116, 32, 104, 97, 110, 100, 99, 97, 114, 116, 47, 104, 97, 110, 100, 99, 97, 114, 116, 108, 97, 119, 49, 48, 46, 76, 97, 116, 65, 108, 108, 32, 104, 97, 110, 100, 99, 97, 114, 116, 47, 104, 97, 110, 100, 99, 97, 114, 116, 108, 97, 119, 49, 48, 46, 76, 97, 116, 78, 111, 114, 109, 115, 32, 104, 97, 110, 100, 99, 97, 114, 116, 47, 104, 97, 110, 100, 99, 97, 114, 116, 108, 97, 119, 49, 48, 46, 76, 97, 116, 74, 111, 105, 110, 115, 32, 104, 97, 110, 100, 99, 97, 114, 116, 47, 104, 97, 110, 100, 99, 97, 114, 116, 108, 97, 119, 49, 48, 46, 76, 97, 116, 76, 101, 97, 115, 116, 32, 104, 97, 110, 100, 99, 97, 114, 116, 47, 104, 97, 110, 100, 99, 97, 114, 116, 108, 97, 119, 49, 54, 46, 78, 111, 116, 101, 76, 97, 115, 116, 32, 104, 97, 110, 100, 99, 97, 114, 116, 47, 104, 97, 110, 100, 99, 97, 114, 116, 108, 97, 119, 49, 54, 46, 78, 111, 116, 101, 80, 117, 116, 115, 32, 104, 97, 110, 100, 99, 97, 114, 116, 47, 104, 97, 110, 100, 99, 97, 114, 116, 108, 97, 119, 49, 49, 46, 68, 101, 108, 116, 97, 76, 101, 97, 115, 116, 32, 104, 97, 110, 100, 99, 97, 114, 116, 47, 104, 97, 110, 100, 99, 97, 114, 116, 108, 97, 119, 49, 49, 46, 68, 101, 108, 116, 97, 78, 101, 101, 100, 108, 101, 115, 115, 32, 104, 97, 110, 100, 99, 97, 114, 116, 47, 104, 97, 110, 100, 99, 97, 114, 116, 108, 97, 119, 49, 49, 46, 68, 101, 108, 116, 97, 80, 97, 114, 116, 115, 32, 104, 97, 110, 100, 99, 97, 114, 116, 47, 104, 97, 110, 100, 99, 97, 114, 116, 108, 97, 119, 49, 49, 46, 68, 101, 108, 116, 97, 83, 116, 97, 110, 100, 115, 32, 104, 97, 110, 100, 99, 97, 114, 116, 47, 104, 97, 110, 100, 99, 97, 114, 116, 108, 97, 119, 49, 52, 46, 84, 97, 103, 115, 65, 100, 100, 115, 32, 104, 97, 110, 100, 99, 97, 114, 116, 47, 104, 97, 110, 100, 99, 97, 114, 116, 108, 97, 119, 49, 52, 46, 84, 97, 103, 115, 87, 105, 110, 32, 104, 97, 110, 100, 99, 97, 114, 116, 47, 104, 97, 110, 100, 99, 97, 114, 116, 108, 97, 119, 49, 53, 46, 67, 111, 117, 110, 116, 84, 117, 114, 110, 115, 32, 104, 97, 110, 100, 99, 97, 114, 116, 47, 104, 97, 110, 100, 99, 97, 114, 116, 108, 97, 119, 49, 53, 46, 67, 111, 117, 110, 116, 65, 100, 100, 115, 32, 104, 97, 110, 100, 99, 97, 114, 116, 47, 104, 97, 110, 100, 99, 97, 114, 116, 108, 97, 119, 50, 49, 46, 67, 104, 117, 110, 107, 70, 101, 119, 101, 115, 116, 32, 104, 97, 110, 100, 99, 97, 114, 116, 47, 104, 97, 110, 100, 99, 97, 114, 116, 108, 97, 119, 49, 51, 46, 68, 111, 116, 115, 65, 100, 100, 115, 32, 104, 97, 110, 100, 99, 97, 114, 116, 47, 104, 97, 110, 100, 99, 97, 114, 116, 108, 97, 119, 49, 51, 46, 68, 111, 116, 115, 65, 108, 111, 110, 101, 32, 104, 97, 110, 100, 99, 97, 114, 116, 47, 104, 97, 110, 100, 99, 97, 114, 116, 108, 97, 119, 49, 51, 46, 68, 111, 116, 115, 74, 111, 105, 110, 115]
theorem io_eq : Try.prog.initOrder = String.ofList ("harness".toList ++ Char.ofNat 32 :: (ioS.map Char.ofNat ++ Char.ofNat 32 :: ("cut".toList ++ Char.ofNat 32 :: ioB.map Char.ofNat))) := by kernel_rfl
theorem io_sum : isSumSigns (ioS.map Char.ofNat) = true := by kernel_rfl
theorem io_hd : ∃ R, behindMainWord (wordsSigns Try.prog.initOrder.toList) = "cut".toList :: R := head_words io_eq io_sum (by decide)
theorem p_make : Try.prog.make = some .cut := make_of io_hd
theorem p_lifts : Try.prog.liftsFinal = false := lifts_of io_hd
theorem p_ll : Try.prog.laysLater = false := by kernel_rfl
theorem p_br : Try.prog.bearsReflect = false := by kernel_rfl
theorem p_df : Try.prog.doorFits [] = true := by kernel_rfl
theorem p_enter : Try.prog.mayEnter = true := enter_of io_hd p_ll p_br p_df
theorem p_rowed : mapsRowed Try.prog = true := by kernel_rfl
theorem p_stops : (Try.prog.stops == []) = true := by kernel_rfl
theorem p_knobs : (Try.prog.stopKnobs == []) = true := by kernel_rfl
theorem p_keys : Try.prog.plainKeys = false := by kernel_rfl
theorem p_heard : Try.prog.stopsHeard = true := by kernel_rfl
end Go.Proofs.Ytmgacmkikefpjaa
