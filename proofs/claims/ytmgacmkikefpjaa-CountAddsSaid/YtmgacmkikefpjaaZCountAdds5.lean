/- Rules, plain words and walks that the claim leans on: Oa, Ob, Oc, Nt, Ot, Oe, Lzopen, Lzopen3, Tb, Vj, Tc. -/
import Derived.Test.YtmgacmkikefpjaaZCountAdds4
set_option linter.unusedSimpArgs false
set_option linter.unusedVariables false
set_option linter.unusedSimpArgs false
set_option linter.unusedVariables false
set_option maxHeartbeats 1000000
set_option maxRecDepth 100000
namespace Go.Proofs.Ytmgacmkikefpjaa
open Go.RowKit

def halfB (x : List Int) : Bool := decide (kn x 0 = 2 ∨ kn x 0 = 3)
def halfN (l : List (List Int)) (x : List Int) : Nat := if halfB x = true then kn ((fnd x (normP l)).getD v9) 0 else 0
def turnK (s r c : Nat) (it : List Int) : List Int := mkKey s c it r 0
def turnA (l : List (List Int)) (s r c : Nat) (it : List Int) (n : Int) : List Int := turnK s r c it ++ mkV (halfN l (turnK s r c it) + n.toNat) nm0
def turnE (l : List (List Int)) (s r c : Nat) (it : List Int) (n : Int) : Int := if 16 ≤ r ∨ n < 0 ∨ nright it = false then 1 else if 4294967295 < (halfN l (turnK s r c it) : Int) + n then 8 else 0
def turnP (l : List (List Int)) (s r c : Nat) (it : List Int) (n : Int) : List (List Int) := if turnE l s r c it n = 0 ∧ ¬ n = 0 then [turnA l s r c it n] else []
theorem turnK_ok {s r c : Nat} {it : List Int} (hs : s = 2 ∨ s = 3) (hr : r < 256) (hc : c < 65536) (h8 : it.length = 8) (hb : Byt it) : KeyOk (turnK s r c it) := mkKey_ok h8 hb (by omega) hc hr (by decide)
theorem turnK_half {s r c : Nat} {it : List Int} (hs : s = 2 ∨ s = 3) : halfB (turnK s r c it) = true := decide_eq_true (by show s = 2 ∨ s = 3; exact hs)
theorem half_le {l : List (List Int)} (h : AOks l) {x : List Int} (hx : KeyOk x) : halfN l x ≤ 4294967295 := by
  unfold halfN
  split
  · next hh =>
    cases hf : fnd x (normP l) with
    | none => show kn v9 0 ≤ _; decide
    | some v =>
      show kn v 0 ≤ _
      obtain ⟨a, ha, hk, rfl⟩ := fnd_mem hf
      have hr := (norm_sta h).right a ha
      have hao := (norm_sta h).ok a ha
      have h2 := of_decide_eq_true hh
      rw [← hk] at h2
      rw [atomR, Bool.and_eq_true] at hr
      have hv := hr.2
      have e := (akey_k hao.len).1
      unfold valR at hv
      rw [if_neg (by omega), if_pos (by omega), Bool.and_eq_true, decide_eq_true_eq] at hv
      exact hv.2.2
  · decide
theorem turnA_ok {l : List (List Int)} {s r c : Nat} {it : List Int} {n : Int} (hv : AOks l) (hs : s = 2 ∨ s = 3) (hr : r < 256) (hc : c < 65536) (h8 : it.length = 8) (hb : Byt it) (hn : n ≤ 9223372036854775807) : AtomOk (turnA l s r c it n) := by
  have hk := turnK_ok hs hr hc h8 hb
  have hl := half_le hv hk
  refine kv_ok hk ⟨rfl, ?_, ?_, nm0_byt⟩
  · show ((halfN l (turnK s r c it) + n.toNat : Nat) : Int) = ((((halfN l (turnK s r c it) + n.toNat : Nat) : Int).toNat : Nat) : Int); omega
  · show (((halfN l (turnK s r c it) + n.toNat : Nat) : Int).toNat) < _; omega
theorem turnP_ok {l : List (List Int)} {s r c : Nat} {it : List Int} {n : Int} (hv : AOks l) (hs : s = 2 ∨ s = 3) (hr : r < 256) (hc : c < 65536) (h8 : it.length = 8) (hb : Byt it) (hn : n ≤ 9223372036854775807) : AOks (turnP l s r c it n) := by
  unfold turnP; split
  · intro a ha; rw [List.mem_singleton] at ha; rw [ha]; exact turnA_ok hv hs hr hc h8 hb hn
  · exact AOks.nil
theorem turnP_len (l : List (List Int)) (s r c : Nat) (it : List Int) (n : Int) : (turnP l s r c it n).length ≤ 1 := by unfold turnP; split <;> simp
theorem turnE_1 {l : List (List Int)} {s r c : Nat} {it : List Int} {n : Int} (h : 16 ≤ r ∨ n < 0 ∨ nright it = false) : turnE l s r c it n = 1 := by rw [turnE, if_pos h]
theorem turnE_8 {l : List (List Int)} {s r c : Nat} {it : List Int} {n : Int} (h : ¬ (16 ≤ r ∨ n < 0 ∨ nright it = false)) (h2 : 4294967295 < (halfN l (turnK s r c it) : Int) + n) : turnE l s r c it n = 8 := by rw [turnE, if_neg h, if_pos h2]
theorem turnE_0 {l : List (List Int)} {s r c : Nat} {it : List Int} {n : Int} (h : ¬ (16 ≤ r ∨ n < 0 ∨ nright it = false)) (h2 : ¬ 4294967295 < (halfN l (turnK s r c it) : Int) + n) : turnE l s r c it n = 0 := by rw [turnE, if_neg h, if_neg h2]
theorem turnP_no {l : List (List Int)} {s r c : Nat} {it : List Int} {n : Int} (h : ¬ turnE l s r c it n = 0 ∨ n = 0) : turnP l s r c it n = [] := if_neg (fun h2 => h.elim (fun h3 => h3 h2.1) h2.2)
theorem turnP_yes {l : List (List Int)} {s r c : Nat} {it : List Int} {n : Int} (h : turnE l s r c it n = 0) (h2 : ¬ n = 0) : turnP l s r c it n = [turnA l s r c it n] := if_pos ⟨h, h2⟩
theorem fill_key {pl : Nat → Option (Nat × Nat)} {it : List Int} {s c r : Int} (h0 : pl 0 = some (0, 1)) (h1 : pl 1 = some (1, 1)) (h2 : pl 2 = some (2, 8)) (h3 : pl 3 = some (10, 1)) (hl : it.length = 8) :
    Instr.fill pl #[.int .u8 0, .int .u16 0, .int .u8 0, .int .u8 0, .int .u8 0, .int .u8 0, .int .u8 0, .int .u8 0, .int .u8 0, .int .u8 0, .int .u8 0, .int .u32 0] [(0, .int .u8 s), (1, .int .u16 c), (2, .agg (ic .u8 it)), (3, .int .u8 r)] = some (KA ([s, c] ++ it ++ [r, 0])) := by
  match it, hl with
  | [_, _, _, _, _, _, _, _], _ =>
    refine fill_cons h0 rfl (Nat.le_of_ble_eq_true rfl) ?_
    refine fill_cons h1 rfl (Nat.le_of_ble_eq_true rfl) ?_
    refine fill_cons h2 rfl (Nat.le_of_ble_eq_true rfl) ?_
    refine fill_cons h3 rfl (Nat.le_of_ble_eq_true rfl) ?_
    rfl
theorem fill_atomk {pl : Nat → Option (Nat × Nat)} {k : List Int} (h1 : pl 0 = some (0, 12)) (hk : k.length = 12) :
    Instr.fill pl #[.int .u8 0, .int .u16 0, .int .u8 0, .int .u8 0, .int .u8 0, .int .u8 0, .int .u8 0, .int .u8 0, .int .u8 0, .int .u8 0, .int .u8 0, .int .u32 0, .int .u64 0, .int .u8 0, .int .u8 0, .int .u8 0, .int .u8 0, .int .u8 0, .int .u8 0, .int .u8 0, .int .u8 0] [(0, .agg (KA k))] = some (AA (k ++ v9)) := by
  match k, hk with
  | [_, _, _, _, _, _, _, _, _, _, _, _], _ => exact fill_cons h1 rfl (Nat.le_of_ble_eq_true rfl) rfl
theorem set12 {k t : List Int} {x y : Int} (hk : k.length = 12) : (k ++ (x :: t)).set 12 y = k ++ (y :: t) := by
  match k, hk with
  | [_, _, _, _, _, _, _, _, _, _, _, _], _ => rfl
theorem get12 {k t : List Int} {x : Int} (hk : k.length = 12) : (k ++ (x :: t)).getD 12 0 = x := by
  match k, hk with
  | [_, _, _, _, _, _, _, _, _, _, _, _], _ => rfl
theorem v9_cut : v9 = (0 : Int) :: nm0 := rfl

theorem c_countHalfB (x : List Int) (hk : KeyOk x)  (w0 : World) :
    CallR Try.prog 150 #[.agg (KA x)] w0 fun v w' => v = .bool (halfB x) ∧ Ext w0 w' := by
 have hS : St NoB w0 w0 [] := St.start w0
 refine c_enter (l := [.agg (KA x), undef, undef, undef, undef, undef, undef, undef, undef]) Try.func150 rfl (by simp only [Try.ntmps150, List.size_toArray, List.length_cons, List.length_nil, Nat.reduceAdd, Nat.reduceSub, Array.replicate_succ, Array.replicate_zero, List.push_toArray, List.append_toArray, List.nil_append, List.cons_append]) ?_
 refine x_seq fun K1 hK1 => ?_
 refine x_region ?_
 have hkl := hk.len
 refine m_box hS (fun w1 g1 hS => ?_)
 try simp only [opv, n1, n2, n3, n4, Value.cells, Array.toArray_toList] at hS ⊢
 refine s_go (s_assign) ?_
 try simp only [opv, n1, n2, n3, n4, Value.cells]
 refine x_nil ?_
 refine hK1 _ _ ?_
 refine x_seq fun K2 hK2 => ?_
 refine x_seq fun K3 hK3 => ?_
 refine x_region ?_
 first | refine s_go (m_fieldAddr Try.underlying34 (hi := ti5)) ?_ | refine s_go (m_fieldAddr_rd Try.underlying34 (hi := ti5) (hS := hS)) ?_ | refine s_go (m_fieldAddr_vec Try.underlying34 (hi := ti5) (hS := hS)) ?_
 try simp only [opv, n1, n2, n3, n4, Value.cells, Nat.zero_add, Nat.add_zero, List.getElem_toArray, List.getElem_cons_zero, List.getElem_cons_succ]
 first | refine s_go (m_load_obj Try.underlying5 (hS := hS) (hv := by first | rfl | exact zi_get rfl (by omega) | exact ic_get (by omega) | exact il_get (by omega))) ?_ | refine s_go (m_load_bx Try.underlying5 (hS := hS) (hv := by first | rfl | exact zi_get rfl (by omega) | exact ic_get (by omega) | exact il_get (by omega))) ?_ | refine s_go (m_load_rd Try.underlying5 (hS := hS) (hv := by first | rfl | exact zi_get rfl (by omega) | exact ic_get (by omega) | exact il_get (by omega))) ?_ | refine s_go (m_load_vec Try.underlying5 (hS := hS) (hv := by first | rfl | exact zi_get rfl (by omega) | exact ic_get (by omega) | exact il_get (by omega))) ?_
 try simp only [opv, n1, n2, n3, n4, Value.cells, List.getElem_toArray, List.getElem_cons_zero, List.getElem_cons_succ]
 rw [hk.e0]
 refine x_nil ?_
 refine hK3 _ _ ?_
 refine x_block ?_
 refine x_seq fun K4 hK4 => ?_
 refine x_block ?_
 refine x_block ?_
 refine x_seq fun K5 hK5 => ?_
 refine x_seq fun K6 hK6 => ?_
 refine x_seq fun K7 hK7 => ?_
 refine x_region ?_
 refine s_go (s_eql) ?_
 try simp only [opv, n1, n2, n3, n4, Value.cells]
 refine s_go (s_assign) ?_
 try simp only [opv, n1, n2, n3, n4, Value.cells]
 refine x_nil ?_
 refine hK7 _ _ ?_
 refine x_cond (ht := fun hc1 => ?_) (hf := fun hc1 => ?_)
 ·
  try simp only [decide_eq_true_eq, decide_eq_false_iff_not, Bool.not_eq_true', Bool.not_eq_false', Int.not_lt, Int.not_le, ne_eq, Decidable.not_not, bne_iff_ne, beq_iff_eq, not_true_eq_false, not_false_eq_true] at hc1
  have hH : halfB x = true := decide_eq_true (by omega)
  refine x_exit (look_here ?_)
  refine hK4 _ _ ?_
  refine x_seq fun K8 hK8 => ?_
  refine x_seq fun K9 hK9 => ?_
  refine x_region ?_
  refine s_go (s_assign) ?_
  try simp only [opv, n1, n2, n3, n4, Value.cells]
  refine x_nil ?_
  refine hK9 _ _ ?_
  refine x_ret ?_
  refine r_tmp rfl ?_
  exact ⟨by rw [hH]; rfl, hS.ext_of⟩
 ·
  try simp only [decide_eq_true_eq, decide_eq_false_iff_not, Bool.not_eq_true', Bool.not_eq_false', Int.not_lt, Int.not_le, ne_eq, Decidable.not_not, bne_iff_ne, beq_iff_eq, not_true_eq_false, not_false_eq_true] at hc1
  refine x_skip ?_
  refine hK6 _ _ ?_
  refine x_seq fun K10 hK10 => ?_
  refine x_region ?_
  refine s_go (s_eql) ?_
  try simp only [opv, n1, n2, n3, n4, Value.cells]
  refine s_go (s_assign) ?_
  try simp only [opv, n1, n2, n3, n4, Value.cells]
  refine x_nil ?_
  refine hK10 _ _ ?_
  refine x_cond (ht := fun hc2 => ?_) (hf := fun hc2 => ?_)
  ·
   try simp only [decide_eq_true_eq, decide_eq_false_iff_not, Bool.not_eq_true', Bool.not_eq_false', Int.not_lt, Int.not_le, ne_eq, Decidable.not_not, bne_iff_ne, beq_iff_eq, not_true_eq_false, not_false_eq_true] at hc2
   have hH : halfB x = true := decide_eq_true (by omega)
   refine x_exit (look_on (by decide) (look_here ?_))
   refine hK4 _ _ ?_
   refine x_seq fun K11 hK11 => ?_
   refine x_seq fun K12 hK12 => ?_
   refine x_region ?_
   refine s_go (s_assign) ?_
   try simp only [opv, n1, n2, n3, n4, Value.cells]
   refine x_nil ?_
   refine hK12 _ _ ?_
   refine x_ret ?_
   refine r_tmp rfl ?_
   exact ⟨by rw [hH]; rfl, hS.ext_of⟩
  ·
   try simp only [decide_eq_true_eq, decide_eq_false_iff_not, Bool.not_eq_true', Bool.not_eq_false', Int.not_lt, Int.not_le, ne_eq, Decidable.not_not, bne_iff_ne, beq_iff_eq, not_true_eq_false, not_false_eq_true] at hc2
   have hH : halfB x = false := decide_eq_false (by omega)
   refine x_skip ?_
   refine hK5 _ _ ?_
   refine x_exit (look_on (by decide) (look_on (by decide) (look_here ?_)))
   refine hK2 _ _ ?_
   refine x_seq fun K13 hK13 => ?_
   refine x_region ?_
   refine s_go (s_assign) ?_
   try simp only [opv, n1, n2, n3, n4, Value.cells]
   refine x_nil ?_
   refine hK13 _ _ ?_
   refine x_ret ?_
   refine r_tmp rfl ?_
   exact ⟨by rw [hH]; rfl, hS.ext_of⟩
theorem c_countHalf (w0 : World) (A : Option Addr) (c : Nat) (l : List (List Int)) (hr : Rd w0 A 21 l.length (arows l)) (hv : AOks l) (hn : l.length ≤ 1000000000) (x : List Int) (hx : KeyOk x)  :
    CallR Try.prog 184 #[.slice A l.length c, .agg (KA x)] w0 fun v w' => v = .int .u64 ((halfN l x : Nat) : Int) ∧ Ext w0 w' := by
 have hS := St.rd1 (S := NoB) hr
 have hxl := hx.len
 have hno := (norm_sta hv).ok
 have hvo : ValOk ((fnd x (normP l)).getD v9) := fndD_ok hno
 have hvl := hvo.len
 have h9l : v9.length = 9 := rfl
 refine c_enter (l := [.slice A l.length c, .agg (KA x), undef, undef, undef, undef, undef, undef, undef, undef, undef, undef, undef, undef, undef, undef, undef, undef]) Try.func184 rfl (by simp only [Try.ntmps184, List.size_toArray, List.length_cons, List.length_nil, Nat.reduceAdd, Nat.reduceSub, Array.replicate_succ, Array.replicate_zero, List.push_toArray, List.append_toArray, List.nil_append, List.cons_append]) ?_
 refine x_seq fun K1 hK1 => ?_
 refine x_region ?_
 refine m_box hS (fun w1 g1 hS => ?_)
 try simp only [opv, n1, n2, n3, n4, Value.cells, Array.toArray_toList] at hS ⊢
 refine s_go (s_assign) ?_
 try simp only [opv, n1, n2, n3, n4, Value.cells]
 refine x_nil ?_
 refine hK1 _ _ ?_
 refine x_seq fun K2 hK2 => ?_
 refine x_seq fun K3 hK3 => ?_
 refine x_region ?_
 first | refine s_go (m_load_row Try.underlying34 (hi := ti34) (hS := hS) (hfit := by first | omega | (rw [zi_size (by omega)]; first | rfl | decide) | (simp only [ic_size, List.length_map, List.size_toArray]; first | omega | decide) | rfl | (simp [*]; done) | (simp [*]; omega))) ?_ | refine s_go (m_loada_obj Try.underlying34 (hi := ti34) (hS := hS) (hfit := by first | omega | (rw [zi_size (by omega)]; first | rfl | decide) | (simp only [ic_size, List.length_map, List.size_toArray]; first | omega | decide) | rfl | (simp [*]; done) | (simp [*]; omega))) ?_ | refine s_go (m_loada_bx Try.underlying34 (hi := ti34) (hS := hS) (hfit := by first | omega | (rw [zi_size (by omega)]; first | rfl | decide) | (simp only [ic_size, List.length_map, List.size_toArray]; first | omega | decide) | rfl | (simp [*]; done) | (simp [*]; omega))) ?_ | refine s_go (m_loada_rd Try.underlying34 (hi := ti34) (hS := hS) (hfit := by first | omega | (rw [zi_size (by omega)]; first | rfl | decide) | (simp only [ic_size, List.length_map, List.size_toArray]; first | omega | decide) | rfl | (simp [*]; done) | (simp [*]; omega))) ?_ | refine s_go (m_loada_vec Try.underlying34 (hi := ti34) (hS := hS) (hfit := by first | omega | (rw [zi_size (by omega)]; first | rfl | decide) | (simp only [ic_size, List.length_map, List.size_toArray]; first | omega | decide) | rfl | (simp [*]; done) | (simp [*]; omega))) ?_
 try simp only [opv, n1, n2, n3, n4, Value.cells, List.getElem_toArray, List.getElem_cons_zero, List.getElem_cons_succ]
 refine s_call en150 ?_
 try simp only [opv, n1, n2, n3, n4, Value.cells, List.map_toArray, List.map_cons, List.map_nil, List.append_toArray, List.cons_append, List.nil_append, Array.append_empty]
 refine CallR.mono (c_countHalfB _ (by assumption) _) ?_
 rintro _ w2 ⟨rfl, hE2⟩
 replace hS := hS.ext hE2
 try simp only [opv, n1, n2, n3, n4, Value.cells]
 refine s_go (s_not) ?_
 try simp only [opv, n1, n2, n3, n4, Value.cells]
 refine x_nil ?_
 refine hK3 _ _ ?_
 refine x_cond (ht := fun hc1 => ?_) (hf := fun hc1 => ?_)
 ·
  try simp only [decide_eq_true_eq, decide_eq_false_iff_not, Bool.not_eq_true', Bool.not_eq_false', Int.not_lt, Int.not_le, ne_eq, Decidable.not_not, bne_iff_ne, beq_iff_eq, not_true_eq_false, not_false_eq_true] at hc1
  have hH : halfB x = false := by simpa using hc1
  refine x_seq fun K4 hK4 => ?_
  refine x_region ?_
  refine s_go (s_assign) ?_
  try simp only [opv, n1, n2, n3, n4, Value.cells]
  refine x_nil ?_
  refine hK4 _ _ ?_
  refine x_ret ?_
  refine r_tmp rfl ?_
  first | exact ⟨by rw [halfN, if_pos hH]; rfl, hS.ext_of⟩ | exact ⟨by rw [halfN, if_neg (by rw [hH]; decide)]; rfl, hS.ext_of⟩
 ·
  try simp only [decide_eq_true_eq, decide_eq_false_iff_not, Bool.not_eq_true', Bool.not_eq_false', Int.not_lt, Int.not_le, ne_eq, Decidable.not_not, bne_iff_ne, beq_iff_eq, not_true_eq_false, not_false_eq_true] at hc1
  have hH : halfB x = true := by simpa using hc1
  refine x_skip ?_
  refine hK2 _ _ ?_
  refine x_seq fun K5 hK5 => ?_
  refine x_region ?_
  refine s_go (s_move) ?_
  try simp only [opv, n1, n2, n3, n4, Value.cells]
  first | refine s_go (m_load_row Try.underlying34 (hi := ti34) (hS := hS) (hfit := by first | omega | (rw [zi_size (by omega)]; first | rfl | decide) | (simp only [ic_size, List.length_map, List.size_toArray]; first | omega | decide) | rfl | (simp [*]; done) | (simp [*]; omega))) ?_ | refine s_go (m_loada_obj Try.underlying34 (hi := ti34) (hS := hS) (hfit := by first | omega | (rw [zi_size (by omega)]; first | rfl | decide) | (simp only [ic_size, List.length_map, List.size_toArray]; first | omega | decide) | rfl | (simp [*]; done) | (simp [*]; omega))) ?_ | refine s_go (m_loada_bx Try.underlying34 (hi := ti34) (hS := hS) (hfit := by first | omega | (rw [zi_size (by omega)]; first | rfl | decide) | (simp only [ic_size, List.length_map, List.size_toArray]; first | omega | decide) | rfl | (simp [*]; done) | (simp [*]; omega))) ?_ | refine s_go (m_loada_rd Try.underlying34 (hi := ti34) (hS := hS) (hfit := by first | omega | (rw [zi_size (by omega)]; first | rfl | decide) | (simp only [ic_size, List.length_map, List.size_toArray]; first | omega | decide) | rfl | (simp [*]; done) | (simp [*]; omega))) ?_ | refine s_go (m_loada_vec Try.underlying34 (hi := ti34) (hS := hS) (hfit := by first | omega | (rw [zi_size (by omega)]; first | rfl | decide) | (simp only [ic_size, List.length_map, List.size_toArray]; first | omega | decide) | rfl | (simp [*]; done) | (simp [*]; omega))) ?_
  try simp only [opv, n1, n2, n3, n4, Value.cells, List.getElem_toArray, List.getElem_cons_zero, List.getElem_cons_succ]
  refine s_call en27 ?_
  try simp only [opv, n1, n2, n3, n4, Value.cells, List.map_toArray, List.map_cons, List.map_nil, List.append_toArray, List.cons_append, List.nil_append, Array.append_empty]
  refine CallR.mono (c_latFind _ A c l (hS.hasRd (by repeat (first | exact Has.head | apply Has.tail))) hv hn x hx) ?_
  rintro _ w3 ⟨rfl, hE3⟩
  replace hS := hS.ext hE3
  try simp only [opv, n1, n2, n3, n4, Value.cells]
  refine s_go (s_move) ?_
  try simp only [opv, n1, n2, n3, n4, Value.cells]
  refine s_go (s_extract (hv := rfl)) ?_
  try simp only [List.getElem_toArray, List.getElem_cons_zero, List.getElem_cons_succ]
  try simp only [opv, n1, n2, n3, n4, Value.cells]
  refine s_go (s_extract (hv := rfl)) ?_
  try simp only [List.getElem_toArray, List.getElem_cons_zero, List.getElem_cons_succ]
  try simp only [opv, n1, n2, n3, n4, Value.cells]
  refine m_alloc ti37 hS (fun w4 g4 hS => ?_)
  try simp only [opv, n1, n2, n3, n4, Value.cells, Array.toArray_toList] at hS ⊢
  replace hS : St _ _ w4 (.obj g4 (.cells (VA v9) 37 (0, 0)) :: _) := hS
  first | refine m_store_obj ti37 (hS := hS) (hc := by first | exact zi_set rfl (by omega) | exact zi_whole (by omega) (by omega) | (first | exact splice_ic (by first | omega | (simp [*]; done) | (simp [*]; omega)) | exact splice_il (by first | omega | (simp [*]; done) | (simp [*]; omega)) | exact splice_whole (by first | (simp [opv, Value.cells, *]; done) | rfl) | (simp only [opv, n1, n2, Value.cells, splice, List.take_succ_cons, List.take_zero, List.drop_succ_cons, List.drop_zero, List.length_cons, List.length_nil, Nat.zero_add, Nat.reduceAdd, List.append_assoc, List.cons_append, List.nil_append]; rfl))) (hv := by first | rfl | (show (zi _ _).toArray.size = _; rw [zi_size (by omega)]; rfl) | (simp [opv, Value.cells, *]; done)) (hfit := by first | omega | (rw [zi_size (by omega)]; first | rfl | decide) | (simp only [ic_size, List.length_map, List.size_toArray]; first | omega | decide) | rfl | (simp [*]; done) | (simp [*]; omega)) (h1 := by first | exact zi_one _ _ | exact ic_one _ _ | simp [opv, Value.cells, Value.oneCell']) (h := fun w5 hS => ?_) | refine m_store_vec ti37 (hS := hS) (hc := by first | exact zi_set rfl (by omega) | exact zi_whole (by omega) (by omega) | (first | exact splice_ic (by first | omega | (simp [*]; done) | (simp [*]; omega)) | exact splice_il (by first | omega | (simp [*]; done) | (simp [*]; omega)) | exact splice_whole (by first | (simp [opv, Value.cells, *]; done) | rfl) | (simp only [opv, n1, n2, Value.cells, splice, List.take_succ_cons, List.take_zero, List.drop_succ_cons, List.drop_zero, List.length_cons, List.length_nil, Nat.zero_add, Nat.reduceAdd, List.append_assoc, List.cons_append, List.nil_append]; rfl))) (hv := by first | rfl | (show (zi _ _).toArray.size = _; rw [zi_size (by omega)]; rfl) | (simp [opv, Value.cells, *]; done)) (hfit := by first | omega | (rw [zi_size (by omega)]; first | rfl | decide) | (simp only [ic_size, List.length_map, List.size_toArray]; first | omega | decide) | rfl | (simp [*]; done) | (simp [*]; omega)) (h1 := by first | exact zi_one _ _ | exact ic_one _ _ | simp [opv, Value.cells, Value.oneCell']) (h := fun w5 hS => ?_)
  try simp only [opv, n1, n2, n3, n4, Value.cells, Array.toArray_toList] at hS ⊢
  refine s_go (s_assign) ?_
  try simp only [opv, n1, n2, n3, n4, Value.cells]
  refine x_nil ?_
  refine hK5 _ _ ?_
  refine x_seq fun K6 hK6 => ?_
  refine x_region ?_
  first | refine s_go (m_fieldAddr Try.underlying37 (hi := ti35)) ?_ | refine s_go (m_fieldAddr_rd Try.underlying37 (hi := ti35) (hS := hS)) ?_ | refine s_go (m_fieldAddr_vec Try.underlying37 (hi := ti35) (hS := hS)) ?_
  try simp only [opv, n1, n2, n3, n4, Value.cells, Nat.zero_add, Nat.add_zero, List.getElem_toArray, List.getElem_cons_zero, List.getElem_cons_succ]
  first | refine s_go (m_load_obj Try.underlying35 (hS := hS) (hv := by first | rfl | exact zi_get rfl (by omega) | exact ic_get (by omega) | exact il_get (by omega))) ?_ | refine s_go (m_load_bx Try.underlying35 (hS := hS) (hv := by first | rfl | exact zi_get rfl (by omega) | exact ic_get (by omega) | exact il_get (by omega))) ?_ | refine s_go (m_load_rd Try.underlying35 (hS := hS) (hv := by first | rfl | exact zi_get rfl (by omega) | exact ic_get (by omega) | exact il_get (by omega))) ?_ | refine s_go (m_load_vec Try.underlying35 (hS := hS) (hv := by first | rfl | exact zi_get rfl (by omega) | exact ic_get (by omega) | exact il_get (by omega))) ?_
  try simp only [opv, n1, n2, n3, n4, Value.cells, List.getElem_toArray, List.getElem_cons_zero, List.getElem_cons_succ]
  rw [hvo.e0]
  refine s_go (s_assign) ?_
  try simp only [opv, n1, n2, n3, n4, Value.cells]
  refine x_nil ?_
  refine hK6 _ _ ?_
  refine x_ret ?_
  refine r_tmp rfl ?_
  first | exact ⟨by rw [halfN, if_pos hH]; rfl, hS.ext_of⟩ | exact ⟨by rw [halfN, if_neg (by rw [hH]; decide)]; rfl, hS.ext_of⟩
end Go.Proofs.Ytmgacmkikefpjaa
set_option linter.unusedSimpArgs false
set_option linter.unusedVariables false
set_option maxHeartbeats 1000000
set_option maxRecDepth 100000
namespace Go.Proofs.Ytmgacmkikefpjaa
open Go.RowKit
theorem c_countTurn (s : Int)  (w0 : World) :
    CallR Try.prog 148 #[.int .u8 s] w0 fun v w' => ∃ b : Nat, v = .func (.func 183) #[] #[.pointer (some ⟨b, 0, none⟩)] ∧ St NoB w0 w' [.obj b (.cells #[.int .u8 s] 5 (0, 0))] := by
 have hS : St NoB w0 w0 [] := St.start w0
 refine c_enter (l := [.int .u8 s, undef, undef, undef]) Try.func148 rfl (by simp only [Try.ntmps148, List.size_toArray, List.length_cons, List.length_nil, Nat.reduceAdd, Nat.reduceSub, Array.replicate_succ, Array.replicate_zero, List.push_toArray, List.append_toArray, List.nil_append, List.cons_append]) ?_
 refine x_seq fun K1 hK1 => ?_
 refine x_region ?_
 refine m_box hS (fun w1 g1 hS => ?_)
 try simp only [opv, n1, n2, n3, n4, Value.cells, Array.toArray_toList] at hS ⊢
 refine s_go (s_assign) ?_
 try simp only [opv, n1, n2, n3, n4, Value.cells]
 refine x_nil ?_
 refine hK1 _ _ ?_
 refine x_seq fun K2 hK2 => ?_
 refine x_region ?_
 refine s_go (s_makeFunc) ?_
 try simp only [opv, n1, n2, n3, n4, Value.cells, List.map_toArray, List.map_cons, List.map_nil]
 refine s_go (s_assign) ?_
 try simp only [opv, n1, n2, n3, n4, Value.cells]
 refine x_nil ?_
 refine hK2 _ _ ?_
 refine x_ret ?_
 refine r_tmp rfl ?_
 exact ⟨_, rfl, hS.sel (by repeat (first | exact Sel.nil | (refine Sel.cons (by repeat (first | exact Del.head | apply Del.tail)) ?_)))⟩
theorem c_countTurn1 (w0 : World) (A : Option Addr) (c : Nat) (l : List (List Int)) (hr : Rd w0 A 21 l.length (arows l)) (hv : AOks l) (hn : l.length ≤ 1000000000) (r : Nat) (hr8 : r < 256) (ct : Nat) (hct : ct < 65536) (it : List Int) (h8 : it.length = 8) (hbt : Byt it) (n : Int) (hn1 : -9223372036854775808 ≤ n) (hn2 : n ≤ 9223372036854775807) (s : Nat) (hs : s = 2 ∨ s = 3) (b : Nat) (hb : Rd w0 (some ⟨b, 0, none⟩) 1 1 [.int .u8 (s : Int)])  :
    CallR Try.prog 183 #[.slice A l.length c, .int .u8 (r : Int), .int .u16 (ct : Int), .agg (ic .u8 it), .int .i64 n, .pointer (some ⟨b, 0, none⟩)] w0 fun v w' => ∃ A c, v = .tuple #[.slice A (turnP l s r ct it (n)).length c, .int .i64 (turnE l s r ct it (n))] ∧ St NoB w0 w' [.vec A c 39 21 (turnP l s r ct it (n)).length (arows (turnP l s r ct it (n)))] := by
 have hS := St.rd2 (S := NoB) hr hb
 have hko := turnK_ok hs hr8 hct h8 hbt
 have hkl := hko.len
 have hhl := half_le hv hko
 have hAl : (turnA l s r ct it n).length = 21 := (turnA_ok hv hs hr8 hct h8 hbt hn2).len
 have hn0l : nm0.length = 8 := rfl
 have h9l : v9.length = 9 := rfl
 obtain ⟨h, hh⟩ : ∃ h, halfN l (turnK s r ct it) = h := ⟨_, rfl⟩
 rw [hh] at hhl
 refine c_enter (l := [.slice A l.length c, .int .u8 (r : Int), .int .u16 (ct : Int), .agg (ic .u8 it), .int .i64 n, .pointer (some ⟨b, 0, none⟩), undef, undef, undef, undef, undef, undef, undef, undef, undef, undef, undef, undef, undef, undef, undef, undef, undef, undef, undef, undef, undef, undef, undef, undef, undef, undef, undef, undef, undef, undef, undef, undef, undef, undef, undef, undef, undef, undef, undef, undef, undef, undef, undef, undef, undef, undef, undef, undef, undef, undef, undef, undef, undef, undef]) Try.func183 rfl (by simp only [Try.ntmps183, List.size_toArray, List.length_cons, List.length_nil, Nat.reduceAdd, Nat.reduceSub, Array.replicate_succ, Array.replicate_zero, List.push_toArray, List.append_toArray, List.nil_append, List.cons_append]) ?_
 refine x_seq fun K1 hK1 => ?_
 refine x_region ?_
 refine m_box hS (fun w1 g1 hS => ?_)
 try simp only [opv, n1, n2, n3, n4, Value.cells, Array.toArray_toList] at hS ⊢
 refine s_go (s_assign) ?_
 try simp only [opv, n1, n2, n3, n4, Value.cells]
 refine s_go (s_assign) ?_
 try simp only [opv, n1, n2, n3, n4, Value.cells]
 refine x_nil ?_
 refine hK1 _ _ ?_
 refine x_seq fun K2 hK2 => ?_
 refine x_seq fun K3 hK3 => ?_
 refine x_region ?_
 refine s_go (s_move) ?_
 try simp only [opv, n1, n2, n3, n4, Value.cells]
 refine s_go (s_geq) ?_
 try simp only [opv, n1, n2, n3, n4, Value.cells]
 refine s_go (s_move) ?_
 try simp only [opv, n1, n2, n3, n4, Value.cells]
 refine s_part 17 rfl (fun hp1 => ?_) (fun hp1 => ?_)
 ·
  try simp only [n3, n4]
  try simp only [decide_eq_true_eq, decide_eq_false_iff_not, Bool.not_eq_true', Bool.not_eq_false', Int.not_lt, Int.not_le, ne_eq, Decidable.not_not] at hp1
  first
  | (exfalso; omega)
  | skip
    have hE : turnE l s r ct it n = 1 := turnE_1 (.inl (by omega))
    refine g_off (yi (t := 17) rfl rfl) ?_
    try simp only [opv, n1, n2, n3, n4, Value.cells]
    refine g_off (yi (t := 17) rfl rfl) ?_
    try simp only [opv, n1, n2, n3, n4, Value.cells]
    first | refine s_go (s_pick_t) ?_ | refine s_go (s_pick_f) ?_
    try simp only [opv, n1, n2, n3, n4, Value.cells]
    refine s_go (s_move) ?_
    try simp only [opv, n1, n2, n3, n4, Value.cells]
    refine g_off (yi (t := 21) rfl rfl) ?_
    try simp only [opv, n1, n2, n3, n4, Value.cells]
    refine g_off (yi (t := 21) rfl rfl) ?_
    try simp only [opv, n1, n2, n3, n4, Value.cells]
    refine g_off (yi (t := 21) rfl rfl) ?_
    try simp only [opv, n1, n2, n3, n4, Value.cells]
    first | refine s_go (s_pick_t) ?_ | refine s_go (s_pick_f) ?_
    try simp only [opv, n1, n2, n3, n4, Value.cells]
    refine x_nil ?_
    refine hK3 _ _ ?_
    refine x_cond_t (h := ?_)
    try have hE : turnE l s r ct it n = 1 := turnE_1 (.inr (.inr (by simpa using @c)))
    refine x_seq fun K4 hK4 => ?_
    refine x_region ?_
    refine s_go (s_assign) ?_
    try simp only [opv, n1, n2, n3, n4, Value.cells]
    refine s_go (s_assign) ?_
    try simp only [opv, n1, n2, n3, n4, Value.cells]
    refine x_nil ?_
    refine hK4 _ _ ?_
    refine x_ret ?_
    refine r_tmp2 rfl ?_
    first
    | (rw [turnP_no (by first | exact .inl (by rw [hE]; decide) | exact .inr (by omega)), hE]; replace hS := hS.nil_vec 39 21; exact ⟨none, 0, rfl, hS.sel (by repeat (first | exact Sel.nil | (refine Sel.cons (by repeat (first | exact Del.head | apply Del.tail)) ?_)))⟩)
    | (rw [turnP_yes hE hn0, hE]; exact ⟨_, _, rfl, hS.sel (by repeat (first | exact Sel.nil | (refine Sel.cons (by repeat (first | exact Del.head | apply Del.tail)) ?_)))⟩)
 ·
  try simp only [n3, n4]
  try simp only [decide_eq_true_eq, decide_eq_false_iff_not, Bool.not_eq_true', Bool.not_eq_false', Int.not_lt, Int.not_le, ne_eq, Decidable.not_not] at hp1
  first
  | (exfalso; omega)
  | skip
    refine g_on (yi (t := 17) rfl rfl) ?_
    refine s_go (s_move) ?_
    try simp only [opv, n1, n2, n3, n4, Value.cells]
    refine g_on (yi (t := 17) rfl rfl) ?_
    refine s_go (s_lss) ?_
    try simp only [opv, n1, n2, n3, n4, Value.cells]
    first | refine s_go (s_pick_t) ?_ | refine s_go (s_pick_f) ?_
    try simp only [opv, n1, n2, n3, n4, Value.cells]
    refine s_go (s_move) ?_
    try simp only [opv, n1, n2, n3, n4, Value.cells]
    refine s_part 21 rfl (fun hp2 => ?_) (fun hp2 => ?_)
    ·
     try simp only [n3, n4]
     try simp only [decide_eq_true_eq, decide_eq_false_iff_not, Bool.not_eq_true', Bool.not_eq_false', Int.not_lt, Int.not_le, ne_eq, Decidable.not_not] at hp2
     first
     | (exfalso; omega)
     | skip
       try have hE : turnE l s r ct it n = 1 := turnE_1 (.inr (.inl (by omega)))
       refine g_off (yi (t := 21) rfl rfl) ?_
       try simp only [opv, n1, n2, n3, n4, Value.cells]
       refine g_off (yi (t := 21) rfl rfl) ?_
       try simp only [opv, n1, n2, n3, n4, Value.cells]
       refine g_off (yi (t := 21) rfl rfl) ?_
       try simp only [opv, n1, n2, n3, n4, Value.cells]
       first | refine s_go (s_pick_t) ?_ | refine s_go (s_pick_f) ?_
       try simp only [opv, n1, n2, n3, n4, Value.cells]
       refine x_nil ?_
       refine hK3 _ _ ?_
       refine x_cond_t (h := ?_)
       try have hE : turnE l s r ct it n = 1 := turnE_1 (.inr (.inr (by simpa using @c)))
       refine x_seq fun K5 hK5 => ?_
       refine x_region ?_
       refine s_go (s_assign) ?_
       try simp only [opv, n1, n2, n3, n4, Value.cells]
       refine s_go (s_assign) ?_
       try simp only [opv, n1, n2, n3, n4, Value.cells]
       refine x_nil ?_
       refine hK5 _ _ ?_
       refine x_ret ?_
       refine r_tmp2 rfl ?_
       first
       | (rw [turnP_no (by first | exact .inl (by rw [hE]; decide) | exact .inr (by omega)), hE]; replace hS := hS.nil_vec 39 21; exact ⟨none, 0, rfl, hS.sel (by repeat (first | exact Sel.nil | (refine Sel.cons (by repeat (first | exact Del.head | apply Del.tail)) ?_)))⟩)
       | (rw [turnP_yes hE hn0, hE]; exact ⟨_, _, rfl, hS.sel (by repeat (first | exact Sel.nil | (refine Sel.cons (by repeat (first | exact Del.head | apply Del.tail)) ?_)))⟩)
    ·
     try simp only [n3, n4]
     try simp only [decide_eq_true_eq, decide_eq_false_iff_not, Bool.not_eq_true', Bool.not_eq_false', Int.not_lt, Int.not_le, ne_eq, Decidable.not_not] at hp2
     first
     | (exfalso; omega)
     | skip
       refine g_on (yi (t := 21) rfl rfl) ?_
       first | refine s_go (m_load_row Try.underlying31 (hi := ti31) (hS := hS) (hfit := by first | omega | (rw [zi_size (by omega)]; first | rfl | decide) | (simp only [ic_size, List.length_map, List.size_toArray]; first | omega | decide) | rfl | (simp [*]; done) | (simp [*]; omega))) ?_ | refine s_go (m_loada_obj Try.underlying31 (hi := ti31) (hS := hS) (hfit := by first | omega | (rw [zi_size (by omega)]; first | rfl | decide) | (simp only [ic_size, List.length_map, List.size_toArray]; first | omega | decide) | rfl | (simp [*]; done) | (simp [*]; omega))) ?_ | refine s_go (m_loada_bx Try.underlying31 (hi := ti31) (hS := hS) (hfit := by first | omega | (rw [zi_size (by omega)]; first | rfl | decide) | (simp only [ic_size, List.length_map, List.size_toArray]; first | omega | decide) | rfl | (simp [*]; done) | (simp [*]; omega))) ?_ | refine s_go (m_loada_rd Try.underlying31 (hi := ti31) (hS := hS) (hfit := by first | omega | (rw [zi_size (by omega)]; first | rfl | decide) | (simp only [ic_size, List.length_map, List.size_toArray]; first | omega | decide) | rfl | (simp [*]; done) | (simp [*]; omega))) ?_ | refine s_go (m_loada_vec Try.underlying31 (hi := ti31) (hS := hS) (hfit := by first | omega | (rw [zi_size (by omega)]; first | rfl | decide) | (simp only [ic_size, List.length_map, List.size_toArray]; first | omega | decide) | rfl | (simp [*]; done) | (simp [*]; omega))) ?_
       try simp only [opv, n1, n2, n3, n4, Value.cells, List.getElem_toArray, List.getElem_cons_zero, List.getElem_cons_succ]
       refine g_on (yi (t := 21) rfl rfl) ?_
       refine s_call en124 ?_
       try simp only [opv, n1, n2, n3, n4, Value.cells, List.map_toArray, List.map_cons, List.map_nil, List.append_toArray, List.cons_append, List.nil_append, Array.append_empty]
       refine CallR.mono (c_nameRight it h8 hbt _) ?_
       rintro _ w2 ⟨rfl, hE2⟩
       replace hS := hS.ext hE2
       try simp only [opv, n1, n2, n3, n4, Value.cells]
       refine g_on (yi (t := 21) rfl rfl) ?_
       refine s_go (s_not) ?_
       try simp only [opv, n1, n2, n3, n4, Value.cells]
       first | refine s_go (s_pick_t) ?_ | refine s_go (s_pick_f) ?_
       try simp only [opv, n1, n2, n3, n4, Value.cells]
       refine x_nil ?_
       refine hK3 _ _ ?_
       refine x_cond (ht := fun hc3 => ?_) (hf := fun hc3 => ?_)
       ·
        try simp only [decide_eq_true_eq, decide_eq_false_iff_not, Bool.not_eq_true', Bool.not_eq_false', Int.not_lt, Int.not_le, ne_eq, Decidable.not_not, bne_iff_ne, beq_iff_eq, not_true_eq_false, not_false_eq_true] at hc3
        first
        | (exfalso; omega)
        | skip
          try have hE : turnE l s r ct it n = 1 := turnE_1 (.inr (.inr (by simpa using hc3)))
          refine x_seq fun K6 hK6 => ?_
          refine x_region ?_
          refine s_go (s_assign) ?_
          try simp only [opv, n1, n2, n3, n4, Value.cells]
          refine s_go (s_assign) ?_
          try simp only [opv, n1, n2, n3, n4, Value.cells]
          refine x_nil ?_
          refine hK6 _ _ ?_
          refine x_ret ?_
          refine r_tmp2 rfl ?_
          first
          | (rw [turnP_no (by first | exact .inl (by rw [hE]; decide) | exact .inr (by omega)), hE]; replace hS := hS.nil_vec 39 21; exact ⟨none, 0, rfl, hS.sel (by repeat (first | exact Sel.nil | (refine Sel.cons (by repeat (first | exact Del.head | apply Del.tail)) ?_)))⟩)
          | (rw [turnP_yes hE hn0, hE]; exact ⟨_, _, rfl, hS.sel (by repeat (first | exact Sel.nil | (refine Sel.cons (by repeat (first | exact Del.head | apply Del.tail)) ?_)))⟩)
       ·
        try simp only [decide_eq_true_eq, decide_eq_false_iff_not, Bool.not_eq_true', Bool.not_eq_false', Int.not_lt, Int.not_le, ne_eq, Decidable.not_not, bne_iff_ne, beq_iff_eq, not_true_eq_false, not_false_eq_true] at hc3
        first
        | (exfalso; omega)
        | skip
          have hok : ¬ (16 ≤ r ∨ n < 0 ∨ nright it = false) := fun q => q.elim (fun q => by omega) (fun q => q.elim (fun q => by omega) (fun q => by simp [q] at hc3))
          refine x_skip ?_
          refine hK2 _ _ ?_
          refine x_seq fun K7 hK7 => ?_
          refine x_region ?_
          first | refine s_go (m_load_obj Try.underlying5 (hS := hS) (hv := by first | rfl | exact zi_get rfl (by omega) | exact ic_get (by omega) | exact il_get (by omega))) ?_ | refine s_go (m_load_bx Try.underlying5 (hS := hS) (hv := by first | rfl | exact zi_get rfl (by omega) | exact ic_get (by omega) | exact il_get (by omega))) ?_ | refine s_go (m_load_rd Try.underlying5 (hS := hS) (hv := by first | rfl | exact zi_get rfl (by omega) | exact ic_get (by omega) | exact il_get (by omega))) ?_ | refine s_go (m_load_vec Try.underlying5 (hS := hS) (hv := by first | rfl | exact zi_get rfl (by omega) | exact ic_get (by omega) | exact il_get (by omega))) ?_
          try simp only [opv, n1, n2, n3, n4, Value.cells, List.getElem_toArray, List.getElem_cons_zero, List.getElem_cons_succ]
          refine s_go (s_move) ?_
          try simp only [opv, n1, n2, n3, n4, Value.cells]
          first | refine s_go (m_load_row Try.underlying31 (hi := ti31) (hS := hS) (hfit := by first | omega | (rw [zi_size (by omega)]; first | rfl | decide) | (simp only [ic_size, List.length_map, List.size_toArray]; first | omega | decide) | rfl | (simp [*]; done) | (simp [*]; omega))) ?_ | refine s_go (m_loada_obj Try.underlying31 (hi := ti31) (hS := hS) (hfit := by first | omega | (rw [zi_size (by omega)]; first | rfl | decide) | (simp only [ic_size, List.length_map, List.size_toArray]; first | omega | decide) | rfl | (simp [*]; done) | (simp [*]; omega))) ?_ | refine s_go (m_loada_bx Try.underlying31 (hi := ti31) (hS := hS) (hfit := by first | omega | (rw [zi_size (by omega)]; first | rfl | decide) | (simp only [ic_size, List.length_map, List.size_toArray]; first | omega | decide) | rfl | (simp [*]; done) | (simp [*]; omega))) ?_ | refine s_go (m_loada_rd Try.underlying31 (hi := ti31) (hS := hS) (hfit := by first | omega | (rw [zi_size (by omega)]; first | rfl | decide) | (simp only [ic_size, List.length_map, List.size_toArray]; first | omega | decide) | rfl | (simp [*]; done) | (simp [*]; omega))) ?_ | refine s_go (m_loada_vec Try.underlying31 (hi := ti31) (hS := hS) (hfit := by first | omega | (rw [zi_size (by omega)]; first | rfl | decide) | (simp only [ic_size, List.length_map, List.size_toArray]; first | omega | decide) | rfl | (simp [*]; done) | (simp [*]; omega))) ?_
          try simp only [opv, n1, n2, n3, n4, Value.cells, List.getElem_toArray, List.getElem_cons_zero, List.getElem_cons_succ]
          refine s_go (s_move) ?_
          try simp only [opv, n1, n2, n3, n4, Value.cells]
          refine s_go (s_build_struct (cells := (KA (turnK s r ct it))) Try.underlying34 ti34 bp34 (hc := by simp only [List.map_toArray, List.map_cons, List.map_nil, opv, n1, n2, n3, n4, Value.cells, List.toList_toArray]; exact fill_key (by rfl) (by rfl) (by rfl) (by rfl) h8)) ?_
          try simp only [opv, n1, n2, n3, n4, Value.cells]
          refine s_go (s_build_struct (cells := (AA ((turnK s r ct it) ++ v9))) Try.underlying39 ti39 bp39 (hc := by simp only [List.map_toArray, List.map_cons, List.map_nil, opv, n1, n2, n3, n4, Value.cells, List.toList_toArray]; exact fill_atomk (by rfl) hkl)) ?_
          try simp only [opv, n1, n2, n3, n4, Value.cells]
          refine m_alloc ti39 hS (fun w3 g3 hS => ?_)
          try simp only [opv, n1, n2, n3, n4, Value.cells, Array.toArray_toList] at hS ⊢
          have h0l : (List.replicate 21 (0 : Int)).length = 21 := rfl
          replace hS : St NoB w0 w3 (.obj g3 (.cells (AA (List.replicate 21 0)) 39 (0, 0)) :: _) := hS
          have hka : ((turnK s r ct it) ++ v9).length = 21 := by rw [List.length_append, hkl, h9l]
          have hka2 : ((turnK s r ct it) ++ ((0 : Int) :: nm0)).length = 21 := hka
          have hka3 : ((turnK s r ct it) ++ ((h : Int) :: nm0)).length = 21 := by rw [List.length_append, hkl]; rfl
          first | refine m_store_obj ti39 (hS := hS) (hc := by first | exact zi_set rfl (by omega) | exact zi_whole (by omega) (by omega) | (first | exact splice_ic (by first | omega | (simp [*]; done) | (simp [*]; omega)) | exact splice_il (by first | omega | (simp [*]; done) | (simp [*]; omega)) | exact splice_whole (by first | (simp [opv, Value.cells, *]; done) | rfl) | (simp only [opv, n1, n2, Value.cells, splice, List.take_succ_cons, List.take_zero, List.drop_succ_cons, List.drop_zero, List.length_cons, List.length_nil, Nat.zero_add, Nat.reduceAdd, List.append_assoc, List.cons_append, List.nil_append]; rfl))) (hv := by first | rfl | (show (zi _ _).toArray.size = _; rw [zi_size (by omega)]; rfl) | (simp [opv, Value.cells, *]; done)) (hfit := by first | omega | (rw [zi_size (by omega)]; first | rfl | decide) | (simp only [ic_size, List.length_map, List.size_toArray]; first | omega | decide) | rfl | (simp [*]; done) | (simp [*]; omega)) (h1 := by first | exact zi_one _ _ | exact ic_one _ _ | simp [opv, Value.cells, Value.oneCell']) (h := fun w4 hS => ?_) | refine m_store_vec ti39 (hS := hS) (hc := by first | exact zi_set rfl (by omega) | exact zi_whole (by omega) (by omega) | (first | exact splice_ic (by first | omega | (simp [*]; done) | (simp [*]; omega)) | exact splice_il (by first | omega | (simp [*]; done) | (simp [*]; omega)) | exact splice_whole (by first | (simp [opv, Value.cells, *]; done) | rfl) | (simp only [opv, n1, n2, Value.cells, splice, List.take_succ_cons, List.take_zero, List.drop_succ_cons, List.drop_zero, List.length_cons, List.length_nil, Nat.zero_add, Nat.reduceAdd, List.append_assoc, List.cons_append, List.nil_append]; rfl))) (hv := by first | rfl | (show (zi _ _).toArray.size = _; rw [zi_size (by omega)]; rfl) | (simp [opv, Value.cells, *]; done)) (hfit := by first | omega | (rw [zi_size (by omega)]; first | rfl | decide) | (simp only [ic_size, List.length_map, List.size_toArray]; first | omega | decide) | rfl | (simp [*]; done) | (simp [*]; omega)) (h1 := by first | exact zi_one _ _ | exact ic_one _ _ | simp [opv, Value.cells, Value.oneCell']) (h := fun w4 hS => ?_)
          try simp only [opv, n1, n2, n3, n4, Value.cells, Array.toArray_toList] at hS ⊢
          rw [v9_cut] at hS
          refine x_nil ?_
          refine hK7 _ _ ?_
          refine x_seq fun K8 hK8 => ?_
          refine x_region ?_
          refine s_go (s_move) ?_
          try simp only [opv, n1, n2, n3, n4, Value.cells]
          first | refine s_go (m_fieldAddr Try.underlying39 (hi := ti34)) ?_ | refine s_go (m_fieldAddr_rd Try.underlying39 (hi := ti34) (hS := hS)) ?_ | refine s_go (m_fieldAddr_vec Try.underlying39 (hi := ti34) (hS := hS)) ?_
          try simp only [opv, n1, n2, n3, n4, Value.cells, Nat.zero_add, Nat.add_zero, List.getElem_toArray, List.getElem_cons_zero, List.getElem_cons_succ]
          first | refine s_go (m_load_row Try.underlying34 (hi := ti34) (hS := hS) (hfit := by first | omega | (rw [zi_size (by omega)]; first | rfl | decide) | (simp only [ic_size, List.length_map, List.size_toArray]; first | omega | decide) | rfl | (simp [*]; done) | (simp [*]; omega))) ?_ | refine s_go (m_loada_obj Try.underlying34 (hi := ti34) (hS := hS) (hfit := by first | omega | (rw [zi_size (by omega)]; first | rfl | decide) | (simp only [ic_size, List.length_map, List.size_toArray]; first | omega | decide) | rfl | (simp [*]; done) | (simp [*]; omega))) ?_ | refine s_go (m_loada_bx Try.underlying34 (hi := ti34) (hS := hS) (hfit := by first | omega | (rw [zi_size (by omega)]; first | rfl | decide) | (simp only [ic_size, List.length_map, List.size_toArray]; first | omega | decide) | rfl | (simp [*]; done) | (simp [*]; omega))) ?_ | refine s_go (m_loada_rd Try.underlying34 (hi := ti34) (hS := hS) (hfit := by first | omega | (rw [zi_size (by omega)]; first | rfl | decide) | (simp only [ic_size, List.length_map, List.size_toArray]; first | omega | decide) | rfl | (simp [*]; done) | (simp [*]; omega))) ?_ | refine s_go (m_loada_vec Try.underlying34 (hi := ti34) (hS := hS) (hfit := by first | omega | (rw [zi_size (by omega)]; first | rfl | decide) | (simp only [ic_size, List.length_map, List.size_toArray]; first | omega | decide) | rfl | (simp [*]; done) | (simp [*]; omega))) ?_
          try simp only [opv, n1, n2, n3, n4, Value.cells, List.getElem_toArray, List.getElem_cons_zero, List.getElem_cons_succ]
          rw [atom_key hka2, akey_kv hkl]
          refine s_call en184 ?_
          try simp only [opv, n1, n2, n3, n4, Value.cells, List.map_toArray, List.map_cons, List.map_nil, List.append_toArray, List.cons_append, List.nil_append, Array.append_empty]
          refine CallR.mono (c_countHalf _ A c l (hS.hasRd (by repeat (first | exact Has.head | apply Has.tail))) hv hn (turnK s r ct it) hko) ?_
          rintro _ w5 ⟨rfl, hE5⟩
          replace hS := hS.ext hE5
          try simp only [opv, n1, n2, n3, n4, Value.cells]
          rw [hh]
          first | refine s_go (m_fieldAddr Try.underlying39 (hi := ti37)) ?_ | refine s_go (m_fieldAddr_rd Try.underlying39 (hi := ti37) (hS := hS)) ?_ | refine s_go (m_fieldAddr_vec Try.underlying39 (hi := ti37) (hS := hS)) ?_
          try simp only [opv, n1, n2, n3, n4, Value.cells, Nat.zero_add, Nat.add_zero, List.getElem_toArray, List.getElem_cons_zero, List.getElem_cons_succ]
          first | refine s_go (m_fieldAddr Try.underlying37 (hi := ti35)) ?_ | refine s_go (m_fieldAddr_rd Try.underlying37 (hi := ti35) (hS := hS)) ?_ | refine s_go (m_fieldAddr_vec Try.underlying37 (hi := ti35) (hS := hS)) ?_
          try simp only [opv, n1, n2, n3, n4, Value.cells, Nat.zero_add, Nat.add_zero, List.getElem_toArray, List.getElem_cons_zero, List.getElem_cons_succ]
          first | refine m_store_obj ti35 (hS := hS) (hc := by first | exact zi_set rfl (by omega) | exact zi_whole (by omega) (by omega) | (first | exact splice_ic (by first | omega | (simp [*]; done) | (simp [*]; omega)) | exact splice_il (by first | omega | (simp [*]; done) | (simp [*]; omega)) | exact splice_whole (by first | (simp [opv, Value.cells, *]; done) | rfl) | (simp only [opv, n1, n2, Value.cells, splice, List.take_succ_cons, List.take_zero, List.drop_succ_cons, List.drop_zero, List.length_cons, List.length_nil, Nat.zero_add, Nat.reduceAdd, List.append_assoc, List.cons_append, List.nil_append]; rfl))) (hv := by first | rfl | (show (zi _ _).toArray.size = _; rw [zi_size (by omega)]; rfl) | (simp [opv, Value.cells, *]; done)) (hfit := by first | omega | (rw [zi_size (by omega)]; first | rfl | decide) | (simp only [ic_size, List.length_map, List.size_toArray]; first | omega | decide) | rfl | (simp [*]; done) | (simp [*]; omega)) (h1 := by first | exact zi_one _ _ | exact ic_one _ _ | simp [opv, Value.cells, Value.oneCell']) (h := fun w6 hS => ?_) | refine m_store_vec ti35 (hS := hS) (hc := by first | exact zi_set rfl (by omega) | exact zi_whole (by omega) (by omega) | (first | exact splice_ic (by first | omega | (simp [*]; done) | (simp [*]; omega)) | exact splice_il (by first | omega | (simp [*]; done) | (simp [*]; omega)) | exact splice_whole (by first | (simp [opv, Value.cells, *]; done) | rfl) | (simp only [opv, n1, n2, Value.cells, splice, List.take_succ_cons, List.take_zero, List.drop_succ_cons, List.drop_zero, List.length_cons, List.length_nil, Nat.zero_add, Nat.reduceAdd, List.append_assoc, List.cons_append, List.nil_append]; rfl))) (hv := by first | rfl | (show (zi _ _).toArray.size = _; rw [zi_size (by omega)]; rfl) | (simp [opv, Value.cells, *]; done)) (hfit := by first | omega | (rw [zi_size (by omega)]; first | rfl | decide) | (simp only [ic_size, List.length_map, List.size_toArray]; first | omega | decide) | rfl | (simp [*]; done) | (simp [*]; omega)) (h1 := by first | exact zi_one _ _ | exact ic_one _ _ | simp [opv, Value.cells, Value.oneCell']) (h := fun w6 hS => ?_)
          try simp only [opv, n1, n2, n3, n4, Value.cells, Array.toArray_toList] at hS ⊢
          rw [set12 hkl] at hS
          refine x_nil ?_
          refine hK8 _ _ ?_
          refine x_seq fun K9 hK9 => ?_
          refine x_seq fun K10 hK10 => ?_
          refine x_region ?_
          first | refine s_go (m_fieldAddr Try.underlying39 (hi := ti37)) ?_ | refine s_go (m_fieldAddr_rd Try.underlying39 (hi := ti37) (hS := hS)) ?_ | refine s_go (m_fieldAddr_vec Try.underlying39 (hi := ti37) (hS := hS)) ?_
          try simp only [opv, n1, n2, n3, n4, Value.cells, Nat.zero_add, Nat.add_zero, List.getElem_toArray, List.getElem_cons_zero, List.getElem_cons_succ]
          first | refine s_go (m_fieldAddr Try.underlying37 (hi := ti35)) ?_ | refine s_go (m_fieldAddr_rd Try.underlying37 (hi := ti35) (hS := hS)) ?_ | refine s_go (m_fieldAddr_vec Try.underlying37 (hi := ti35) (hS := hS)) ?_
          try simp only [opv, n1, n2, n3, n4, Value.cells, Nat.zero_add, Nat.add_zero, List.getElem_toArray, List.getElem_cons_zero, List.getElem_cons_succ]
          first | refine s_go (m_load_obj Try.underlying35 (hS := hS) (hv := by first | rfl | exact zi_get rfl (by omega) | exact ic_get (by omega) | exact il_get (by omega))) ?_ | refine s_go (m_load_bx Try.underlying35 (hS := hS) (hv := by first | rfl | exact zi_get rfl (by omega) | exact ic_get (by omega) | exact il_get (by omega))) ?_ | refine s_go (m_load_rd Try.underlying35 (hS := hS) (hv := by first | rfl | exact zi_get rfl (by omega) | exact ic_get (by omega) | exact il_get (by omega))) ?_ | refine s_go (m_load_vec Try.underlying35 (hS := hS) (hv := by first | rfl | exact zi_get rfl (by omega) | exact ic_get (by omega) | exact il_get (by omega))) ?_
          try simp only [opv, n1, n2, n3, n4, Value.cells, List.getElem_toArray, List.getElem_cons_zero, List.getElem_cons_succ]
          rw [get12 hkl]
          refine s_go (s_sub (hc := by first | exact wr_u64 (by omega) (by omega) | rfl)) ?_
          try simp only [opv, n1, n2, n3, n4, Value.cells]
          refine s_go (s_assign) ?_
          try simp only [opv, n1, n2, n3, n4, Value.cells]
          refine x_nil ?_
          refine hK10 _ _ ?_
          refine x_block ?_
          refine x_seq fun K11 hK11 => ?_
          refine x_region ?_
          refine s_go (s_move) ?_
          try simp only [opv, n1, n2, n3, n4, Value.cells]
          refine s_go (s_conv Try.underlying3 Try.underlying35 (hc := by first | exact wr_u64 (by omega) (by omega) | rfl)) ?_
          try simp only [opv, n1, n2, n3, n4, Value.cells]
          refine s_go (s_move) ?_
          try simp only [opv, n1, n2, n3, n4, Value.cells]
          refine s_go (s_gtr) ?_
          try simp only [opv, n1, n2, n3, n4, Value.cells]
          refine s_go (s_assign) ?_
          try simp only [opv, n1, n2, n3, n4, Value.cells]
          refine x_nil ?_
          refine hK11 _ _ ?_
          refine x_cond (ht := fun hc4 => ?_) (hf := fun hc4 => ?_)
          ·
           try simp only [decide_eq_true_eq, decide_eq_false_iff_not, Bool.not_eq_true', Bool.not_eq_false', Int.not_lt, Int.not_le, ne_eq, Decidable.not_not, bne_iff_ne, beq_iff_eq, not_true_eq_false, not_false_eq_true] at hc4
           first
           | (exfalso; omega)
           | skip
             have hE : turnE l s r ct it n = 8 := turnE_8 hok (by rw [hh]; omega)
             refine x_seq fun K12 hK12 => ?_
             refine x_region ?_
             refine s_go (s_assign) ?_
             try simp only [opv, n1, n2, n3, n4, Value.cells]
             refine s_go (s_assign) ?_
             try simp only [opv, n1, n2, n3, n4, Value.cells]
             refine x_nil ?_
             refine hK12 _ _ ?_
             refine x_ret ?_
             refine r_tmp2 rfl ?_
             first
             | (rw [turnP_no (by first | exact .inl (by rw [hE]; decide) | exact .inr (by omega)), hE]; replace hS := hS.nil_vec 39 21; exact ⟨none, 0, rfl, hS.sel (by repeat (first | exact Sel.nil | (refine Sel.cons (by repeat (first | exact Del.head | apply Del.tail)) ?_)))⟩)
             | (rw [turnP_yes hE hn0, hE]; exact ⟨_, _, rfl, hS.sel (by repeat (first | exact Sel.nil | (refine Sel.cons (by repeat (first | exact Del.head | apply Del.tail)) ?_)))⟩)
          ·
           try simp only [decide_eq_true_eq, decide_eq_false_iff_not, Bool.not_eq_true', Bool.not_eq_false', Int.not_lt, Int.not_le, ne_eq, Decidable.not_not, bne_iff_ne, beq_iff_eq, not_true_eq_false, not_false_eq_true] at hc4
           first
           | (exfalso; omega)
           | skip
             have hE : turnE l s r ct it n = 0 := turnE_0 hok (by rw [hh]; omega)
             refine x_seq fun K13 hK13 => ?_
             refine x_region ?_
             refine s_go (s_move) ?_
             try simp only [opv, n1, n2, n3, n4, Value.cells]
             refine s_go (s_eql) ?_
             try simp only [opv, n1, n2, n3, n4, Value.cells]
             refine s_go (s_assign) ?_
             try simp only [opv, n1, n2, n3, n4, Value.cells]
             refine x_nil ?_
             refine hK13 _ _ ?_
             refine x_cond (ht := fun hc5 => ?_) (hf := fun hc5 => ?_)
             ·
              try simp only [decide_eq_true_eq, decide_eq_false_iff_not, Bool.not_eq_true', Bool.not_eq_false', Int.not_lt, Int.not_le, ne_eq, Decidable.not_not, bne_iff_ne, beq_iff_eq, not_true_eq_false, not_false_eq_true] at hc5
              first
              | (exfalso; omega)
              | skip
                have hn0 : n = 0 := hc5
                refine x_seq fun K14 hK14 => ?_
                refine x_region ?_
                refine s_go (s_assign) ?_
                try simp only [opv, n1, n2, n3, n4, Value.cells]
                refine s_go (s_assign) ?_
                try simp only [opv, n1, n2, n3, n4, Value.cells]
                refine x_nil ?_
                refine hK14 _ _ ?_
                refine x_ret ?_
                refine r_tmp2 rfl ?_
                first
                | (rw [turnP_no (by first | exact .inl (by rw [hE]; decide) | exact .inr (by omega)), hE]; replace hS := hS.nil_vec 39 21; exact ⟨none, 0, rfl, hS.sel (by repeat (first | exact Sel.nil | (refine Sel.cons (by repeat (first | exact Del.head | apply Del.tail)) ?_)))⟩)
                | (rw [turnP_yes hE hn0, hE]; exact ⟨_, _, rfl, hS.sel (by repeat (first | exact Sel.nil | (refine Sel.cons (by repeat (first | exact Del.head | apply Del.tail)) ?_)))⟩)
             ·
              try simp only [decide_eq_true_eq, decide_eq_false_iff_not, Bool.not_eq_true', Bool.not_eq_false', Int.not_lt, Int.not_le, ne_eq, Decidable.not_not, bne_iff_ne, beq_iff_eq, not_true_eq_false, not_false_eq_true] at hc5
              first
              | (exfalso; omega)
              | skip
                have hn0 : ¬ n = 0 := hc5
                refine x_skip ?_
                refine hK9 _ _ ?_
                refine x_seq fun K15 hK15 => ?_
                refine x_region ?_
                first | refine s_go (m_fieldAddr Try.underlying39 (hi := ti37)) ?_ | refine s_go (m_fieldAddr_rd Try.underlying39 (hi := ti37) (hS := hS)) ?_ | refine s_go (m_fieldAddr_vec Try.underlying39 (hi := ti37) (hS := hS)) ?_
                try simp only [opv, n1, n2, n3, n4, Value.cells, Nat.zero_add, Nat.add_zero, List.getElem_toArray, List.getElem_cons_zero, List.getElem_cons_succ]
                first | refine s_go (m_fieldAddr Try.underlying37 (hi := ti35)) ?_ | refine s_go (m_fieldAddr_rd Try.underlying37 (hi := ti35) (hS := hS)) ?_ | refine s_go (m_fieldAddr_vec Try.underlying37 (hi := ti35) (hS := hS)) ?_
                try simp only [opv, n1, n2, n3, n4, Value.cells, Nat.zero_add, Nat.add_zero, List.getElem_toArray, List.getElem_cons_zero, List.getElem_cons_succ]
                first | refine s_go (m_load_obj Try.underlying35 (hS := hS) (hv := by first | rfl | exact zi_get rfl (by omega) | exact ic_get (by omega) | exact il_get (by omega))) ?_ | refine s_go (m_load_bx Try.underlying35 (hS := hS) (hv := by first | rfl | exact zi_get rfl (by omega) | exact ic_get (by omega) | exact il_get (by omega))) ?_ | refine s_go (m_load_rd Try.underlying35 (hS := hS) (hv := by first | rfl | exact zi_get rfl (by omega) | exact ic_get (by omega) | exact il_get (by omega))) ?_ | refine s_go (m_load_vec Try.underlying35 (hS := hS) (hv := by first | rfl | exact zi_get rfl (by omega) | exact ic_get (by omega) | exact il_get (by omega))) ?_
                try simp only [opv, n1, n2, n3, n4, Value.cells, List.getElem_toArray, List.getElem_cons_zero, List.getElem_cons_succ]
                rw [get12 hkl]
                refine s_go (s_move) ?_
                try simp only [opv, n1, n2, n3, n4, Value.cells]
                refine s_go (s_conv Try.underlying3 Try.underlying35 (hc := by first | exact wr_u64 (by omega) (by omega) | rfl)) ?_
                try simp only [opv, n1, n2, n3, n4, Value.cells]
                refine s_go (s_add (hc := by first | exact wr_u64 (by omega) (by omega) | rfl)) ?_
                try simp only [opv, n1, n2, n3, n4, Value.cells]
                first | refine s_go (m_fieldAddr Try.underlying39 (hi := ti37)) ?_ | refine s_go (m_fieldAddr_rd Try.underlying39 (hi := ti37) (hS := hS)) ?_ | refine s_go (m_fieldAddr_vec Try.underlying39 (hi := ti37) (hS := hS)) ?_
                try simp only [opv, n1, n2, n3, n4, Value.cells, Nat.zero_add, Nat.add_zero, List.getElem_toArray, List.getElem_cons_zero, List.getElem_cons_succ]
                first | refine s_go (m_fieldAddr Try.underlying37 (hi := ti35)) ?_ | refine s_go (m_fieldAddr_rd Try.underlying37 (hi := ti35) (hS := hS)) ?_ | refine s_go (m_fieldAddr_vec Try.underlying37 (hi := ti35) (hS := hS)) ?_
                try simp only [opv, n1, n2, n3, n4, Value.cells, Nat.zero_add, Nat.add_zero, List.getElem_toArray, List.getElem_cons_zero, List.getElem_cons_succ]
                first | refine m_store_obj ti35 (hS := hS) (hc := by first | exact zi_set rfl (by omega) | exact zi_whole (by omega) (by omega) | (first | exact splice_ic (by first | omega | (simp [*]; done) | (simp [*]; omega)) | exact splice_il (by first | omega | (simp [*]; done) | (simp [*]; omega)) | exact splice_whole (by first | (simp [opv, Value.cells, *]; done) | rfl) | (simp only [opv, n1, n2, Value.cells, splice, List.take_succ_cons, List.take_zero, List.drop_succ_cons, List.drop_zero, List.length_cons, List.length_nil, Nat.zero_add, Nat.reduceAdd, List.append_assoc, List.cons_append, List.nil_append]; rfl))) (hv := by first | rfl | (show (zi _ _).toArray.size = _; rw [zi_size (by omega)]; rfl) | (simp [opv, Value.cells, *]; done)) (hfit := by first | omega | (rw [zi_size (by omega)]; first | rfl | decide) | (simp only [ic_size, List.length_map, List.size_toArray]; first | omega | decide) | rfl | (simp [*]; done) | (simp [*]; omega)) (h1 := by first | exact zi_one _ _ | exact ic_one _ _ | simp [opv, Value.cells, Value.oneCell']) (h := fun w7 hS => ?_) | refine m_store_vec ti35 (hS := hS) (hc := by first | exact zi_set rfl (by omega) | exact zi_whole (by omega) (by omega) | (first | exact splice_ic (by first | omega | (simp [*]; done) | (simp [*]; omega)) | exact splice_il (by first | omega | (simp [*]; done) | (simp [*]; omega)) | exact splice_whole (by first | (simp [opv, Value.cells, *]; done) | rfl) | (simp only [opv, n1, n2, Value.cells, splice, List.take_succ_cons, List.take_zero, List.drop_succ_cons, List.drop_zero, List.length_cons, List.length_nil, Nat.zero_add, Nat.reduceAdd, List.append_assoc, List.cons_append, List.nil_append]; rfl))) (hv := by first | rfl | (show (zi _ _).toArray.size = _; rw [zi_size (by omega)]; rfl) | (simp [opv, Value.cells, *]; done)) (hfit := by first | omega | (rw [zi_size (by omega)]; first | rfl | decide) | (simp only [ic_size, List.length_map, List.size_toArray]; first | omega | decide) | rfl | (simp [*]; done) | (simp [*]; omega)) (h1 := by first | exact zi_one _ _ | exact ic_one _ _ | simp [opv, Value.cells, Value.oneCell']) (h := fun w7 hS => ?_)
                try simp only [opv, n1, n2, n3, n4, Value.cells, Array.toArray_toList] at hS ⊢
                rw [set12 hkl, show (h : Int) + n = ((h + n.toNat : Nat) : Int) by omega, show (turnK s r ct it ++ (((h + n.toNat : Nat) : Int) :: nm0)) = turnA l s r ct it n by rw [turnA, hh]; rfl] at hS
                refine x_nil ?_
                refine hK15 _ _ ?_
                refine x_seq fun K16 hK16 => ?_
                refine x_region ?_
                first | refine s_go (m_load_row Try.underlying39 (hi := ti39) (hS := hS) (hfit := by first | omega | (rw [zi_size (by omega)]; first | rfl | decide) | (simp only [ic_size, List.length_map, List.size_toArray]; first | omega | decide) | rfl | (simp [*]; done) | (simp [*]; omega))) ?_ | refine s_go (m_loada_obj Try.underlying39 (hi := ti39) (hS := hS) (hfit := by first | omega | (rw [zi_size (by omega)]; first | rfl | decide) | (simp only [ic_size, List.length_map, List.size_toArray]; first | omega | decide) | rfl | (simp [*]; done) | (simp [*]; omega))) ?_ | refine s_go (m_loada_bx Try.underlying39 (hi := ti39) (hS := hS) (hfit := by first | omega | (rw [zi_size (by omega)]; first | rfl | decide) | (simp only [ic_size, List.length_map, List.size_toArray]; first | omega | decide) | rfl | (simp [*]; done) | (simp [*]; omega))) ?_ | refine s_go (m_loada_rd Try.underlying39 (hi := ti39) (hS := hS) (hfit := by first | omega | (rw [zi_size (by omega)]; first | rfl | decide) | (simp only [ic_size, List.length_map, List.size_toArray]; first | omega | decide) | rfl | (simp [*]; done) | (simp [*]; omega))) ?_ | refine s_go (m_loada_vec Try.underlying39 (hi := ti39) (hS := hS) (hfit := by first | omega | (rw [zi_size (by omega)]; first | rfl | decide) | (simp only [ic_size, List.length_map, List.size_toArray]; first | omega | decide) | rfl | (simp [*]; done) | (simp [*]; omega))) ?_
                try simp only [opv, n1, n2, n3, n4, Value.cells, List.getElem_toArray, List.getElem_cons_zero, List.getElem_cons_succ]
                refine m_buildRow (cells := (AA (turnA l s r ct it n))) Try.underlying24 ti39 (hc := by simp only [List.map_toArray, List.map_cons, List.map_nil, opv, n1, n2, n3, n4, Value.cells, List.toList_toArray]; exact fill_one (by rfl) (zi_size21 hAl) (by rfl)) (hS := hS) (h := fun w8 g8 hS => ?_)
                try simp only [opv, n1, n2, n3, n4, Value.cells, Array.toArray_toList] at hS ⊢
                replace hS := hS.obj_vec (sz := 21) (n := 1) (by exact zi_size21 hAl) (by decide) .head
                rw [arow_one hAl] at hS
                refine s_go (s_assign) ?_
                try simp only [opv, n1, n2, n3, n4, Value.cells]
                refine s_go (s_assign) ?_
                try simp only [opv, n1, n2, n3, n4, Value.cells]
                refine x_nil ?_
                refine hK16 _ _ ?_
                refine x_ret ?_
                refine r_tmp2 rfl ?_
                first
                | (rw [turnP_no (by first | exact .inl (by rw [hE]; decide) | exact .inr (by omega)), hE]; replace hS := hS.nil_vec 39 21; exact ⟨none, 0, rfl, hS.sel (by repeat (first | exact Sel.nil | (refine Sel.cons (by repeat (first | exact Del.head | apply Del.tail)) ?_)))⟩)
                | (rw [turnP_yes hE hn0, hE]; exact ⟨_, _, rfl, hS.sel (by repeat (first | exact Sel.nil | (refine Sel.cons (by repeat (first | exact Del.head | apply Del.tail)) ?_)))⟩)
theorem c_countRaise (w0 : World) (A : Option Addr) (c : Nat) (l : List (List Int)) (hr : Rd w0 A 21 l.length (arows l)) (hv : AOks l) (hn : l.length ≤ 1000000000) (r : Nat) (hr8 : r < 256) (ct : Nat) (hct : ct < 65536) (it : List Int) (h8 : it.length = 8) (hbt : Byt it) (n : Int) (hn1 : -9223372036854775808 ≤ n) (hn2 : n ≤ 9223372036854775807)  :
    CallR Try.prog 77 #[.slice A l.length c, .int .u8 (r : Int), .int .u16 (ct : Int), .agg (ic .u8 it), .int .i64 n] w0 fun v w' => ∃ A c, v = .tuple #[.slice A (turnP l 2 r ct it (n)).length c, .int .i64 (turnE l 2 r ct it (n))] ∧ St NoB w0 w' [.vec A c 39 21 (turnP l 2 r ct it (n)).length (arows (turnP l 2 r ct it (n)))] := by
 have hS := St.rd1 (S := NoB) hr
 refine c_enter (l := [.slice A l.length c, .int .u8 (r : Int), .int .u16 (ct : Int), .agg (ic .u8 it), .int .i64 n, undef, undef, undef, undef, undef, undef, undef, undef, undef, undef, undef, undef, undef, undef, undef, undef]) Try.func77 rfl (by simp only [Try.ntmps77, List.size_toArray, List.length_cons, List.length_nil, Nat.reduceAdd, Nat.reduceSub, Array.replicate_succ, Array.replicate_zero, List.push_toArray, List.append_toArray, List.nil_append, List.cons_append]) ?_
 refine x_seq fun K1 hK1 => ?_
 refine x_region ?_
 refine m_box hS (fun w1 g1 hS => ?_)
 try simp only [opv, n1, n2, n3, n4, Value.cells, Array.toArray_toList] at hS ⊢
 refine s_go (s_assign) ?_
 try simp only [opv, n1, n2, n3, n4, Value.cells]
 refine s_go (s_assign) ?_
 try simp only [opv, n1, n2, n3, n4, Value.cells]
 refine x_nil ?_
 refine hK1 _ _ ?_
 refine x_seq fun K2 hK2 => ?_
 refine x_mixed_c (Lc := [.obj g1 (.cells (ic .u8 it) 31 (0, 0)), .rd A 21 (l).length (arows (l))]) [] 0 [10, 11, 12, 13, 14, 15, 16, 17, 18, 19, 20] (fun f w => ∃ (A1 : Option Addr) (c1 : Nat), f 10 = .slice A1 (turnP l 2 r ct it n).length c1 ∧ f 11 = .int .i64 (turnE l 2 r ct it n) ∧ St NoB w0 w [.vec A1 c1 39 21 (turnP l 2 r ct it n).length (arows (turnP l 2 r ct it n))]) (by kernel_rfl) (by kernel_rfl) (by kernel_rfl) (by decide) hS (fun w2 hS => ?mixpre101) ?mixrest101
 case mixpre101 =>
  refine p_nil ?_
  simp only [List.length_cons, List.length_nil, Nat.reduceAdd, Nat.reduceSub]
  refine any_go (i := 1) (by rfl) (by decide +kernel) (by decide +kernel) noLate_nil (go_yields w_none (fun w hS => s_move)) ?_
  try simp only [opv, n1, n2, n3, n4, Value.cells]
  refine any_go (i := 2) (by rfl) (by decide +kernel) (by decide +kernel) noLate_nil (go_yields w_none (fun w hS => s_move)) ?_
  try simp only [opv, n1, n2, n3, n4, Value.cells]
  refine any_go (i := 3) (by rfl) (by decide +kernel) (by decide +kernel) noLate_nil (go_yields w_none (fun w hS => s_move)) ?_
  try simp only [opv, n1, n2, n3, n4, Value.cells]
  first | refine any_go (i := 4) (by rfl) (by decide +kernel) (by decide +kernel) noLate_nil (go_yields w_none (fun w hS => m_load_row Try.underlying31 (hi := ti31) (hS := hS) (hfit := by first | omega | (rw [zi_size (by omega)]; first | rfl | decide) | (simp only [ic_size, List.length_map, List.size_toArray]; first | omega | decide) | rfl | (simp [*]; done) | (simp [*]; omega)))) ?_ | refine any_go (i := 4) (by rfl) (by decide +kernel) (by decide +kernel) noLate_nil (go_yields w_none (fun w hS => m_loada_obj Try.underlying31 (hi := ti31) (hS := hS) (hfit := by first | omega | (rw [zi_size (by omega)]; first | rfl | decide) | (simp only [ic_size, List.length_map, List.size_toArray]; first | omega | decide) | rfl | (simp [*]; done) | (simp [*]; omega)))) ?_ | refine any_go (i := 4) (by rfl) (by decide +kernel) (by decide +kernel) noLate_nil (go_yields w_none (fun w hS => m_loada_bx Try.underlying31 (hi := ti31) (hS := hS) (hfit := by first | omega | (rw [zi_size (by omega)]; first | rfl | decide) | (simp only [ic_size, List.length_map, List.size_toArray]; first | omega | decide) | rfl | (simp [*]; done) | (simp [*]; omega)))) ?_ | refine any_go (i := 4) (by rfl) (by decide +kernel) (by decide +kernel) noLate_nil (go_yields w_none (fun w hS => m_loada_rd Try.underlying31 (hi := ti31) (hS := hS) (hfit := by first | omega | (rw [zi_size (by omega)]; first | rfl | decide) | (simp only [ic_size, List.length_map, List.size_toArray]; first | omega | decide) | rfl | (simp [*]; done) | (simp [*]; omega)))) ?_ | refine any_go (i := 4) (by rfl) (by decide +kernel) (by decide +kernel) noLate_nil (go_yields w_none (fun w hS => m_loada_vec Try.underlying31 (hi := ti31) (hS := hS) (hfit := by first | omega | (rw [zi_size (by omega)]; first | rfl | decide) | (simp only [ic_size, List.length_map, List.size_toArray]; first | omega | decide) | rfl | (simp [*]; done) | (simp [*]; omega)))) ?_
  try simp only [opv, n1, n2, n3, n4, Value.cells, List.getElem_toArray, List.getElem_cons_zero, List.getElem_cons_succ]
  refine any_go (i := 5) (by rfl) (by decide +kernel) (by decide +kernel) noLate_nil (go_yields w_none (fun w hS => s_move)) ?_
  try simp only [opv, n1, n2, n3, n4, Value.cells]
  refine any_step [0] (by kernel_rfl) (by decide) (fun w3 hE => ⟨fun _ => (hS.ext hE).sel (by repeat (first | exact Sel.nil | (refine Sel.cons (by repeat (first | exact Del.head | apply Del.tail)) ?_))), ?_⟩)
  replace hS := hS.ext hE
  intro i hi
  simp only [List.mem_cons, List.not_mem_nil, or_false] at hi
  subst hi
  ·
   refine any_op (by rfl) ?_
   refine s_call en148 ?_
   try simp only [opv, n1, n2, n3, n4, Value.cells, List.map_toArray, List.map_cons, List.map_nil, List.append_toArray, List.cons_append, List.nil_append, Array.append_empty]
   refine CallR.mono (c_countTurn 2 _) ?_
   rintro _ w4 ⟨b4, rfl, hC4⟩
   replace hS := hS.call hC4
   simp only [List.cons_append, List.nil_append] at hS
   replace hS := hS.obj_rd (sz := 1) (n := 1) rfl .head
   try simp only [opv, n1, n2, n3, n4, Value.cells]
   refine x_nil ?_
   refine any_step [6] (by kernel_rfl) (by decide) (fun w5 hE => ⟨fun _ => (hS.ext hE).sel (by repeat (first | exact Sel.nil | (refine Sel.cons (by repeat (first | exact Del.head | apply Del.tail)) ?_))), ?_⟩)
   replace hS := hS.ext hE
   intro i hi
   simp only [List.mem_cons, List.not_mem_nil, or_false] at hi
   subst hi
   ·
    refine any_op (by rfl) ?_
    refine s_callv (hv := rfl) en183 ?_
    try simp only [opv, n1, n2, n3, n4, Value.cells, List.map_toArray, List.map_cons, List.map_nil, List.append_toArray, List.cons_append, List.nil_append, Array.append_empty]
    refine CallR.mono (c_countTurn1 _ A c l (hS.hasRd (by repeat (first | exact Has.head | apply Has.tail))) hv hn r hr8 ct hct it h8 hbt n hn1 hn2 2 (by decide) _ (hS.hasRd (by repeat (first | exact Has.head | apply Has.tail)))) ?_
    rintro _ w6 ⟨A6, c6, rfl, hC6⟩
    replace hS := hS.call hC6
    simp only [List.cons_append, List.nil_append] at hS
    try simp only [opv, n1, n2, n3, n4, Value.cells]
    refine x_nil ?_
    refine any_go (i := 7) (by rfl) (by decide +kernel) (by decide +kernel) noLate_nil (go_yields w_none (fun w hS => s_extract (hv := rfl))) ?_
    try simp only [List.getElem_toArray, List.getElem_cons_zero, List.getElem_cons_succ]
    try simp only [opv, n1, n2, n3, n4, Value.cells]
    refine any_go (i := 8) (by rfl) (by decide +kernel) (by decide +kernel) noLate_nil (go_yields w_none (fun w hS => s_extract (hv := rfl))) ?_
    try simp only [List.getElem_toArray, List.getElem_cons_zero, List.getElem_cons_succ]
    try simp only [opv, n1, n2, n3, n4, Value.cells]
    refine any_go (i := 9) (by rfl) (by decide +kernel) (by decide +kernel) noLate_nil (go_yields w_none (fun w hS => s_assign)) ?_
    try simp only [opv, n1, n2, n3, n4, Value.cells]
    refine any_go (i := 10) (by rfl) (by decide +kernel) (by decide +kernel) noLate_nil (go_yields w_none (fun w hS => s_assign)) ?_
    try simp only [opv, n1, n2, n3, n4, Value.cells]
    refine any_nil (by kernel_rfl) (fun w7 hE => ?_)
    replace hS := hS.ext hE
    refine ⟨fun _ => hS.sel (by repeat (first | exact Sel.nil | (refine Sel.cons (by repeat (first | exact Del.head | apply Del.tail)) ?_))), ?_⟩
    refine mix_leaf (by simp only [clob, List.foldl, n1, n2, n3, n4]) ?_
    try simp only [n1, n2]
    exact ⟨_, _, by first | trivial | rfl, by first | trivial | rfl, hS.sel (by repeat (first | exact Sel.nil | (refine Sel.cons (by repeat (first | exact Del.head | apply Del.tail)) ?_)))⟩
 intro fm1 w8 hM
 obtain ⟨A1, c1, h10, h11, hS⟩ := hM
 simp only [clob, List.foldl, n3, n4, h10, h11]
 refine hK2 _ _ ?_
 refine x_ret ?_
 refine r_tmp2 rfl ?_
 exact ⟨_, _, rfl, hS.sel (by repeat (first | exact Sel.nil | (refine Sel.cons (by repeat (first | exact Del.head | apply Del.tail)) ?_)))⟩
theorem c_countLower (w0 : World) (A : Option Addr) (c : Nat) (l : List (List Int)) (hr : Rd w0 A 21 l.length (arows l)) (hv : AOks l) (hn : l.length ≤ 1000000000) (r : Nat) (hr8 : r < 256) (ct : Nat) (hct : ct < 65536) (it : List Int) (h8 : it.length = 8) (hbt : Byt it) (n : Int) (hn1 : -9223372036854775808 ≤ n) (hn2 : n ≤ 9223372036854775807)  :
    CallR Try.prog 79 #[.slice A l.length c, .int .u8 (r : Int), .int .u16 (ct : Int), .agg (ic .u8 it), .int .i64 n] w0 fun v w' => ∃ A c, v = .tuple #[.slice A (turnP l 3 r ct it (n)).length c, .int .i64 (turnE l 3 r ct it (n))] ∧ St NoB w0 w' [.vec A c 39 21 (turnP l 3 r ct it (n)).length (arows (turnP l 3 r ct it (n)))] := by
 have hS := St.rd1 (S := NoB) hr
 refine c_enter (l := [.slice A l.length c, .int .u8 (r : Int), .int .u16 (ct : Int), .agg (ic .u8 it), .int .i64 n, undef, undef, undef, undef, undef, undef, undef, undef, undef, undef, undef, undef, undef, undef, undef, undef]) Try.func79 rfl (by simp only [Try.ntmps79, List.size_toArray, List.length_cons, List.length_nil, Nat.reduceAdd, Nat.reduceSub, Array.replicate_succ, Array.replicate_zero, List.push_toArray, List.append_toArray, List.nil_append, List.cons_append]) ?_
 refine x_seq fun K1 hK1 => ?_
 refine x_region ?_
 refine m_box hS (fun w1 g1 hS => ?_)
 try simp only [opv, n1, n2, n3, n4, Value.cells, Array.toArray_toList] at hS ⊢
 refine s_go (s_assign) ?_
 try simp only [opv, n1, n2, n3, n4, Value.cells]
 refine s_go (s_assign) ?_
 try simp only [opv, n1, n2, n3, n4, Value.cells]
 refine x_nil ?_
 refine hK1 _ _ ?_
 refine x_seq fun K2 hK2 => ?_
 refine x_mixed_c (Lc := [.obj g1 (.cells (ic .u8 it) 31 (0, 0)), .rd A 21 (l).length (arows (l))]) [] 0 [10, 11, 12, 13, 14, 15, 16, 17, 18, 19, 20] (fun f w => ∃ (A1 : Option Addr) (c1 : Nat), f 10 = .slice A1 (turnP l 3 r ct it n).length c1 ∧ f 11 = .int .i64 (turnE l 3 r ct it n) ∧ St NoB w0 w [.vec A1 c1 39 21 (turnP l 3 r ct it n).length (arows (turnP l 3 r ct it n))]) (by kernel_rfl) (by kernel_rfl) (by kernel_rfl) (by decide) hS (fun w2 hS => ?mixpre101) ?mixrest101
 case mixpre101 =>
  refine p_nil ?_
  simp only [List.length_cons, List.length_nil, Nat.reduceAdd, Nat.reduceSub]
  refine any_go (i := 1) (by rfl) (by decide +kernel) (by decide +kernel) noLate_nil (go_yields w_none (fun w hS => s_move)) ?_
  try simp only [opv, n1, n2, n3, n4, Value.cells]
  refine any_go (i := 2) (by rfl) (by decide +kernel) (by decide +kernel) noLate_nil (go_yields w_none (fun w hS => s_move)) ?_
  try simp only [opv, n1, n2, n3, n4, Value.cells]
  refine any_go (i := 3) (by rfl) (by decide +kernel) (by decide +kernel) noLate_nil (go_yields w_none (fun w hS => s_move)) ?_
  try simp only [opv, n1, n2, n3, n4, Value.cells]
  first | refine any_go (i := 4) (by rfl) (by decide +kernel) (by decide +kernel) noLate_nil (go_yields w_none (fun w hS => m_load_row Try.underlying31 (hi := ti31) (hS := hS) (hfit := by first | omega | (rw [zi_size (by omega)]; first | rfl | decide) | (simp only [ic_size, List.length_map, List.size_toArray]; first | omega | decide) | rfl | (simp [*]; done) | (simp [*]; omega)))) ?_ | refine any_go (i := 4) (by rfl) (by decide +kernel) (by decide +kernel) noLate_nil (go_yields w_none (fun w hS => m_loada_obj Try.underlying31 (hi := ti31) (hS := hS) (hfit := by first | omega | (rw [zi_size (by omega)]; first | rfl | decide) | (simp only [ic_size, List.length_map, List.size_toArray]; first | omega | decide) | rfl | (simp [*]; done) | (simp [*]; omega)))) ?_ | refine any_go (i := 4) (by rfl) (by decide +kernel) (by decide +kernel) noLate_nil (go_yields w_none (fun w hS => m_loada_bx Try.underlying31 (hi := ti31) (hS := hS) (hfit := by first | omega | (rw [zi_size (by omega)]; first | rfl | decide) | (simp only [ic_size, List.length_map, List.size_toArray]; first | omega | decide) | rfl | (simp [*]; done) | (simp [*]; omega)))) ?_ | refine any_go (i := 4) (by rfl) (by decide +kernel) (by decide +kernel) noLate_nil (go_yields w_none (fun w hS => m_loada_rd Try.underlying31 (hi := ti31) (hS := hS) (hfit := by first | omega | (rw [zi_size (by omega)]; first | rfl | decide) | (simp only [ic_size, List.length_map, List.size_toArray]; first | omega | decide) | rfl | (simp [*]; done) | (simp [*]; omega)))) ?_ | refine any_go (i := 4) (by rfl) (by decide +kernel) (by decide +kernel) noLate_nil (go_yields w_none (fun w hS => m_loada_vec Try.underlying31 (hi := ti31) (hS := hS) (hfit := by first | omega | (rw [zi_size (by omega)]; first | rfl | decide) | (simp only [ic_size, List.length_map, List.size_toArray]; first | omega | decide) | rfl | (simp [*]; done) | (simp [*]; omega)))) ?_
  try simp only [opv, n1, n2, n3, n4, Value.cells, List.getElem_toArray, List.getElem_cons_zero, List.getElem_cons_succ]
  refine any_go (i := 5) (by rfl) (by decide +kernel) (by decide +kernel) noLate_nil (go_yields w_none (fun w hS => s_move)) ?_
  try simp only [opv, n1, n2, n3, n4, Value.cells]
  refine any_step [0] (by kernel_rfl) (by decide) (fun w3 hE => ⟨fun _ => (hS.ext hE).sel (by repeat (first | exact Sel.nil | (refine Sel.cons (by repeat (first | exact Del.head | apply Del.tail)) ?_))), ?_⟩)
  replace hS := hS.ext hE
  intro i hi
  simp only [List.mem_cons, List.not_mem_nil, or_false] at hi
  subst hi
  ·
   refine any_op (by rfl) ?_
   refine s_call en148 ?_
   try simp only [opv, n1, n2, n3, n4, Value.cells, List.map_toArray, List.map_cons, List.map_nil, List.append_toArray, List.cons_append, List.nil_append, Array.append_empty]
   refine CallR.mono (c_countTurn 3 _) ?_
   rintro _ w4 ⟨b4, rfl, hC4⟩
   replace hS := hS.call hC4
   simp only [List.cons_append, List.nil_append] at hS
   replace hS := hS.obj_rd (sz := 1) (n := 1) rfl .head
   try simp only [opv, n1, n2, n3, n4, Value.cells]
   refine x_nil ?_
   refine any_step [6] (by kernel_rfl) (by decide) (fun w5 hE => ⟨fun _ => (hS.ext hE).sel (by repeat (first | exact Sel.nil | (refine Sel.cons (by repeat (first | exact Del.head | apply Del.tail)) ?_))), ?_⟩)
   replace hS := hS.ext hE
   intro i hi
   simp only [List.mem_cons, List.not_mem_nil, or_false] at hi
   subst hi
   ·
    refine any_op (by rfl) ?_
    refine s_callv (hv := rfl) en183 ?_
    try simp only [opv, n1, n2, n3, n4, Value.cells, List.map_toArray, List.map_cons, List.map_nil, List.append_toArray, List.cons_append, List.nil_append, Array.append_empty]
    refine CallR.mono (c_countTurn1 _ A c l (hS.hasRd (by repeat (first | exact Has.head | apply Has.tail))) hv hn r hr8 ct hct it h8 hbt n hn1 hn2 3 (by decide) _ (hS.hasRd (by repeat (first | exact Has.head | apply Has.tail)))) ?_
    rintro _ w6 ⟨A6, c6, rfl, hC6⟩
    replace hS := hS.call hC6
    simp only [List.cons_append, List.nil_append] at hS
    try simp only [opv, n1, n2, n3, n4, Value.cells]
    refine x_nil ?_
    refine any_go (i := 7) (by rfl) (by decide +kernel) (by decide +kernel) noLate_nil (go_yields w_none (fun w hS => s_extract (hv := rfl))) ?_
    try simp only [List.getElem_toArray, List.getElem_cons_zero, List.getElem_cons_succ]
    try simp only [opv, n1, n2, n3, n4, Value.cells]
    refine any_go (i := 8) (by rfl) (by decide +kernel) (by decide +kernel) noLate_nil (go_yields w_none (fun w hS => s_extract (hv := rfl))) ?_
    try simp only [List.getElem_toArray, List.getElem_cons_zero, List.getElem_cons_succ]
    try simp only [opv, n1, n2, n3, n4, Value.cells]
    refine any_go (i := 9) (by rfl) (by decide +kernel) (by decide +kernel) noLate_nil (go_yields w_none (fun w hS => s_assign)) ?_
    try simp only [opv, n1, n2, n3, n4, Value.cells]
    refine any_go (i := 10) (by rfl) (by decide +kernel) (by decide +kernel) noLate_nil (go_yields w_none (fun w hS => s_assign)) ?_
    try simp only [opv, n1, n2, n3, n4, Value.cells]
    refine any_nil (by kernel_rfl) (fun w7 hE => ?_)
    replace hS := hS.ext hE
    refine ⟨fun _ => hS.sel (by repeat (first | exact Sel.nil | (refine Sel.cons (by repeat (first | exact Del.head | apply Del.tail)) ?_))), ?_⟩
    refine mix_leaf (by simp only [clob, List.foldl, n1, n2, n3, n4]) ?_
    try simp only [n1, n2]
    exact ⟨_, _, by first | trivial | rfl, by first | trivial | rfl, hS.sel (by repeat (first | exact Sel.nil | (refine Sel.cons (by repeat (first | exact Del.head | apply Del.tail)) ?_)))⟩
 intro fm1 w8 hM
 obtain ⟨A1, c1, h10, h11, hS⟩ := hM
 simp only [clob, List.foldl, n3, n4, h10, h11]
 refine hK2 _ _ ?_
 refine x_ret ?_
 refine r_tmp2 rfl ?_
 exact ⟨_, _, rfl, hS.sel (by repeat (first | exact Sel.nil | (refine Sel.cons (by repeat (first | exact Del.head | apply Del.tail)) ?_)))⟩

def shiftS (n : Int) : Nat := if 0 ≤ n then 2 else 3
def shiftN (n : Int) : Int := if 0 ≤ n then n else -(max n (-4294967296))
theorem shift_p {n : Int} (h : 0 ≤ n) : shiftS n = 2 ∧ shiftN n = n := ⟨if_pos h, if_pos h⟩
theorem shift_m {n : Int} (h : ¬ 0 ≤ n) : shiftS n = 3 ∧ shiftN n = -(max n (-4294967296)) := ⟨if_neg h, if_neg h⟩
theorem shiftS_or (n : Int) : shiftS n = 2 ∨ shiftS n = 3 := by unfold shiftS; split <;> simp
theorem shiftN_le {n : Int} (h : n ≤ 9223372036854775807) : shiftN n ≤ 9223372036854775807 ∧ 0 ≤ shiftN n := by unfold shiftN; split <;> omega

theorem c_countShift (w0 : World) (A : Option Addr) (c : Nat) (l : List (List Int)) (hr : Rd w0 A 21 l.length (arows l)) (hv : AOks l) (hn : l.length ≤ 1000000000) (r : Nat) (hr8 : r < 256) (ct : Nat) (hct : ct < 65536) (it : List Int) (h8 : it.length = 8) (hbt : Byt it) (n : Int) (hn1 : -9223372036854775808 ≤ n) (hn2 : n ≤ 9223372036854775807)  :
    CallR Try.prog 80 #[.slice A l.length c, .int .u8 (r : Int), .int .u16 (ct : Int), .agg (ic .u8 it), .int .i64 n] w0 fun v w' => ∃ A c, v = .tuple #[.slice A (turnP l (shiftS n) r ct it (shiftN n)).length c, .int .i64 (turnE l (shiftS n) r ct it (shiftN n))] ∧ St NoB w0 w' [.vec A c 39 21 (turnP l (shiftS n) r ct it (shiftN n)).length (arows (turnP l (shiftS n) r ct it (shiftN n)))] := by
 have hS := St.rd1 (S := NoB) hr
 refine c_enter (l := [.slice A l.length c, .int .u8 (r : Int), .int .u16 (ct : Int), .agg (ic .u8 it), .int .i64 n, undef, undef, undef, undef, undef, undef, undef, undef, undef, undef, undef, undef, undef, undef, undef, undef, undef, undef, undef, undef, undef, undef, undef, undef, undef, undef, undef]) Try.func80 rfl (by simp only [Try.ntmps80, List.size_toArray, List.length_cons, List.length_nil, Nat.reduceAdd, Nat.reduceSub, Array.replicate_succ, Array.replicate_zero, List.push_toArray, List.append_toArray, List.nil_append, List.cons_append]) ?_
 refine x_seq fun K1 hK1 => ?_
 refine x_region ?_
 refine m_box hS (fun w1 g1 hS => ?_)
 try simp only [opv, n1, n2, n3, n4, Value.cells, Array.toArray_toList] at hS ⊢
 refine s_go (s_assign) ?_
 try simp only [opv, n1, n2, n3, n4, Value.cells]
 refine s_go (s_assign) ?_
 try simp only [opv, n1, n2, n3, n4, Value.cells]
 refine x_nil ?_
 refine hK1 _ _ ?_
 refine x_seq fun K2 hK2 => ?_
 refine x_seq fun K3 hK3 => ?_
 refine x_region ?_
 refine s_go (s_move) ?_
 try simp only [opv, n1, n2, n3, n4, Value.cells]
 refine s_go (s_geq) ?_
 try simp only [opv, n1, n2, n3, n4, Value.cells]
 refine x_nil ?_
 refine hK3 _ _ ?_
 refine x_cond (ht := fun hc1 => ?_) (hf := fun hc1 => ?_)
 ·
  try simp only [decide_eq_true_eq, decide_eq_false_iff_not, Bool.not_eq_true', Bool.not_eq_false', Int.not_lt, Int.not_le, ne_eq, Decidable.not_not, bne_iff_ne, beq_iff_eq, not_true_eq_false, not_false_eq_true] at hc1
  obtain ⟨e1, e2⟩ := shift_p hc1
  refine x_seq fun K4 hK4 => ?_
  refine x_region ?_
  refine s_go (s_move) ?_
  try simp only [opv, n1, n2, n3, n4, Value.cells]
  refine s_go (s_move) ?_
  try simp only [opv, n1, n2, n3, n4, Value.cells]
  refine s_go (s_move) ?_
  try simp only [opv, n1, n2, n3, n4, Value.cells]
  first | refine s_go (m_load_row Try.underlying31 (hi := ti31) (hS := hS) (hfit := by first | omega | (rw [zi_size (by omega)]; first | rfl | decide) | (simp only [ic_size, List.length_map, List.size_toArray]; first | omega | decide) | rfl | (simp [*]; done) | (simp [*]; omega))) ?_ | refine s_go (m_loada_obj Try.underlying31 (hi := ti31) (hS := hS) (hfit := by first | omega | (rw [zi_size (by omega)]; first | rfl | decide) | (simp only [ic_size, List.length_map, List.size_toArray]; first | omega | decide) | rfl | (simp [*]; done) | (simp [*]; omega))) ?_ | refine s_go (m_loada_bx Try.underlying31 (hi := ti31) (hS := hS) (hfit := by first | omega | (rw [zi_size (by omega)]; first | rfl | decide) | (simp only [ic_size, List.length_map, List.size_toArray]; first | omega | decide) | rfl | (simp [*]; done) | (simp [*]; omega))) ?_ | refine s_go (m_loada_rd Try.underlying31 (hi := ti31) (hS := hS) (hfit := by first | omega | (rw [zi_size (by omega)]; first | rfl | decide) | (simp only [ic_size, List.length_map, List.size_toArray]; first | omega | decide) | rfl | (simp [*]; done) | (simp [*]; omega))) ?_ | refine s_go (m_loada_vec Try.underlying31 (hi := ti31) (hS := hS) (hfit := by first | omega | (rw [zi_size (by omega)]; first | rfl | decide) | (simp only [ic_size, List.length_map, List.size_toArray]; first | omega | decide) | rfl | (simp [*]; done) | (simp [*]; omega))) ?_
  try simp only [opv, n1, n2, n3, n4, Value.cells, List.getElem_toArray, List.getElem_cons_zero, List.getElem_cons_succ]
  refine s_go (s_move) ?_
  try simp only [opv, n1, n2, n3, n4, Value.cells]
  refine s_call en77 ?_
  try simp only [opv, n1, n2, n3, n4, Value.cells, List.map_toArray, List.map_cons, List.map_nil, List.append_toArray, List.cons_append, List.nil_append, Array.append_empty]
  refine CallR.mono (c_countRaise _ A c l (hS.hasRd (by repeat (first | exact Has.head | apply Has.tail))) hv hn r hr8 ct hct it h8 hbt n hn1 hn2) ?_
  rintro _ w2 ⟨A2, c2, rfl, hC2⟩
  replace hS := hS.call hC2
  simp only [List.cons_append, List.nil_append] at hS
  try simp only [opv, n1, n2, n3, n4, Value.cells]
  refine s_go (s_extract (hv := rfl)) ?_
  try simp only [List.getElem_toArray, List.getElem_cons_zero, List.getElem_cons_succ]
  try simp only [opv, n1, n2, n3, n4, Value.cells]
  refine s_go (s_extract (hv := rfl)) ?_
  try simp only [List.getElem_toArray, List.getElem_cons_zero, List.getElem_cons_succ]
  try simp only [opv, n1, n2, n3, n4, Value.cells]
  refine s_go (s_assign) ?_
  try simp only [opv, n1, n2, n3, n4, Value.cells]
  refine s_go (s_assign) ?_
  try simp only [opv, n1, n2, n3, n4, Value.cells]
  refine x_nil ?_
  refine hK4 _ _ ?_
  refine x_ret ?_
  refine r_tmp2 rfl ?_
  rw [e1, e2]
  exact ⟨_, _, rfl, hS.sel (by repeat (first | exact Sel.nil | (refine Sel.cons (by repeat (first | exact Del.head | apply Del.tail)) ?_)))⟩
 ·
  try simp only [decide_eq_true_eq, decide_eq_false_iff_not, Bool.not_eq_true', Bool.not_eq_false', Int.not_lt, Int.not_le, ne_eq, Decidable.not_not, bne_iff_ne, beq_iff_eq, not_true_eq_false, not_false_eq_true] at hc1
  obtain ⟨e1, e2⟩ := shift_m (n := n) (by omega)
  refine x_skip ?_
  refine hK2 _ _ ?_
  refine x_seq fun K5 hK5 => ?_
  refine x_region ?_
  refine s_go (s_move) ?_
  try simp only [opv, n1, n2, n3, n4, Value.cells]
  refine s_go (s_move) ?_
  try simp only [opv, n1, n2, n3, n4, Value.cells]
  refine s_go (s_move) ?_
  try simp only [opv, n1, n2, n3, n4, Value.cells]
  first | refine s_go (m_load_row Try.underlying31 (hi := ti31) (hS := hS) (hfit := by first | omega | (rw [zi_size (by omega)]; first | rfl | decide) | (simp only [ic_size, List.length_map, List.size_toArray]; first | omega | decide) | rfl | (simp [*]; done) | (simp [*]; omega))) ?_ | refine s_go (m_loada_obj Try.underlying31 (hi := ti31) (hS := hS) (hfit := by first | omega | (rw [zi_size (by omega)]; first | rfl | decide) | (simp only [ic_size, List.length_map, List.size_toArray]; first | omega | decide) | rfl | (simp [*]; done) | (simp [*]; omega))) ?_ | refine s_go (m_loada_bx Try.underlying31 (hi := ti31) (hS := hS) (hfit := by first | omega | (rw [zi_size (by omega)]; first | rfl | decide) | (simp only [ic_size, List.length_map, List.size_toArray]; first | omega | decide) | rfl | (simp [*]; done) | (simp [*]; omega))) ?_ | refine s_go (m_loada_rd Try.underlying31 (hi := ti31) (hS := hS) (hfit := by first | omega | (rw [zi_size (by omega)]; first | rfl | decide) | (simp only [ic_size, List.length_map, List.size_toArray]; first | omega | decide) | rfl | (simp [*]; done) | (simp [*]; omega))) ?_ | refine s_go (m_loada_vec Try.underlying31 (hi := ti31) (hS := hS) (hfit := by first | omega | (rw [zi_size (by omega)]; first | rfl | decide) | (simp only [ic_size, List.length_map, List.size_toArray]; first | omega | decide) | rfl | (simp [*]; done) | (simp [*]; omega))) ?_
  try simp only [opv, n1, n2, n3, n4, Value.cells, List.getElem_toArray, List.getElem_cons_zero, List.getElem_cons_succ]
  refine s_go (s_move) ?_
  try simp only [opv, n1, n2, n3, n4, Value.cells]
  refine s_go (s_max) ?_
  try simp only [opv, n1, n2, n3, n4, Value.cells]
  refine s_go (s_neg (hc := by first | exact wr_i64 (by omega) (by omega) | rfl)) ?_
  try simp only [opv, n1, n2, n3, n4, Value.cells]
  refine s_call en79 ?_
  try simp only [opv, n1, n2, n3, n4, Value.cells, List.map_toArray, List.map_cons, List.map_nil, List.append_toArray, List.cons_append, List.nil_append, Array.append_empty]
  refine CallR.mono (c_countLower _ A c l (hS.hasRd (by repeat (first | exact Has.head | apply Has.tail))) hv hn r hr8 ct hct it h8 hbt (-(max n (-4294967296))) (by omega) (by omega)) ?_
  rintro _ w3 ⟨A3, c3, rfl, hC3⟩
  replace hS := hS.call hC3
  simp only [List.cons_append, List.nil_append] at hS
  try simp only [opv, n1, n2, n3, n4, Value.cells]
  refine s_go (s_extract (hv := rfl)) ?_
  try simp only [List.getElem_toArray, List.getElem_cons_zero, List.getElem_cons_succ]
  try simp only [opv, n1, n2, n3, n4, Value.cells]
  refine s_go (s_extract (hv := rfl)) ?_
  try simp only [List.getElem_toArray, List.getElem_cons_zero, List.getElem_cons_succ]
  try simp only [opv, n1, n2, n3, n4, Value.cells]
  refine s_go (s_assign) ?_
  try simp only [opv, n1, n2, n3, n4, Value.cells]
  refine s_go (s_assign) ?_
  try simp only [opv, n1, n2, n3, n4, Value.cells]
  refine x_nil ?_
  refine hK5 _ _ ?_
  refine x_ret ?_
  refine r_tmp2 rfl ?_
  rw [e1, e2]
  exact ⟨_, _, rfl, hS.sel (by repeat (first | exact Sel.nil | (refine Sel.cons (by repeat (first | exact Del.head | apply Del.tail)) ?_)))⟩
end Go.Proofs.Ytmgacmkikefpjaa
set_option linter.unusedSimpArgs false
set_option linter.unusedVariables false
set_option maxHeartbeats 1000000
set_option maxRecDepth 100000
namespace Go.Proofs.Ytmgacmkikefpjaa
open Go.RowKit

abbrev ask15Ks : List IntKind := [.u8, .u16, .u8, .u8, .u8, .u8, .u8, .u8, .u8, .u8, .i64]
def ask15 (r c : Nat) (it : List Int) (n : Int) : List Int := ((r : Int) :: (c : Int) :: it) ++ [n]
abbrev KAsk15 (r c : Nat) (it : List Int) (n : Int) : Array Value := (zi ask15Ks (ask15 r c it n)).toArray
theorem ask15_len {r c : Nat} {it : List Int} {n : Int} (h : it.length = 8) : (ask15 r c it n).length = 11 := by simp [ask15, h]
theorem ask15_text {r c : Nat} {it : List Int} {n : Int} (h : it.length = 8) : (((KAsk15 r c it n).toList.drop 2).take 8).toArray = ic .u8 it := by
  match it, h with
  | [_, _, _, _, _, _, _, _], _ => rfl
theorem ask15_n {r c : Nat} {it : List Int} {n : Int} (h : it.length = 8) : (ask15 r c it n).getD 10 0 = n := by
  match it, h with
  | [_, _, _, _, _, _, _, _], _ => rfl
/-- how many of an item a state has -/
def totA (c : Nat) (it : List Int) (a : List Int) : Int := if (kn a 0 = 2 ∨ kn a 0 = 3) ∧ kn a 1 = c ∧ kitem (akey a) = it then (if kn a 0 = 2 then (kn (aval a) 0 : Int) else -(kn (aval a) 0 : Int)) else 0
def totL (s : List (List Int)) (c : Nat) (it : List Int) : Int := (s.map (totA c it)).sum
theorem tot_take {s : List (List Int)} {k : Nat} {x : List Int} {c : Nat} {it : List Int} (hk : k < s.length) (hx : s.getD k [] = x) : totL (s.take (k + 1)) c it = totL (s.take k) c it + totA c it x := by
  rw [take_snoc hk, hx, totL, List.map_append, List.sum_append, totL]; simp
theorem totA_le {a : List Int} {c : Nat} {it : List Int} (ha : AtomOk a) (hr : atomR a = true) : -4294967295 ≤ totA c it a ∧ totA c it a ≤ 4294967295 := by
  unfold totA
  split
  · next h =>
    rw [atomR, Bool.and_eq_true] at hr
    have hv := hr.2
    unfold valR at hv
    rw [if_neg (by omega), if_pos (by omega), Bool.and_eq_true, decide_eq_true_eq] at hv
    split <;> omega
  · omega
theorem tot_le {c : Nat} {it : List Int} : ∀ {s : List (List Int)}, StaR s → -(4294967295 * (s.length : Int)) ≤ totL s c it ∧ totL s c it ≤ 4294967295 * (s.length : Int)
  | [], _ => by simp [totL]
  | a :: s, h => by
    have h1 := tot_le (c := c) (it := it) h.tail
    have h2 := totA_le (c := c) (it := it) (h.ok a (by simp)) (h.right a (by simp))
    have e : totL (a :: s) c it = totA c it a + totL s c it := rfl
    rw [e, List.length_cons]; omega

theorem c_countTotal (w0 : World) (A : Option Addr) (c : Nat) (l : List (List Int)) (hr : Rd w0 A 21 l.length (arows l)) (hv : AOks l) (hn : l.length ≤ 1000000000) (ct : Nat) (hct : ct < 65536) (it : List Int) (h8 : it.length = 8)  :
    CallR Try.prog 82 #[.slice A l.length c, .int .u16 (ct : Int), .agg (ic .u8 it)] w0 fun v w' => v = .int .i64 (totL (normP l) ct it) ∧ Ext w0 w' := by
 have hS := St.rd1 (S := NoB) hr
 have hno := (norm_sta hv).ok
 have hkn := (norm_sta hv).knd
 have hnl := arows_len (normP l)
 have hnb := norm_len l
 have hsn := norm_sta hv
 refine y_enter (l := [.slice A l.length c, .int .u16 (ct : Int), .agg (ic .u8 it), undef, undef, undef, undef, undef, undef, undef, undef, undef, undef, undef, undef, undef, undef, undef, undef, undef, undef, undef, undef, undef, undef, undef, undef, undef, undef, undef, undef, undef, undef, undef, undef, undef, undef, undef, undef, undef, undef, undef]) Try.func82 rfl (by simp only [Try.ntmps82, List.size_toArray, List.length_cons, List.length_nil, Nat.reduceAdd, Nat.reduceSub, Array.replicate_succ, Array.replicate_zero, List.push_toArray, List.append_toArray, List.nil_append, List.cons_append]) ?_
 refine y_seq fun K1 hK1 => ?_
 refine y_region (by kernel_rfl) ?_
 refine m_box hS (fun w1 g1 hS => ?_)
 try simp only [opv, n1, n2, n3, n4, Value.cells, Array.toArray_toList] at hS ⊢
 obtain ⟨gc, hgc⟩ : ∃ z, z = g1 := ⟨_, rfl⟩
 rw [← hgc] at hS ⊢
 refine m_box hS (fun w2 g2 hS => ?_)
 try simp only [opv, n1, n2, n3, n4, Value.cells, Array.toArray_toList] at hS ⊢
 obtain ⟨gi, hgi⟩ : ∃ z, z = g2 := ⟨_, rfl⟩
 rw [← hgi] at hS ⊢
 refine m_alloc ti3 hS (fun w3 g3 hS => ?_)
 try simp only [opv, n1, n2, n3, n4, Value.cells, Array.toArray_toList] at hS ⊢
 obtain ⟨gn, hgn⟩ : ∃ z, z = g3 := ⟨_, rfl⟩
 rw [← hgn] at hS ⊢
 refine y_nilf ?_
 refine hK1 _ _ ?_
 refine y_seq fun K2 hK2 => ?_
 refine y_seq fun K3 hK3 => ?_
 refine y_region (by kernel_rfl) ?_
 refine s_go (s_move) ?_
 try simp only [opv, n1, n2, n3, n4, Value.cells]
 refine s_call en23 ?_
 try simp only [opv, n1, n2, n3, n4, Value.cells, List.map_toArray, List.map_cons, List.map_nil, List.append_toArray, List.cons_append, List.nil_append, Array.append_empty]
 refine CallR.mono (c_latEach A c l _) ?_
 rintro _ w4 ⟨b, rfl, hC4⟩
 replace hS := hS.call hC4
 simp only [List.cons_append, List.nil_append] at hS
 try simp only [opv, n1, n2, n3, n4, Value.cells]
 refine y_nilf ?_
 refine hK3 _ _ ?_
 refine y_block ?_
 refine y_range rfl en108 (i_latEach b A c l hv hn) (fun _ => rfl) hS (by repeat (first | exact Spl.nil | (apply Spl.cons (by repeat (first | exact Del.head | apply Del.tail))))) (fun k L => k ≤ (normP l).length ∧ L = [.obj gn (.cells #[.int .i64 (totL ((normP l).take k) ct it)] 3 (0, 0)), .obj gi (.cells (ic .u8 it) 31 (0, 0)), .obj gc (.cells #[.int .u16 (ct : Int)] 29 (0, 0))]) (fun L => False) [] ?rfh1 ?rfr1 (fun D1 T1 w5 R1 hC hS => ?rfd1) (fun D1 T1 w6 R1 hX hS => ?rft1) ?rfe1
 case rfh1 =>
  exact ⟨Nat.zero_le _, rfl⟩
 case rfr1 =>
  intro k1 w7 R1 T1 lr1 hk1 hC hS
  obtain ⟨hk0, rfl⟩ := hC
  simp only [List.cons_append, List.nil_append] at hS
  simp only [List.toList_toArray, entL, List.zip_cons_cons, List.zip_nil_left, List.foldl_cons, List.foldl_nil, n3, n4]
  obtain ⟨x, hx⟩ : ∃ x, (normP l).getD k1 [] = x := ⟨_, rfl⟩
  have ha : AtomOk x := by rw [← hx]; exact hno.get (by omega)
  have hal := ha.len
  have hk12 := ha.key.len
  have hvx := ha.val
  have hx9 := hvx.len
  simp only [hx]
  have hkx := ha.key
  have hk01 := akey_k hal
  have htk := tot_take (c := ct) (it := it) hk1 hx
  have hb1 := tot_le (c := ct) (it := it) (hsn.sub (List.take_sublist k1 _))
  have hb2 := tot_le (c := ct) (it := it) (hsn.sub (List.take_sublist (k1 + 1) _))
  rw [List.length_take] at hb1 hb2
  have hil := kitem_len hkx.len
  refine y_seq fun K4 hK4 => ?_
  refine y_region (by kernel_rfl) ?_
  refine m_alloc ti34 hS (fun w8 g8 hS => ?_)
  try simp only [opv, n1, n2, n3, n4, Value.cells, Array.toArray_toList] at hS ⊢
  have h0l : key0.length = 12 := rfl
  replace hS : St _ _ w8 (.obj g8 (.cells (KA key0) 34 (0, 0)) :: _) := hS
  first | refine m_store_obj ti34 (hS := hS) (hc := by first | exact zi_set rfl (by omega) | exact zi_whole (by omega) (by omega) | (first | exact splice_ic (by first | omega | (simp [*]; done) | (simp [*]; omega)) | exact splice_il (by first | omega | (simp [*]; done) | (simp [*]; omega)) | exact splice_whole (by first | (simp [opv, Value.cells, *]; done) | rfl) | (simp only [opv, n1, n2, Value.cells, splice, List.take_succ_cons, List.take_zero, List.drop_succ_cons, List.drop_zero, List.length_cons, List.length_nil, Nat.zero_add, Nat.reduceAdd, List.append_assoc, List.cons_append, List.nil_append]; rfl))) (hv := by first | rfl | (show (zi _ _).toArray.size = _; rw [zi_size (by omega)]; rfl) | (simp [opv, Value.cells, *]; done)) (hfit := by first | omega | (rw [zi_size (by omega)]; first | rfl | decide) | (simp only [ic_size, List.length_map, List.size_toArray]; first | omega | decide) | rfl | (simp [*]; done) | (simp [*]; omega)) (h1 := by first | exact zi_one _ _ | exact ic_one _ _ | simp [opv, Value.cells, Value.oneCell']) (h := fun w9 hS => ?_) | refine m_store_vec ti34 (hS := hS) (hc := by first | exact zi_set rfl (by omega) | exact zi_whole (by omega) (by omega) | (first | exact splice_ic (by first | omega | (simp [*]; done) | (simp [*]; omega)) | exact splice_il (by first | omega | (simp [*]; done) | (simp [*]; omega)) | exact splice_whole (by first | (simp [opv, Value.cells, *]; done) | rfl) | (simp only [opv, n1, n2, Value.cells, splice, List.take_succ_cons, List.take_zero, List.drop_succ_cons, List.drop_zero, List.length_cons, List.length_nil, Nat.zero_add, Nat.reduceAdd, List.append_assoc, List.cons_append, List.nil_append]; rfl))) (hv := by first | rfl | (show (zi _ _).toArray.size = _; rw [zi_size (by omega)]; rfl) | (simp [opv, Value.cells, *]; done)) (hfit := by first | omega | (rw [zi_size (by omega)]; first | rfl | decide) | (simp only [ic_size, List.length_map, List.size_toArray]; first | omega | decide) | rfl | (simp [*]; done) | (simp [*]; omega)) (h1 := by first | exact zi_one _ _ | exact ic_one _ _ | simp [opv, Value.cells, Value.oneCell']) (h := fun w9 hS => ?_)
  try simp only [opv, n1, n2, n3, n4, Value.cells, Array.toArray_toList] at hS ⊢
  refine y_nilf ?_
  refine hK4 _ _ ?_
  refine y_region (by kernel_rfl) ?_
  refine m_alloc ti37 hS (fun w10 g10 hS => ?_)
  try simp only [opv, n1, n2, n3, n4, Value.cells, Array.toArray_toList] at hS ⊢
  have h9l : v9.length = 9 := rfl
  replace hS : St _ _ w10 (.obj g10 (.cells (VA v9) 37 (0, 0)) :: _) := hS
  first | refine m_store_obj ti37 (hS := hS) (hc := by first | exact zi_set rfl (by omega) | exact zi_whole (by omega) (by omega) | (first | exact splice_ic (by first | omega | (simp [*]; done) | (simp [*]; omega)) | exact splice_il (by first | omega | (simp [*]; done) | (simp [*]; omega)) | exact splice_whole (by first | (simp [opv, Value.cells, *]; done) | rfl) | (simp only [opv, n1, n2, Value.cells, splice, List.take_succ_cons, List.take_zero, List.drop_succ_cons, List.drop_zero, List.length_cons, List.length_nil, Nat.zero_add, Nat.reduceAdd, List.append_assoc, List.cons_append, List.nil_append]; rfl))) (hv := by first | rfl | (show (zi _ _).toArray.size = _; rw [zi_size (by omega)]; rfl) | (simp [opv, Value.cells, *]; done)) (hfit := by first | omega | (rw [zi_size (by omega)]; first | rfl | decide) | (simp only [ic_size, List.length_map, List.size_toArray]; first | omega | decide) | rfl | (simp [*]; done) | (simp [*]; omega)) (h1 := by first | exact zi_one _ _ | exact ic_one _ _ | simp [opv, Value.cells, Value.oneCell']) (h := fun w11 hS => ?_) | refine m_store_vec ti37 (hS := hS) (hc := by first | exact zi_set rfl (by omega) | exact zi_whole (by omega) (by omega) | (first | exact splice_ic (by first | omega | (simp [*]; done) | (simp [*]; omega)) | exact splice_il (by first | omega | (simp [*]; done) | (simp [*]; omega)) | exact splice_whole (by first | (simp [opv, Value.cells, *]; done) | rfl) | (simp only [opv, n1, n2, Value.cells, splice, List.take_succ_cons, List.take_zero, List.drop_succ_cons, List.drop_zero, List.length_cons, List.length_nil, Nat.zero_add, Nat.reduceAdd, List.append_assoc, List.cons_append, List.nil_append]; rfl))) (hv := by first | rfl | (show (zi _ _).toArray.size = _; rw [zi_size (by omega)]; rfl) | (simp [opv, Value.cells, *]; done)) (hfit := by first | omega | (rw [zi_size (by omega)]; first | rfl | decide) | (simp only [ic_size, List.length_map, List.size_toArray]; first | omega | decide) | rfl | (simp [*]; done) | (simp [*]; omega)) (h1 := by first | exact zi_one _ _ | exact ic_one _ _ | simp [opv, Value.cells, Value.oneCell']) (h := fun w11 hS => ?_)
  try simp only [opv, n1, n2, n3, n4, Value.cells, Array.toArray_toList] at hS ⊢
  refine y_nilf ?_
  refine round_open hS (by repeat (first | exact App.nil | apply App.cons)) (fun w12 T2 hS => ?_)
  simp only [List.cons_append, List.nil_append] at hS
  refine y_block ?_
  refine y_seq fun K5 hK5 => ?_
  refine y_seq fun K6 hK6 => ?_
  refine y_region (by kernel_rfl) ?_
  first | refine s_go (m_load_row Try.underlying34 (hi := ti34) (hS := hS) (hfit := by first | omega | (rw [zi_size (by omega)]; first | rfl | decide) | (simp only [ic_size, List.length_map, List.size_toArray]; first | omega | decide) | rfl | (simp [*]; done) | (simp [*]; omega))) ?_ | refine s_go (m_loada_obj Try.underlying34 (hi := ti34) (hS := hS) (hfit := by first | omega | (rw [zi_size (by omega)]; first | rfl | decide) | (simp only [ic_size, List.length_map, List.size_toArray]; first | omega | decide) | rfl | (simp [*]; done) | (simp [*]; omega))) ?_ | refine s_go (m_loada_bx Try.underlying34 (hi := ti34) (hS := hS) (hfit := by first | omega | (rw [zi_size (by omega)]; first | rfl | decide) | (simp only [ic_size, List.length_map, List.size_toArray]; first | omega | decide) | rfl | (simp [*]; done) | (simp [*]; omega))) ?_ | refine s_go (m_loada_rd Try.underlying34 (hi := ti34) (hS := hS) (hfit := by first | omega | (rw [zi_size (by omega)]; first | rfl | decide) | (simp only [ic_size, List.length_map, List.size_toArray]; first | omega | decide) | rfl | (simp [*]; done) | (simp [*]; omega))) ?_ | refine s_go (m_loada_vec Try.underlying34 (hi := ti34) (hS := hS) (hfit := by first | omega | (rw [zi_size (by omega)]; first | rfl | decide) | (simp only [ic_size, List.length_map, List.size_toArray]; first | omega | decide) | rfl | (simp [*]; done) | (simp [*]; omega))) ?_
  try simp only [opv, n1, n2, n3, n4, Value.cells, List.getElem_toArray, List.getElem_cons_zero, List.getElem_cons_succ]
  refine s_call en150 ?_
  try simp only [opv, n1, n2, n3, n4, Value.cells, List.map_toArray, List.map_cons, List.map_nil, List.append_toArray, List.cons_append, List.nil_append, Array.append_empty]
  refine CallR.mono (c_countHalfB (akey x) hkx _) ?_
  rintro _ w13 ⟨rfl, hE13⟩
  replace hS := hS.ext hE13
  try simp only [opv, n1, n2, n3, n4, Value.cells]
  refine s_go (s_not) ?_
  try simp only [opv, n1, n2, n3, n4, Value.cells]
  refine s_go (s_move) ?_
  try simp only [opv, n1, n2, n3, n4, Value.cells]
  refine s_part 17 rfl (fun hp1 => ?_) (fun hp1 => ?_)
  ·
   try simp only [n3, n4]
   try simp only [decide_eq_true_eq, decide_eq_false_iff_not, Bool.not_eq_true', Bool.not_eq_false', Int.not_lt, Int.not_le, ne_eq, Decidable.not_not] at hp1
   have hst : totL ((normP l).take (k1 + 1)) ct it = totL ((normP l).take k1) ct it := by rw [htk, totA, if_neg (fun q => by have h2 : halfB (akey x) = true := decide_eq_true (by rw [hk01.1]; exact q.1); simp [h2] at hp1)]; omega
   refine g_off (yi (t := 17) rfl rfl) ?_
   try simp only [opv, n1, n2, n3, n4, Value.cells]
   refine g_off (yi (t := 17) rfl rfl) ?_
   try simp only [opv, n1, n2, n3, n4, Value.cells]
   refine g_off (yi (t := 17) rfl rfl) ?_
   try simp only [opv, n1, n2, n3, n4, Value.cells]
   refine g_off (yi (t := 17) rfl rfl) ?_
   try simp only [opv, n1, n2, n3, n4, Value.cells]
   first | refine s_go (s_pick_t) ?_ | refine s_go (s_pick_f) ?_
   try simp only [opv, n1, n2, n3, n4, Value.cells]
   refine s_go (s_move) ?_
   try simp only [opv, n1, n2, n3, n4, Value.cells]
   refine g_off (yi (t := 23) rfl rfl) ?_
   try simp only [opv, n1, n2, n3, n4, Value.cells]
   refine g_off (yi (t := 23) rfl rfl) ?_
   try simp only [opv, n1, n2, n3, n4, Value.cells]
   refine g_off (yi (t := 23) rfl rfl) ?_
   try simp only [opv, n1, n2, n3, n4, Value.cells]
   refine g_off (yi (t := 23) rfl rfl) ?_
   try simp only [opv, n1, n2, n3, n4, Value.cells]
   first | refine s_go (s_pick_t) ?_ | refine s_go (s_pick_f) ?_
   try simp only [opv, n1, n2, n3, n4, Value.cells]
   refine y_nilf ?_
   refine hK6 _ _ ?_
   refine y_cond_t (h := ?_)
   try have hst : totL ((normP l).take (k1 + 1)) ct it = totL ((normP l).take k1) ct it := by rw [htk, totA, if_neg (fun q => by simp [q.2.2] at @c)]; omega
   refine y_exit (look_here ?_)
   rw [← hst] at hS
   exact ⟨_, ⟨by omega, rfl⟩, hS.sel (by repeat (first | exact Sel.self | (refine Sel.cons (by repeat (first | exact Del.head | apply Del.tail)) ?_) | apply Sel.skip))⟩
  ·
   try simp only [n3, n4]
   try simp only [decide_eq_true_eq, decide_eq_false_iff_not, Bool.not_eq_true', Bool.not_eq_false', Int.not_lt, Int.not_le, ne_eq, Decidable.not_not] at hp1
   have hH : kn x 0 = 2 ∨ kn x 0 = 3 := by rw [← hk01.1]; exact of_decide_eq_true (show halfB (akey x) = true by simpa using hp1)
   refine g_on (yi (t := 17) rfl rfl) ?_
   first | refine s_go (m_fieldAddr Try.underlying34 (hi := ti29)) ?_ | refine s_go (m_fieldAddr_rd Try.underlying34 (hi := ti29) (hS := hS)) ?_ | refine s_go (m_fieldAddr_vec Try.underlying34 (hi := ti29) (hS := hS)) ?_
   try simp only [opv, n1, n2, n3, n4, Value.cells, Nat.zero_add, Nat.add_zero, List.getElem_toArray, List.getElem_cons_zero, List.getElem_cons_succ]
   refine g_on (yi (t := 17) rfl rfl) ?_
   first | refine s_go (m_load_obj Try.underlying29 (hS := hS) (hv := by first | rfl | exact zi_get rfl (by omega) | exact ic_get (by omega) | exact il_get (by omega))) ?_ | refine s_go (m_load_bx Try.underlying29 (hS := hS) (hv := by first | rfl | exact zi_get rfl (by omega) | exact ic_get (by omega) | exact il_get (by omega))) ?_ | refine s_go (m_load_rd Try.underlying29 (hS := hS) (hv := by first | rfl | exact zi_get rfl (by omega) | exact ic_get (by omega) | exact il_get (by omega))) ?_ | refine s_go (m_load_vec Try.underlying29 (hS := hS) (hv := by first | rfl | exact zi_get rfl (by omega) | exact ic_get (by omega) | exact il_get (by omega))) ?_
   try simp only [opv, n1, n2, n3, n4, Value.cells, List.getElem_toArray, List.getElem_cons_zero, List.getElem_cons_succ]
   rw [hkx.e1, hk01.2]
   refine g_on (yi (t := 17) rfl rfl) ?_
   first | refine s_go (m_load_obj Try.underlying29 (hS := hS) (hv := by first | rfl | exact zi_get rfl (by omega) | exact ic_get (by omega) | exact il_get (by omega))) ?_ | refine s_go (m_load_bx Try.underlying29 (hS := hS) (hv := by first | rfl | exact zi_get rfl (by omega) | exact ic_get (by omega) | exact il_get (by omega))) ?_ | refine s_go (m_load_rd Try.underlying29 (hS := hS) (hv := by first | rfl | exact zi_get rfl (by omega) | exact ic_get (by omega) | exact il_get (by omega))) ?_ | refine s_go (m_load_vec Try.underlying29 (hS := hS) (hv := by first | rfl | exact zi_get rfl (by omega) | exact ic_get (by omega) | exact il_get (by omega))) ?_
   try simp only [opv, n1, n2, n3, n4, Value.cells, List.getElem_toArray, List.getElem_cons_zero, List.getElem_cons_succ]
   refine g_on (yi (t := 17) rfl rfl) ?_
   refine s_go (s_neq) ?_
   try simp only [opv, n1, n2, n3, n4, Value.cells]
   first | refine s_go (s_pick_t) ?_ | refine s_go (s_pick_f) ?_
   try simp only [opv, n1, n2, n3, n4, Value.cells]
   refine s_go (s_move) ?_
   try simp only [opv, n1, n2, n3, n4, Value.cells]
   refine s_part 23 rfl (fun hp2 => ?_) (fun hp2 => ?_)
   ·
    try simp only [n3, n4]
    try simp only [decide_eq_true_eq, decide_eq_false_iff_not, Bool.not_eq_true', Bool.not_eq_false', Int.not_lt, Int.not_le, ne_eq, Decidable.not_not] at hp2
    try have hst : totL ((normP l).take (k1 + 1)) ct it = totL ((normP l).take k1) ct it := by rw [htk, totA, if_neg (fun q => by omega)]; omega
    refine g_off (yi (t := 23) rfl rfl) ?_
    try simp only [opv, n1, n2, n3, n4, Value.cells]
    refine g_off (yi (t := 23) rfl rfl) ?_
    try simp only [opv, n1, n2, n3, n4, Value.cells]
    refine g_off (yi (t := 23) rfl rfl) ?_
    try simp only [opv, n1, n2, n3, n4, Value.cells]
    refine g_off (yi (t := 23) rfl rfl) ?_
    try simp only [opv, n1, n2, n3, n4, Value.cells]
    first | refine s_go (s_pick_t) ?_ | refine s_go (s_pick_f) ?_
    try simp only [opv, n1, n2, n3, n4, Value.cells]
    refine y_nilf ?_
    refine hK6 _ _ ?_
    refine y_cond_t (h := ?_)
    try have hst : totL ((normP l).take (k1 + 1)) ct it = totL ((normP l).take k1) ct it := by rw [htk, totA, if_neg (fun q => by simp [q.2.2] at @c)]; omega
    refine y_exit (look_here ?_)
    rw [← hst] at hS
    exact ⟨_, ⟨by omega, rfl⟩, hS.sel (by repeat (first | exact Sel.self | (refine Sel.cons (by repeat (first | exact Del.head | apply Del.tail)) ?_) | apply Sel.skip))⟩
   ·
    try simp only [n3, n4]
    try simp only [decide_eq_true_eq, decide_eq_false_iff_not, Bool.not_eq_true', Bool.not_eq_false', Int.not_lt, Int.not_le, ne_eq, Decidable.not_not] at hp2
    have hC : kn x 1 = ct := by omega
    refine g_on (yi (t := 23) rfl rfl) ?_
    first | refine s_go (m_fieldAddr Try.underlying34 (hi := ti31)) ?_ | refine s_go (m_fieldAddr_rd Try.underlying34 (hi := ti31) (hS := hS)) ?_ | refine s_go (m_fieldAddr_vec Try.underlying34 (hi := ti31) (hS := hS)) ?_
    try simp only [opv, n1, n2, n3, n4, Value.cells, Nat.zero_add, Nat.add_zero, List.getElem_toArray, List.getElem_cons_zero, List.getElem_cons_succ]
    refine g_on (yi (t := 23) rfl rfl) ?_
    first | refine s_go (m_load_row Try.underlying31 (hi := ti31) (hS := hS) (hfit := by first | omega | (rw [zi_size (by omega)]; first | rfl | decide) | (simp only [ic_size, List.length_map, List.size_toArray]; first | omega | decide) | rfl | (simp [*]; done) | (simp [*]; omega))) ?_ | refine s_go (m_loada_obj Try.underlying31 (hi := ti31) (hS := hS) (hfit := by first | omega | (rw [zi_size (by omega)]; first | rfl | decide) | (simp only [ic_size, List.length_map, List.size_toArray]; first | omega | decide) | rfl | (simp [*]; done) | (simp [*]; omega))) ?_ | refine s_go (m_loada_bx Try.underlying31 (hi := ti31) (hS := hS) (hfit := by first | omega | (rw [zi_size (by omega)]; first | rfl | decide) | (simp only [ic_size, List.length_map, List.size_toArray]; first | omega | decide) | rfl | (simp [*]; done) | (simp [*]; omega))) ?_ | refine s_go (m_loada_rd Try.underlying31 (hi := ti31) (hS := hS) (hfit := by first | omega | (rw [zi_size (by omega)]; first | rfl | decide) | (simp only [ic_size, List.length_map, List.size_toArray]; first | omega | decide) | rfl | (simp [*]; done) | (simp [*]; omega))) ?_ | refine s_go (m_loada_vec Try.underlying31 (hi := ti31) (hS := hS) (hfit := by first | omega | (rw [zi_size (by omega)]; first | rfl | decide) | (simp only [ic_size, List.length_map, List.size_toArray]; first | omega | decide) | rfl | (simp [*]; done) | (simp [*]; omega))) ?_
    try simp only [opv, n1, n2, n3, n4, Value.cells, List.getElem_toArray, List.getElem_cons_zero, List.getElem_cons_succ]
    rw [key_item hkx.len]
    refine g_on (yi (t := 23) rfl rfl) ?_
    first | refine s_go (m_load_row Try.underlying31 (hi := ti31) (hS := hS) (hfit := by first | omega | (rw [zi_size (by omega)]; first | rfl | decide) | (simp only [ic_size, List.length_map, List.size_toArray]; first | omega | decide) | rfl | (simp [*]; done) | (simp [*]; omega))) ?_ | refine s_go (m_loada_obj Try.underlying31 (hi := ti31) (hS := hS) (hfit := by first | omega | (rw [zi_size (by omega)]; first | rfl | decide) | (simp only [ic_size, List.length_map, List.size_toArray]; first | omega | decide) | rfl | (simp [*]; done) | (simp [*]; omega))) ?_ | refine s_go (m_loada_bx Try.underlying31 (hi := ti31) (hS := hS) (hfit := by first | omega | (rw [zi_size (by omega)]; first | rfl | decide) | (simp only [ic_size, List.length_map, List.size_toArray]; first | omega | decide) | rfl | (simp [*]; done) | (simp [*]; omega))) ?_ | refine s_go (m_loada_rd Try.underlying31 (hi := ti31) (hS := hS) (hfit := by first | omega | (rw [zi_size (by omega)]; first | rfl | decide) | (simp only [ic_size, List.length_map, List.size_toArray]; first | omega | decide) | rfl | (simp [*]; done) | (simp [*]; omega))) ?_ | refine s_go (m_loada_vec Try.underlying31 (hi := ti31) (hS := hS) (hfit := by first | omega | (rw [zi_size (by omega)]; first | rfl | decide) | (simp only [ic_size, List.length_map, List.size_toArray]; first | omega | decide) | rfl | (simp [*]; done) | (simp [*]; omega))) ?_
    try simp only [opv, n1, n2, n3, n4, Value.cells, List.getElem_toArray, List.getElem_cons_zero, List.getElem_cons_succ]
    refine g_on (yi (t := 23) rfl rfl) ?_
    refine s_go (s_neq_agg eqv31 (hg := eg31) (hX := zi_ic (by assumption)) (hY := zi_ic (by assumption)) (h1 := by assumption) (h2 := by assumption)) ?_
    try simp only [opv, n1, n2, n3, n4, Value.cells]
    first | refine s_go (s_pick_t) ?_ | refine s_go (s_pick_f) ?_
    try simp only [opv, n1, n2, n3, n4, Value.cells]
    refine y_nilf ?_
    refine hK6 _ _ ?_
    refine y_cond (ht := fun hc3 => ?_) (hf := fun hc3 => ?_)
    ·
     try simp only [decide_eq_true_eq, decide_eq_false_iff_not, Bool.not_eq_true', Bool.not_eq_false', Int.not_lt, Int.not_le, ne_eq, Decidable.not_not, bne_iff_ne, beq_iff_eq, not_true_eq_false, not_false_eq_true] at hc3
     try have hst : totL ((normP l).take (k1 + 1)) ct it = totL ((normP l).take k1) ct it := by rw [htk, totA, if_neg (fun q => by simp [q.2.2] at hc3)]; omega
     refine y_exit (look_here ?_)
     rw [← hst] at hS
     exact ⟨_, ⟨by omega, rfl⟩, hS.sel (by repeat (first | exact Sel.self | (refine Sel.cons (by repeat (first | exact Del.head | apply Del.tail)) ?_) | apply Sel.skip))⟩
    ·
     try simp only [decide_eq_true_eq, decide_eq_false_iff_not, Bool.not_eq_true', Bool.not_eq_false', Int.not_lt, Int.not_le, ne_eq, Decidable.not_not, bne_iff_ne, beq_iff_eq, not_true_eq_false, not_false_eq_true] at hc3
     have hI : kitem (akey x) = it := by simpa using hc3
     have hv0 := totA_le (c := ct) (it := it) ha (by exact hsn.right x (by rw [← hx]; exact getD_mem' hk1))
     refine y_skip ?_
     refine hK5 _ _ ?_
     refine y_seq fun K7 hK7 => ?_
     refine y_region (by kernel_rfl) ?_
     first | refine s_go (m_fieldAddr Try.underlying37 (hi := ti35)) ?_ | refine s_go (m_fieldAddr_rd Try.underlying37 (hi := ti35) (hS := hS)) ?_ | refine s_go (m_fieldAddr_vec Try.underlying37 (hi := ti35) (hS := hS)) ?_
     try simp only [opv, n1, n2, n3, n4, Value.cells, Nat.zero_add, Nat.add_zero, List.getElem_toArray, List.getElem_cons_zero, List.getElem_cons_succ]
     first | refine s_go (m_load_obj Try.underlying35 (hS := hS) (hv := by first | rfl | exact zi_get rfl (by omega) | exact ic_get (by omega) | exact il_get (by omega))) ?_ | refine s_go (m_load_bx Try.underlying35 (hS := hS) (hv := by first | rfl | exact zi_get rfl (by omega) | exact ic_get (by omega) | exact il_get (by omega))) ?_ | refine s_go (m_load_rd Try.underlying35 (hS := hS) (hv := by first | rfl | exact zi_get rfl (by omega) | exact ic_get (by omega) | exact il_get (by omega))) ?_ | refine s_go (m_load_vec Try.underlying35 (hS := hS) (hv := by first | rfl | exact zi_get rfl (by omega) | exact ic_get (by omega) | exact il_get (by omega))) ?_
     try simp only [opv, n1, n2, n3, n4, Value.cells, List.getElem_toArray, List.getElem_cons_zero, List.getElem_cons_succ]
     rw [hvx.e0]
     refine s_go (s_conv Try.underlying35 Try.underlying3 (hc := cv_i64 (by rw [totA, if_pos ⟨hH, hC, hI⟩] at hv0; split at hv0 <;> omega))) ?_
     try simp only [opv, n1, n2, n3, n4, Value.cells]
     refine s_go (s_assign) ?_
     try simp only [opv, n1, n2, n3, n4, Value.cells]
     refine y_nilf ?_
     refine hK7 _ _ ?_
     refine y_seq fun K8 hK8 => ?_
     refine y_region (by kernel_rfl) ?_
     first | refine s_go (m_fieldAddr Try.underlying34 (hi := ti5)) ?_ | refine s_go (m_fieldAddr_rd Try.underlying34 (hi := ti5) (hS := hS)) ?_ | refine s_go (m_fieldAddr_vec Try.underlying34 (hi := ti5) (hS := hS)) ?_
     try simp only [opv, n1, n2, n3, n4, Value.cells, Nat.zero_add, Nat.add_zero, List.getElem_toArray, List.getElem_cons_zero, List.getElem_cons_succ]
     first | refine s_go (m_load_obj Try.underlying5 (hS := hS) (hv := by first | rfl | exact zi_get rfl (by omega) | exact ic_get (by omega) | exact il_get (by omega))) ?_ | refine s_go (m_load_bx Try.underlying5 (hS := hS) (hv := by first | rfl | exact zi_get rfl (by omega) | exact ic_get (by omega) | exact il_get (by omega))) ?_ | refine s_go (m_load_rd Try.underlying5 (hS := hS) (hv := by first | rfl | exact zi_get rfl (by omega) | exact ic_get (by omega) | exact il_get (by omega))) ?_ | refine s_go (m_load_vec Try.underlying5 (hS := hS) (hv := by first | rfl | exact zi_get rfl (by omega) | exact ic_get (by omega) | exact il_get (by omega))) ?_
     try simp only [opv, n1, n2, n3, n4, Value.cells, List.getElem_toArray, List.getElem_cons_zero, List.getElem_cons_succ]
     rw [hkx.e0, hk01.1]
     refine s_go (s_eql) ?_
     try simp only [opv, n1, n2, n3, n4, Value.cells]
     refine y_nilf ?_
     refine hK8 _ _ ?_
     refine y_cond (ht := fun hc4 => ?_) (hf := fun hc4 => ?_)
     ·
      try simp only [decide_eq_true_eq, decide_eq_false_iff_not, Bool.not_eq_true', Bool.not_eq_false', Int.not_lt, Int.not_le, ne_eq, Decidable.not_not, bne_iff_ne, beq_iff_eq, not_true_eq_false, not_false_eq_true] at hc4
      have hst : totL ((normP l).take (k1 + 1)) ct it = totL ((normP l).take k1) ct it + (kn (aval x) 0 : Int) := by rw [htk, totA, if_pos ⟨hH, hC, hI⟩, if_pos (by omega)]
      refine y_region (by kernel_rfl) ?_
      first | refine s_go (m_load_obj Try.underlying3 (hS := hS) (hv := by first | rfl | exact zi_get rfl (by omega) | exact ic_get (by omega) | exact il_get (by omega))) ?_ | refine s_go (m_load_bx Try.underlying3 (hS := hS) (hv := by first | rfl | exact zi_get rfl (by omega) | exact ic_get (by omega) | exact il_get (by omega))) ?_ | refine s_go (m_load_rd Try.underlying3 (hS := hS) (hv := by first | rfl | exact zi_get rfl (by omega) | exact ic_get (by omega) | exact il_get (by omega))) ?_ | refine s_go (m_load_vec Try.underlying3 (hS := hS) (hv := by first | rfl | exact zi_get rfl (by omega) | exact ic_get (by omega) | exact il_get (by omega))) ?_
      try simp only [opv, n1, n2, n3, n4, Value.cells, List.getElem_toArray, List.getElem_cons_zero, List.getElem_cons_succ]
      refine s_go (s_move) ?_
      try simp only [opv, n1, n2, n3, n4, Value.cells]
      refine s_go (s_add (hc := by first | exact wr_i64 (by omega) (by omega) | rfl)) ?_
      try simp only [opv, n1, n2, n3, n4, Value.cells]
      first | refine m_store_obj ti3 (hS := hS) (hc := by first | exact zi_set rfl (by omega) | exact zi_whole (by omega) (by omega) | (first | exact splice_ic (by first | omega | (simp [*]; done) | (simp [*]; omega)) | exact splice_il (by first | omega | (simp [*]; done) | (simp [*]; omega)) | exact splice_whole (by first | (simp [opv, Value.cells, *]; done) | rfl) | (simp only [opv, n1, n2, Value.cells, splice, List.take_succ_cons, List.take_zero, List.drop_succ_cons, List.drop_zero, List.length_cons, List.length_nil, Nat.zero_add, Nat.reduceAdd, List.append_assoc, List.cons_append, List.nil_append]; rfl))) (hv := by first | rfl | (show (zi _ _).toArray.size = _; rw [zi_size (by omega)]; rfl) | (simp [opv, Value.cells, *]; done)) (hfit := by first | omega | (rw [zi_size (by omega)]; first | rfl | decide) | (simp only [ic_size, List.length_map, List.size_toArray]; first | omega | decide) | rfl | (simp [*]; done) | (simp [*]; omega)) (h1 := by first | exact zi_one _ _ | exact ic_one _ _ | simp [opv, Value.cells, Value.oneCell']) (h := fun w14 hS => ?_) | refine m_store_vec ti3 (hS := hS) (hc := by first | exact zi_set rfl (by omega) | exact zi_whole (by omega) (by omega) | (first | exact splice_ic (by first | omega | (simp [*]; done) | (simp [*]; omega)) | exact splice_il (by first | omega | (simp [*]; done) | (simp [*]; omega)) | exact splice_whole (by first | (simp [opv, Value.cells, *]; done) | rfl) | (simp only [opv, n1, n2, Value.cells, splice, List.take_succ_cons, List.take_zero, List.drop_succ_cons, List.drop_zero, List.length_cons, List.length_nil, Nat.zero_add, Nat.reduceAdd, List.append_assoc, List.cons_append, List.nil_append]; rfl))) (hv := by first | rfl | (show (zi _ _).toArray.size = _; rw [zi_size (by omega)]; rfl) | (simp [opv, Value.cells, *]; done)) (hfit := by first | omega | (rw [zi_size (by omega)]; first | rfl | decide) | (simp only [ic_size, List.length_map, List.size_toArray]; first | omega | decide) | rfl | (simp [*]; done) | (simp [*]; omega)) (h1 := by first | exact zi_one _ _ | exact ic_one _ _ | simp [opv, Value.cells, Value.oneCell']) (h := fun w14 hS => ?_)
      try simp only [opv, n1, n2, n3, n4, Value.cells, Array.toArray_toList] at hS ⊢
      refine y_nilf ?_
      rw [← hst] at hS
      exact ⟨_, ⟨by omega, rfl⟩, hS.sel (by repeat (first | exact Sel.self | (refine Sel.cons (by repeat (first | exact Del.head | apply Del.tail)) ?_) | apply Sel.skip))⟩
     ·
      try simp only [decide_eq_true_eq, decide_eq_false_iff_not, Bool.not_eq_true', Bool.not_eq_false', Int.not_lt, Int.not_le, ne_eq, Decidable.not_not, bne_iff_ne, beq_iff_eq, not_true_eq_false, not_false_eq_true] at hc4
      have hst : totL ((normP l).take (k1 + 1)) ct it = totL ((normP l).take k1) ct it - (kn (aval x) 0 : Int) := by rw [htk, totA, if_pos ⟨hH, hC, hI⟩, if_neg (by omega)]; omega
      refine y_region (by kernel_rfl) ?_
      first | refine s_go (m_load_obj Try.underlying3 (hS := hS) (hv := by first | rfl | exact zi_get rfl (by omega) | exact ic_get (by omega) | exact il_get (by omega))) ?_ | refine s_go (m_load_bx Try.underlying3 (hS := hS) (hv := by first | rfl | exact zi_get rfl (by omega) | exact ic_get (by omega) | exact il_get (by omega))) ?_ | refine s_go (m_load_rd Try.underlying3 (hS := hS) (hv := by first | rfl | exact zi_get rfl (by omega) | exact ic_get (by omega) | exact il_get (by omega))) ?_ | refine s_go (m_load_vec Try.underlying3 (hS := hS) (hv := by first | rfl | exact zi_get rfl (by omega) | exact ic_get (by omega) | exact il_get (by omega))) ?_
      try simp only [opv, n1, n2, n3, n4, Value.cells, List.getElem_toArray, List.getElem_cons_zero, List.getElem_cons_succ]
      refine s_go (s_move) ?_
      try simp only [opv, n1, n2, n3, n4, Value.cells]
      refine s_go (s_sub (hc := by first | exact wr_i64 (by omega) (by omega) | rfl)) ?_
      try simp only [opv, n1, n2, n3, n4, Value.cells]
      first | refine m_store_obj ti3 (hS := hS) (hc := by first | exact zi_set rfl (by omega) | exact zi_whole (by omega) (by omega) | (first | exact splice_ic (by first | omega | (simp [*]; done) | (simp [*]; omega)) | exact splice_il (by first | omega | (simp [*]; done) | (simp [*]; omega)) | exact splice_whole (by first | (simp [opv, Value.cells, *]; done) | rfl) | (simp only [opv, n1, n2, Value.cells, splice, List.take_succ_cons, List.take_zero, List.drop_succ_cons, List.drop_zero, List.length_cons, List.length_nil, Nat.zero_add, Nat.reduceAdd, List.append_assoc, List.cons_append, List.nil_append]; rfl))) (hv := by first | rfl | (show (zi _ _).toArray.size = _; rw [zi_size (by omega)]; rfl) | (simp [opv, Value.cells, *]; done)) (hfit := by first | omega | (rw [zi_size (by omega)]; first | rfl | decide) | (simp only [ic_size, List.length_map, List.size_toArray]; first | omega | decide) | rfl | (simp [*]; done) | (simp [*]; omega)) (h1 := by first | exact zi_one _ _ | exact ic_one _ _ | simp [opv, Value.cells, Value.oneCell']) (h := fun w15 hS => ?_) | refine m_store_vec ti3 (hS := hS) (hc := by first | exact zi_set rfl (by omega) | exact zi_whole (by omega) (by omega) | (first | exact splice_ic (by first | omega | (simp [*]; done) | (simp [*]; omega)) | exact splice_il (by first | omega | (simp [*]; done) | (simp [*]; omega)) | exact splice_whole (by first | (simp [opv, Value.cells, *]; done) | rfl) | (simp only [opv, n1, n2, Value.cells, splice, List.take_succ_cons, List.take_zero, List.drop_succ_cons, List.drop_zero, List.length_cons, List.length_nil, Nat.zero_add, Nat.reduceAdd, List.append_assoc, List.cons_append, List.nil_append]; rfl))) (hv := by first | rfl | (show (zi _ _).toArray.size = _; rw [zi_size (by omega)]; rfl) | (simp [opv, Value.cells, *]; done)) (hfit := by first | omega | (rw [zi_size (by omega)]; first | rfl | decide) | (simp only [ic_size, List.length_map, List.size_toArray]; first | omega | decide) | rfl | (simp [*]; done) | (simp [*]; omega)) (h1 := by first | exact zi_one _ _ | exact ic_one _ _ | simp [opv, Value.cells, Value.oneCell']) (h := fun w15 hS => ?_)
      try simp only [opv, n1, n2, n3, n4, Value.cells, Array.toArray_toList] at hS ⊢
      refine y_nilf ?_
      rw [← hst] at hS
      exact ⟨_, ⟨by omega, rfl⟩, hS.sel (by repeat (first | exact Sel.self | (refine Sel.cons (by repeat (first | exact Del.head | apply Del.tail)) ?_) | apply Sel.skip))⟩
 case rfd1 =>
  obtain ⟨hk0, rfl⟩ := hC
  simp only [List.cons_append, List.nil_append] at hS
  refine hK2 _ _ ?_
  refine y_seq fun K9 hK9 => ?_
  refine y_region (by kernel_rfl) ?_
  first | refine s_go (m_load_obj Try.underlying3 (hS := hS) (hv := by first | rfl | exact zi_get rfl (by omega) | exact ic_get (by omega) | exact il_get (by omega))) ?_ | refine s_go (m_load_bx Try.underlying3 (hS := hS) (hv := by first | rfl | exact zi_get rfl (by omega) | exact ic_get (by omega) | exact il_get (by omega))) ?_ | refine s_go (m_load_rd Try.underlying3 (hS := hS) (hv := by first | rfl | exact zi_get rfl (by omega) | exact ic_get (by omega) | exact il_get (by omega))) ?_ | refine s_go (m_load_vec Try.underlying3 (hS := hS) (hv := by first | rfl | exact zi_get rfl (by omega) | exact ic_get (by omega) | exact il_get (by omega))) ?_
  try simp only [opv, n1, n2, n3, n4, Value.cells, List.getElem_toArray, List.getElem_cons_zero, List.getElem_cons_succ]
  first | refine m_store_obj ti3 (hS := hS) (hc := by first | exact zi_set rfl (by omega) | exact zi_whole (by omega) (by omega) | (first | exact splice_ic (by first | omega | (simp [*]; done) | (simp [*]; omega)) | exact splice_il (by first | omega | (simp [*]; done) | (simp [*]; omega)) | exact splice_whole (by first | (simp [opv, Value.cells, *]; done) | rfl) | (simp only [opv, n1, n2, Value.cells, splice, List.take_succ_cons, List.take_zero, List.drop_succ_cons, List.drop_zero, List.length_cons, List.length_nil, Nat.zero_add, Nat.reduceAdd, List.append_assoc, List.cons_append, List.nil_append]; rfl))) (hv := by first | rfl | (show (zi _ _).toArray.size = _; rw [zi_size (by omega)]; rfl) | (simp [opv, Value.cells, *]; done)) (hfit := by first | omega | (rw [zi_size (by omega)]; first | rfl | decide) | (simp only [ic_size, List.length_map, List.size_toArray]; first | omega | decide) | rfl | (simp [*]; done) | (simp [*]; omega)) (h1 := by first | exact zi_one _ _ | exact ic_one _ _ | simp [opv, Value.cells, Value.oneCell']) (h := fun w16 hS => ?_) | refine m_store_vec ti3 (hS := hS) (hc := by first | exact zi_set rfl (by omega) | exact zi_whole (by omega) (by omega) | (first | exact splice_ic (by first | omega | (simp [*]; done) | (simp [*]; omega)) | exact splice_il (by first | omega | (simp [*]; done) | (simp [*]; omega)) | exact splice_whole (by first | (simp [opv, Value.cells, *]; done) | rfl) | (simp only [opv, n1, n2, Value.cells, splice, List.take_succ_cons, List.take_zero, List.drop_succ_cons, List.drop_zero, List.length_cons, List.length_nil, Nat.zero_add, Nat.reduceAdd, List.append_assoc, List.cons_append, List.nil_append]; rfl))) (hv := by first | rfl | (show (zi _ _).toArray.size = _; rw [zi_size (by omega)]; rfl) | (simp [opv, Value.cells, *]; done)) (hfit := by first | omega | (rw [zi_size (by omega)]; first | rfl | decide) | (simp only [ic_size, List.length_map, List.size_toArray]; first | omega | decide) | rfl | (simp [*]; done) | (simp [*]; omega)) (h1 := by first | exact zi_one _ _ | exact ic_one _ _ | simp [opv, Value.cells, Value.oneCell']) (h := fun w16 hS => ?_)
  try simp only [opv, n1, n2, n3, n4, Value.cells, Array.toArray_toList] at hS ⊢
  refine y_nilf ?_
  refine hK9 _ _ ?_
  refine y_ret ?_
  refine rm_mark hS (by repeat (first | exact Upd.head | apply Upd.tail)) (fun w17 hS => ?_)
  refine rm_nil ?_
  refine r_cell_one rfl Try.underlying3 (hS := hS) (hR := ?_)
  rw [List.take_of_length_le (Nat.le_refl _)] at hS ⊢
  exact ⟨rfl, hS.ext_of⟩
 case rft1 =>
  exact hX.elim
 case rfe1 =>
  exact y_ex_nil

def cup8 : List Int := [99, 117, 112, 0, 0, 0, 0, 0]
theorem cup8_byt : Byt cup8 := by unfold Byt; decide
def ca15 : List Int := turnA [] 2 0 1 cup8 3
def cb15 : List Int := turnA [] 3 1 1 cup8 1
theorem ca15_ok : AOks [ca15] := fun a h => by rw [List.mem_singleton] at h; rw [h]; exact turnA_ok AOks.nil (by decide) (by decide) (by decide) rfl cup8_byt (by decide)
theorem cb15_ok : AOks [cb15] := fun a h => by rw [List.mem_singleton] at h; rw [h]; exact turnA_ok AOks.nil (by decide) (by decide) (by decide) rfl cup8_byt (by decide)
theorem ct1 : turnP [] 2 0 1 cup8 3 = [ca15] := by decide +kernel
theorem ct2 : turnE [] 2 0 1 cup8 3 = 0 := by decide +kernel
theorem ct3 : turnP [] 3 1 1 cup8 1 = [cb15] := by decide +kernel
theorem ct4 : turnE [] 3 1 1 cup8 1 = 0 := by decide +kernel
theorem ct5 : totL (normP (normP ([ca15] ++ [cb15]))) 1 cup8 = 2 := by decide +kernel

theorem c_law15alive  (w0 : World) :
    CallR Try.prog 76 #[] w0 fun v w' => v = .bool true ∧ Ext w0 w' := by
 have hS : St NoB w0 w0 [] := St.start w0
 refine c_enter (l := [undef, undef, undef, undef, undef, undef, undef, undef, undef, undef, undef, undef, undef, undef, undef, undef, undef, undef, undef, undef, undef, undef, undef, undef, undef, undef, undef, undef, undef, undef, undef]) Try.func76 rfl (by simp only [Try.ntmps76, List.size_toArray, List.length_cons, List.length_nil, Nat.reduceAdd, Nat.reduceSub, Array.replicate_succ, Array.replicate_zero, List.push_toArray, List.append_toArray, List.nil_append, List.cons_append]) ?_
 refine x_seq fun K1 hK1 => ?_
 refine x_region ?_
 refine s_go (s_assign) ?_
 try simp only [opv, n1, n2, n3, n4, Value.cells]
 refine x_nil ?_
 refine hK1 _ _ ?_
 refine x_seq fun K2 hK2 => ?_
 refine x_region ?_
 refine s_go (s_build_arr (cells := #[_, _, _, .int .u8 0, .int .u8 0, .int .u8 0, .int .u8 0, .int .u8 0]) Try.underlying31 ti31 ti5 (hc := by simp only [List.map_toArray, List.map_cons, List.map_nil, opv, n1, n2, n3, n4, Value.cells, List.toList_toArray]; (repeat (refine fill_cons rfl rfl (Nat.le_of_ble_eq_true rfl) ?_)); rfl)) ?_
 try simp only [opv, n1, n2, n3, n4, Value.cells]
 rw [show (#[.int .u8 99, .int .u8 117, .int .u8 112, .int .u8 0, .int .u8 0, .int .u8 0, .int .u8 0, .int .u8 0] : Array Value) = ic .u8 cup8 from rfl]
 refine m_alloc ti31 hS (fun w1 g1 hS => ?_)
 try simp only [opv, n1, n2, n3, n4, Value.cells, Array.toArray_toList] at hS ⊢
 have hn0l : nm0.length = 8 := rfl
 have hh8 : cup8.length = 8 := rfl
 replace hS : St _ _ w1 (.obj g1 (.cells (ic .u8 nm0) 31 (0, 0)) :: _) := hS
 first | refine m_store_obj ti31 (hS := hS) (hc := by first | exact zi_set rfl (by omega) | exact zi_whole (by omega) (by omega) | (first | exact splice_ic (by first | omega | (simp [*]; done) | (simp [*]; omega)) | exact splice_il (by first | omega | (simp [*]; done) | (simp [*]; omega)) | exact splice_whole (by first | (simp [opv, Value.cells, *]; done) | rfl) | (simp only [opv, n1, n2, Value.cells, splice, List.take_succ_cons, List.take_zero, List.drop_succ_cons, List.drop_zero, List.length_cons, List.length_nil, Nat.zero_add, Nat.reduceAdd, List.append_assoc, List.cons_append, List.nil_append]; rfl))) (hv := by first | rfl | (show (zi _ _).toArray.size = _; rw [zi_size (by omega)]; rfl) | (simp [opv, Value.cells, *]; done)) (hfit := by first | omega | (rw [zi_size (by omega)]; first | rfl | decide) | (simp only [ic_size, List.length_map, List.size_toArray]; first | omega | decide) | rfl | (simp [*]; done) | (simp [*]; omega)) (h1 := by first | exact zi_one _ _ | exact ic_one _ _ | simp [opv, Value.cells, Value.oneCell']) (h := fun w2 hS => ?_) | refine m_store_vec ti31 (hS := hS) (hc := by first | exact zi_set rfl (by omega) | exact zi_whole (by omega) (by omega) | (first | exact splice_ic (by first | omega | (simp [*]; done) | (simp [*]; omega)) | exact splice_il (by first | omega | (simp [*]; done) | (simp [*]; omega)) | exact splice_whole (by first | (simp [opv, Value.cells, *]; done) | rfl) | (simp only [opv, n1, n2, Value.cells, splice, List.take_succ_cons, List.take_zero, List.drop_succ_cons, List.drop_zero, List.length_cons, List.length_nil, Nat.zero_add, Nat.reduceAdd, List.append_assoc, List.cons_append, List.nil_append]; rfl))) (hv := by first | rfl | (show (zi _ _).toArray.size = _; rw [zi_size (by omega)]; rfl) | (simp [opv, Value.cells, *]; done)) (hfit := by first | omega | (rw [zi_size (by omega)]; first | rfl | decide) | (simp only [ic_size, List.length_map, List.size_toArray]; first | omega | decide) | rfl | (simp [*]; done) | (simp [*]; omega)) (h1 := by first | exact zi_one _ _ | exact ic_one _ _ | simp [opv, Value.cells, Value.oneCell']) (h := fun w2 hS => ?_)
 try simp only [opv, n1, n2, n3, n4, Value.cells, Array.toArray_toList] at hS ⊢
 refine x_nil ?_
 refine hK2 _ _ ?_
 refine x_seq fun K3 hK3 => ?_
 refine x_region ?_
 first | refine s_go (m_load_row Try.underlying31 (hi := ti31) (hS := hS) (hfit := by first | omega | (rw [zi_size (by omega)]; first | rfl | decide) | (simp only [ic_size, List.length_map, List.size_toArray]; first | omega | decide) | rfl | (simp [*]; done) | (simp [*]; omega))) ?_ | refine s_go (m_loada_obj Try.underlying31 (hi := ti31) (hS := hS) (hfit := by first | omega | (rw [zi_size (by omega)]; first | rfl | decide) | (simp only [ic_size, List.length_map, List.size_toArray]; first | omega | decide) | rfl | (simp [*]; done) | (simp [*]; omega))) ?_ | refine s_go (m_loada_bx Try.underlying31 (hi := ti31) (hS := hS) (hfit := by first | omega | (rw [zi_size (by omega)]; first | rfl | decide) | (simp only [ic_size, List.length_map, List.size_toArray]; first | omega | decide) | rfl | (simp [*]; done) | (simp [*]; omega))) ?_ | refine s_go (m_loada_rd Try.underlying31 (hi := ti31) (hS := hS) (hfit := by first | omega | (rw [zi_size (by omega)]; first | rfl | decide) | (simp only [ic_size, List.length_map, List.size_toArray]; first | omega | decide) | rfl | (simp [*]; done) | (simp [*]; omega))) ?_ | refine s_go (m_loada_vec Try.underlying31 (hi := ti31) (hS := hS) (hfit := by first | omega | (rw [zi_size (by omega)]; first | rfl | decide) | (simp only [ic_size, List.length_map, List.size_toArray]; first | omega | decide) | rfl | (simp [*]; done) | (simp [*]; omega))) ?_
 try simp only [opv, n1, n2, n3, n4, Value.cells, List.getElem_toArray, List.getElem_cons_zero, List.getElem_cons_succ]
 replace hS := hS.rd_none none 21
 refine s_call en77 ?_
 try simp only [opv, n1, n2, n3, n4, Value.cells, List.map_toArray, List.map_cons, List.map_nil, List.append_toArray, List.cons_append, List.nil_append, Array.append_empty]
 refine CallR.mono (c_countRaise _ none 0 [] (hS.hasRd (by repeat (first | exact Has.head | apply Has.tail))) AOks.nil (by decide) 0 (by decide) 1 (by decide) cup8 rfl cup8_byt 3 (by decide) (by decide)) ?_
 rintro _ w3 ⟨Aa, ca, rfl, hC3⟩
 replace hS := hS.call hC3
 simp only [List.cons_append, List.nil_append] at hS
 rw [ct1] at hS ⊢
 rw [ct2]
 try simp only [opv, n1, n2, n3, n4, Value.cells]
 refine s_go (s_move) ?_
 try simp only [opv, n1, n2, n3, n4, Value.cells]
 refine s_go (s_extract (hv := rfl)) ?_
 try simp only [List.getElem_toArray, List.getElem_cons_zero, List.getElem_cons_succ]
 try simp only [opv, n1, n2, n3, n4, Value.cells]
 refine s_go (s_extract (hv := rfl)) ?_
 try simp only [List.getElem_toArray, List.getElem_cons_zero, List.getElem_cons_succ]
 try simp only [opv, n1, n2, n3, n4, Value.cells]
 refine s_go (s_assign) ?_
 try simp only [opv, n1, n2, n3, n4, Value.cells]
 refine s_go (s_assign) ?_
 try simp only [opv, n1, n2, n3, n4, Value.cells]
 refine x_nil ?_
 refine hK3 _ _ ?_
 refine x_seq fun K4 hK4 => ?_
 refine x_region ?_
 first | refine s_go (m_load_row Try.underlying31 (hi := ti31) (hS := hS) (hfit := by first | omega | (rw [zi_size (by omega)]; first | rfl | decide) | (simp only [ic_size, List.length_map, List.size_toArray]; first | omega | decide) | rfl | (simp [*]; done) | (simp [*]; omega))) ?_ | refine s_go (m_loada_obj Try.underlying31 (hi := ti31) (hS := hS) (hfit := by first | omega | (rw [zi_size (by omega)]; first | rfl | decide) | (simp only [ic_size, List.length_map, List.size_toArray]; first | omega | decide) | rfl | (simp [*]; done) | (simp [*]; omega))) ?_ | refine s_go (m_loada_bx Try.underlying31 (hi := ti31) (hS := hS) (hfit := by first | omega | (rw [zi_size (by omega)]; first | rfl | decide) | (simp only [ic_size, List.length_map, List.size_toArray]; first | omega | decide) | rfl | (simp [*]; done) | (simp [*]; omega))) ?_ | refine s_go (m_loada_rd Try.underlying31 (hi := ti31) (hS := hS) (hfit := by first | omega | (rw [zi_size (by omega)]; first | rfl | decide) | (simp only [ic_size, List.length_map, List.size_toArray]; first | omega | decide) | rfl | (simp [*]; done) | (simp [*]; omega))) ?_ | refine s_go (m_loada_vec Try.underlying31 (hi := ti31) (hS := hS) (hfit := by first | omega | (rw [zi_size (by omega)]; first | rfl | decide) | (simp only [ic_size, List.length_map, List.size_toArray]; first | omega | decide) | rfl | (simp [*]; done) | (simp [*]; omega))) ?_
 try simp only [opv, n1, n2, n3, n4, Value.cells, List.getElem_toArray, List.getElem_cons_zero, List.getElem_cons_succ]
 refine s_call en79 ?_
 try simp only [opv, n1, n2, n3, n4, Value.cells, List.map_toArray, List.map_cons, List.map_nil, List.append_toArray, List.cons_append, List.nil_append, Array.append_empty]
 refine CallR.mono (c_countLower _ none 0 [] (hS.hasRd (by repeat (first | exact Has.head | apply Has.tail))) AOks.nil (by decide) 1 (by decide) 1 (by decide) cup8 rfl cup8_byt 1 (by decide) (by decide)) ?_
 rintro _ w4 ⟨Ab, cb, rfl, hC4⟩
 replace hS := hS.call hC4
 simp only [List.cons_append, List.nil_append] at hS
 rw [ct3] at hS ⊢
 rw [ct4]
 try simp only [opv, n1, n2, n3, n4, Value.cells]
 refine s_go (s_move) ?_
 try simp only [opv, n1, n2, n3, n4, Value.cells]
 refine s_go (s_extract (hv := rfl)) ?_
 try simp only [List.getElem_toArray, List.getElem_cons_zero, List.getElem_cons_succ]
 try simp only [opv, n1, n2, n3, n4, Value.cells]
 refine s_go (s_extract (hv := rfl)) ?_
 try simp only [List.getElem_toArray, List.getElem_cons_zero, List.getElem_cons_succ]
 try simp only [opv, n1, n2, n3, n4, Value.cells]
 refine s_go (s_assign) ?_
 try simp only [opv, n1, n2, n3, n4, Value.cells]
 refine s_go (s_assign) ?_
 try simp only [opv, n1, n2, n3, n4, Value.cells]
 refine x_nil ?_
 refine hK4 _ _ ?_
 refine x_seq fun K5 hK5 => ?_
 refine x_mixed_c (Lc := [.vec Ab cb 39 21 ([cb15]).length (arows ([cb15])), .vec Aa ca 39 21 ([ca15]).length (arows ([ca15])), .obj g1 (.cells (ic .u8 cup8) 31 (0, 0))]) [] 0 [0, 17, 18, 19, 20, 21, 22, 23, 24, 25, 26, 27, 28, 29, 30] (fun f w => f 0 = .bool true ∧ Ext w0 w) (by kernel_rfl) (by kernel_rfl) (by kernel_rfl) (by decide) hS (fun w5 hS => ?mixpre401) ?mixrest401
 case mixpre401 =>
  refine p_nil ?_
  simp only [List.length_cons, List.length_nil, Nat.reduceAdd, Nat.reduceSub]
  refine any_go (i := 0) (by rfl) (by decide +kernel) (by decide +kernel) noLate_nil (go_yields w_none (fun w hS => s_move)) ?_
  try simp only [opv, n1, n2, n3, n4, Value.cells]
  refine any_go (i := 1) (by rfl) (by decide +kernel) (by decide +kernel) noLate_nil (go_yields w_none (fun w hS => s_eql)) ?_
  try simp only [opv, n1, n2, n3, n4, Value.cells]
  try simp only [eq_self, decide_true, beq_self_eq_true, Bool.and_self]
  refine any_go (i := 2) (by rfl) (by decide +kernel) (by decide +kernel) noLate_nil (go_yields w_none (fun w hS => s_move)) ?_
  try simp only [opv, n1, n2, n3, n4, Value.cells]
  refine any_go (i := 3) (by rfl) (by decide +kernel) (by decide +kernel) noLate_nil (go_yields (w_on (yi (t := 19) rfl rfl)) (fun w hS => s_move)) ?_
  try simp only [opv, n1, n2, n3, n4, Value.cells]
  refine any_go (i := 4) (by rfl) (by decide +kernel) (by decide +kernel) noLate_nil (go_yields (w_on (yi (t := 19) rfl rfl)) (fun w hS => s_eql)) ?_
  try simp only [opv, n1, n2, n3, n4, Value.cells]
  try simp only [eq_self, decide_true, beq_self_eq_true, Bool.and_self]
  first | refine any_go (i := 5) (by rfl) (by decide +kernel) (by decide +kernel) noLate_nil (go_yields w_none (fun w hS => s_pick_t)) ?_ | refine any_go (i := 5) (by rfl) (by decide +kernel) (by decide +kernel) noLate_nil (go_yields w_none (fun w hS => s_pick_f)) ?_
  try simp only [opv, n1, n2, n3, n4, Value.cells]
  refine any_go (i := 6) (by rfl) (by decide +kernel) (by decide +kernel) noLate_nil (go_yields w_none (fun w hS => s_move)) ?_
  try simp only [opv, n1, n2, n3, n4, Value.cells]
  refine any_go (i := 7) (by rfl) (by decide +kernel) (by decide +kernel) noLate_nil (go_yields (w_on (yi (t := 23) rfl rfl)) (fun w hS => s_move)) ?_
  try simp only [opv, n1, n2, n3, n4, Value.cells]
  refine any_go (i := 8) (by rfl) (by decide +kernel) (by decide +kernel) noLate_nil (go_yields (w_on (yi (t := 23) rfl rfl)) (fun w hS => s_move)) ?_
  try simp only [opv, n1, n2, n3, n4, Value.cells]
  first | refine any_go (i := 10) (by rfl) (by decide +kernel) (by decide +kernel) noLate_nil (go_yields (w_on (yi (t := 23) rfl rfl)) (fun w hS => m_load_row Try.underlying31 (hi := ti31) (hS := hS) (hfit := by first | omega | (rw [zi_size (by omega)]; first | rfl | decide) | (simp only [ic_size, List.length_map, List.size_toArray]; first | omega | decide) | rfl | (simp [*]; done) | (simp [*]; omega)))) ?_ | refine any_go (i := 10) (by rfl) (by decide +kernel) (by decide +kernel) noLate_nil (go_yields (w_on (yi (t := 23) rfl rfl)) (fun w hS => m_loada_obj Try.underlying31 (hi := ti31) (hS := hS) (hfit := by first | omega | (rw [zi_size (by omega)]; first | rfl | decide) | (simp only [ic_size, List.length_map, List.size_toArray]; first | omega | decide) | rfl | (simp [*]; done) | (simp [*]; omega)))) ?_ | refine any_go (i := 10) (by rfl) (by decide +kernel) (by decide +kernel) noLate_nil (go_yields (w_on (yi (t := 23) rfl rfl)) (fun w hS => m_loada_bx Try.underlying31 (hi := ti31) (hS := hS) (hfit := by first | omega | (rw [zi_size (by omega)]; first | rfl | decide) | (simp only [ic_size, List.length_map, List.size_toArray]; first | omega | decide) | rfl | (simp [*]; done) | (simp [*]; omega)))) ?_ | refine any_go (i := 10) (by rfl) (by decide +kernel) (by decide +kernel) noLate_nil (go_yields (w_on (yi (t := 23) rfl rfl)) (fun w hS => m_loada_rd Try.underlying31 (hi := ti31) (hS := hS) (hfit := by first | omega | (rw [zi_size (by omega)]; first | rfl | decide) | (simp only [ic_size, List.length_map, List.size_toArray]; first | omega | decide) | rfl | (simp [*]; done) | (simp [*]; omega)))) ?_ | refine any_go (i := 10) (by rfl) (by decide +kernel) (by decide +kernel) noLate_nil (go_yields (w_on (yi (t := 23) rfl rfl)) (fun w hS => m_loada_vec Try.underlying31 (hi := ti31) (hS := hS) (hfit := by first | omega | (rw [zi_size (by omega)]; first | rfl | decide) | (simp only [ic_size, List.length_map, List.size_toArray]; first | omega | decide) | rfl | (simp [*]; done) | (simp [*]; omega)))) ?_
  try simp only [opv, n1, n2, n3, n4, Value.cells, List.getElem_toArray, List.getElem_cons_zero, List.getElem_cons_succ]
  refine any_step [9] (by kernel_rfl) (by decide) (fun w6 hE => ⟨fun _ => (hS.ext hE).sel (by repeat (first | exact Sel.nil | (refine Sel.cons (by repeat (first | exact Del.head | apply Del.tail)) ?_))), ?_⟩)
  replace hS := hS.ext hE
  intro i hi
  simp only [List.mem_cons, List.not_mem_nil, or_false] at hi
  subst hi
  ·
   refine any_op (by rfl) ?_
   refine g_on (yi (t := 23) rfl rfl) ?_
   refine s_call en34 ?_
   try simp only [opv, n1, n2, n3, n4, Value.cells, List.map_toArray, List.map_cons, List.map_nil, List.append_toArray, List.cons_append, List.nil_append, Array.append_empty]
   refine CallR.mono (c_ref10Join _ Aa ca [ca15] (hS.vecRd (by repeat (first | exact Has.head | apply Has.tail))) ca15_ok Ab cb [cb15] (hS.vecRd (by repeat (first | exact Has.head | apply Has.tail))) cb15_ok (by decide)) ?_
   rintro _ w7 ⟨A7, c7, rfl, hC7⟩
   replace hS := hS.call hC7
   simp only [List.cons_append, List.nil_append] at hS
   have hj := (norm_sta (ca15_ok.app cb15_ok)).ok
   try simp only [opv, n1, n2, n3, n4, Value.cells]
   refine x_nil ?_
   refine any_step [11] (by kernel_rfl) (by decide) (fun w8 hE => ⟨fun _ => (hS.ext hE).sel (by repeat (first | exact Sel.nil | (refine Sel.cons (by repeat (first | exact Del.head | apply Del.tail)) ?_))), ?_⟩)
   replace hS := hS.ext hE
   intro i hi
   simp only [List.mem_cons, List.not_mem_nil, or_false] at hi
   subst hi
   ·
    refine any_op (by rfl) ?_
    refine g_on (yi (t := 23) rfl rfl) ?_
    refine s_call en82 ?_
    try simp only [opv, n1, n2, n3, n4, Value.cells, List.map_toArray, List.map_cons, List.map_nil, List.append_toArray, List.cons_append, List.nil_append, Array.append_empty]
    refine CallR.mono (c_countTotal _ _ _ _ (hS.vecRd (by repeat (first | exact Has.head | apply Has.tail))) hj (by decide +kernel) 1 (by decide) cup8 rfl) ?_
    rintro _ w9 ⟨rfl, hE9⟩
    replace hS := hS.ext hE9
    try simp only [opv, n1, n2, n3, n4, Value.cells]
    first | rw [ct5] | rw [show totL (normP (normP [ca15, cb15])) 1 cup8 = 2 from ct5]
    refine x_nil ?_
    refine any_go (i := 12) (by rfl) (by decide +kernel) (by decide +kernel) noLate_nil (go_yields (w_on (yi (t := 23) rfl rfl)) (fun w hS => s_eql)) ?_
    try simp only [opv, n1, n2, n3, n4, Value.cells]
    try simp only [eq_self, decide_true, beq_self_eq_true, Bool.and_self]
    first | refine any_go (i := 13) (by rfl) (by decide +kernel) (by decide +kernel) noLate_nil (go_yields w_none (fun w hS => s_pick_t)) ?_ | refine any_go (i := 13) (by rfl) (by decide +kernel) (by decide +kernel) noLate_nil (go_yields w_none (fun w hS => s_pick_f)) ?_
    try simp only [opv, n1, n2, n3, n4, Value.cells]
    refine any_go (i := 14) (by rfl) (by decide +kernel) (by decide +kernel) noLate_nil (go_yields w_none (fun w hS => s_assign)) ?_
    try simp only [opv, n1, n2, n3, n4, Value.cells]
    refine any_nil (by kernel_rfl) (fun w10 hE => ?_)
    replace hS := hS.ext hE
    refine ⟨fun _ => hS.sel (by repeat (first | exact Sel.nil | (refine Sel.cons (by repeat (first | exact Del.head | apply Del.tail)) ?_))), ?_⟩
    refine mix_leaf (by simp only [clob, List.foldl, n1, n2, n3, n4]) ?_
    try simp only [n1, n2]
    exact ⟨by first | trivial | rfl, hS.ext_of⟩
 intro fm1 w11 hM
 obtain ⟨h0, hEE⟩ := hM
 simp only [clob, List.foldl, n3, n4, h0]
 refine hK5 _ _ ?_
 refine x_ret ?_
 refine r_tmp rfl ?_
 exact ⟨rfl, hEE⟩
end Go.Proofs.Ytmgacmkikefpjaa
set_option linter.unusedSimpArgs false
set_option linter.unusedVariables false
set_option maxHeartbeats 1000000
set_option maxRecDepth 100000
namespace Go.Proofs.Ytmgacmkikefpjaa
open Go.RowKit

theorem addw_u16 (a : Nat) : IntKind.u16.wrap ((a : Int) + 1) = (((a + 1) % 65536 : Nat) : Int) := by rw [wp_u16]; omega
section
variable {l : List (List Int)} {r c : Nat} {tx : List Int} (hv : AOks l) (hr8 : r < 256) (hc : c < 65536) (h8 : tx.length = 8) (hb : Byt tx) (h : noteE l r tx c = 0)
include hv hr8 hc h8 hb h
end
end Go.Proofs.Ytmgacmkikefpjaa
set_option linter.unusedSimpArgs false
set_option linter.unusedVariables false
set_option maxHeartbeats 1000000
set_option maxRecDepth 100000
namespace Go.Proofs.Ytmgacmkikefpjaa
open Go.RowKit

theorem ask15_set {r c : Nat} {it : List Int} {n m : Int} (h : it.length = 8) : (ask15 r c it n).set 10 m = ask15 r c it m := by
  match it, h with
  | [_, _, _, _, _, _, _, _], _ => rfl
theorem ask15_sc {r c m : Nat} {it : List Int} {n : Int} (h : it.length = 8) : splice (zi ask15Ks (ask15 r c it n)).toArray.toList 1 [.int .u16 (m : Int)] = zi ask15Ks (ask15 r m it n) := by
  match it, h with
  | [_, _, _, _, _, _, _, _], _ => rfl
theorem ask15_si {r c : Nat} {it jt : List Int} {n : Int} (h : it.length = 8) (h2 : jt.length = 8) : splice (zi ask15Ks (ask15 r c it n)).toArray.toList 2 (ic .u8 jt).toList = zi ask15Ks (ask15 r c jt n) := by
  match it, jt, h, h2 with
  | [_, _, _, _, _, _, _, _], [_, _, _, _, _, _, _, _], _, _ => rfl
theorem tot_cons (a : List Int) (s : List (List Int)) (c : Nat) (it : List Int) : totL (a :: s) c it = totA c it a + totL s c it := rfl
def totO (c : Nat) (it k : List Int) : Option (List Int) → Int
  | none => 0
  | some v => totA c it (k ++ v)
theorem tot_ins {a : List Int} (ha : AtomOk a) {c : Nat} {it : List Int} : ∀ {s : List (List Int)}, StaR s → totL (insA a s) c it + totO c it (akey a) (fnd (akey a) s) = totL s c it + totO c it (akey a) (moreO (fnd (akey a) s) (some (aval a)))
  | [], _ => by simp [insA, fnd, moreO, totO, totL, kv_atom]
  | b :: s, h => by
    have hb := h.ok b (by simp)
    rw [insA, fnd]
    by_cases e : akey b = akey a
    · have e2 : akey a ++ aval b = b := by rw [← e, kv_atom]
      rw [if_pos e, if_pos e, tot_cons, tot_cons]
      simp only [moreO, totO]
      rw [e2]; omega
    · rw [if_neg e, if_neg e]
      cases hlt : keyLt (akey a) (akey b)
      · simp only [Bool.false_eq_true, if_false]
        rw [tot_cons, tot_cons]
        have := tot_ins ha (c := c) (it := it) h.tail
        omega
      · simp only [if_true]
        have : fnd (akey a) s = none := fnd_none.2 fun d hd h2 => by
          rw [lt_rank ha.key hb.key] at hlt
          have hlt := of_decide_eq_true hlt
          have h3 := h.head d hd
          rw [h2] at h3; omega
        rw [this, tot_cons a]
        simp only [moreO, totO, kv_atom]; omega
theorem totA_turn {s r c : Nat} {it v : List Int} (hs : s = 2 ∨ s = 3) (h8 : it.length = 8) (c' : Nat) : totA c' it (turnK s r c it ++ v) = if c = c' then (if s = 2 then (kn v 0 : Int) else -(kn v 0 : Int)) else 0 := by
  have hk : (turnK s r c it).length = 12 := mkKey_len h8
  have e0 : kn (turnK s r c it ++ v) 0 = s := rfl
  have e1 : kn (turnK s r c it ++ v) 1 = c := rfl
  have e2 : kitem (turnK s r c it) = it := mk_item h8
  unfold totA
  rw [akey_kv hk, aval_kv hk, e0, e1, e2]
  by_cases h : c = c'
  · rw [if_pos ⟨hs, h, rfl⟩, if_pos h]
  · rw [if_neg (fun q => h q.2.1), if_neg h]
theorem turnE_iff {l : List (List Int)} {s r c : Nat} {it : List Int} {n : Int} (h : turnE l s r c it n = 0) : r < 16 ∧ 0 ≤ n ∧ nright it = true ∧ (halfN l (turnK s r c it) : Int) + n ≤ 4294967295 := by
  unfold turnE at h
  split at h
  · cases h
  · next h1 =>
    split at h
    · cases h
    · next h2 =>
      refine ⟨by omega, by omega, ?_, by omega⟩
      cases hn : nright it
      · exact absurd (.inr (.inr hn)) h1
      · rfl
theorem turnA_r {l : List (List Int)} {s r c : Nat} {it : List Int} {n : Int} (hs : s = 2 ∨ s = 3) (h8 : it.length = 8) (h : turnE l s r c it n = 0) (hn : ¬ n = 0) : atomR (turnA l s r c it n) = true := by
  obtain ⟨h1, h2, h3, h4⟩ := turnE_iff h
  have hk : (turnK s r c it).length = 12 := mkKey_len h8
  have e0 : kn (turnK s r c it) 0 = s := rfl
  have e1 : kn (turnK s r c it) 11 = 0 := mk_11 h8
  have e2 : kn (turnK s r c it) 10 = r := mk_10 h8
  have e3 : kitem (turnK s r c it) = it := mk_item h8
  have e4 : kn (turnA l s r c it n) 0 = s := rfl
  have e5 : aval (turnA l s r c it n) = mkV (halfN l (turnK s r c it) + n.toNat) nm0 := by rw [turnA, aval_kv hk]
  have e6 : akey (turnA l s r c it n) = turnK s r c it := by rw [turnA, akey_kv hk]
  have e7 : kn (mkV (halfN l (turnK s r c it) + n.toNat) nm0) 0 = halfN l (turnK s r c it) + n.toNat := by
    show ((halfN l (turnK s r c it) + n.toNat : Nat) : Int).toNat = _; omega
  rw [atomR, e6, e5, e4, Bool.and_eq_true]
  constructor
  · rw [keyR, e0, if_neg (by omega), if_neg (by omega), if_pos hs, e1, e2, e3, h3]; simp [h1]
  · rw [valR, if_neg (by omega), if_pos hs, Bool.and_eq_true, e7]
    exact ⟨decide_eq_true rfl, decide_eq_true ⟨by omega, by omega⟩⟩
theorem turn_more {l : List (List Int)} (hv : AOks l) {s r c : Nat} {it : List Int} {n : Int} (hs : s = 2 ∨ s = 3) (hr : r < 256) (hc : c < 65536) (h8 : it.length = 8) (hb : Byt it) (hn : 0 < n) (hn2 : n ≤ 9223372036854775807) :
    moreO (fnd (turnK s r c it) (normP l)) (some (mkV (halfN l (turnK s r c it) + n.toNat) nm0)) = some (mkV (halfN l (turnK s r c it) + n.toNat) nm0) := by
  have hk : (turnK s r c it).length = 12 := mkKey_len h8
  have hX : ValOk (mkV (halfN l (turnK s r c it) + n.toNat) nm0) := by
    have := (turnA_ok (n := n) hv hs hr hc h8 hb hn2).val
    rw [turnA, aval_kv hk] at this; exact this
  cases hf : fnd (turnK s r c it) (normP l) with
  | none => rfl
  | some v =>
    have hvo := fnd_ok (norm_sta hv).ok hf
    have e : halfN l (turnK s r c it) = kn v 0 := by rw [halfN, if_pos (turnK_half hs), hf]; rfl
    have e7 : kn (mkV (halfN l (turnK s r c it) + n.toNat) nm0) 0 = halfN l (turnK s r c it) + n.toNat := by
      show ((halfN l (turnK s r c it) + n.toNat : Nat) : Int).toNat = _; omega
    have h1 := rank_lt hvo
    have : overV v (mkV (halfN l (turnK s r c it) + n.toNat) nm0) = false := by
      rw [over_rank hvo hX]
      refine decide_eq_false fun h => ?_
      unfold rankV at h
      rw [e7, e] at h
      omega
    show some (moreV v _) = _
    rw [moreV, this]; rfl
theorem turn_old {l : List (List Int)} {s r c : Nat} {it : List Int} (hs : s = 2 ∨ s = 3) (h8 : it.length = 8) (c' : Nat) : totO c' it (turnK s r c it) (fnd (turnK s r c it) (normP l)) = if c = c' then (if s = 2 then (halfN l (turnK s r c it) : Int) else -(halfN l (turnK s r c it) : Int)) else 0 := by
  have e : halfN l (turnK s r c it) = kn ((fnd (turnK s r c it) (normP l)).getD v9) 0 := by rw [halfN, if_pos (turnK_half hs)]
  rw [e]
  cases fnd (turnK s r c it) (normP l) with
  | none =>
    show (0 : Int) = _
    have : kn v9 0 = 0 := rfl
    simp [this]
  | some v => exact totA_turn hs h8 c'
def gain (s : Nat) (n : Int) : Int := if s = 2 then n else -n
theorem turn_add {l m : List (List Int)} (hv : AOks l) (hm : AOks m) {s r c : Nat} {it : List Int} {n : Int} (hs : s = 2 ∨ s = 3) (hr : r < 256) (hc : c < 65536) (h8 : it.length = 8) (hb : Byt it) (hn2 : n ≤ 9223372036854775807)
    (hf : fnd (turnK s r c it) (normP m) = fnd (turnK s r c it) (normP l)) (c' : Nat) :
    totL (normP (m ++ turnP l s r c it n)) c' it = totL (normP m) c' it + if c = c' then (if turnE l s r c it n = 0 then gain s n else 0) else 0 := by
  by_cases h : turnE l s r c it n = 0
  · rw [if_pos h]
    by_cases hn : n = 0
    · subst hn
      rw [turnP_no (.inr rfl), List.append_nil]
      simp [gain]
    · obtain ⟨_, h2, _, _⟩ := turnE_iff h
      have hk : (turnK s r c it).length = 12 := mkKey_len h8
      have e5 : aval (turnA l s r c it n) = mkV (halfN l (turnK s r c it) + n.toNat) nm0 := by rw [turnA, aval_kv hk]
      have e6 : akey (turnA l s r c it n) = turnK s r c it := by rw [turnA, akey_kv hk]
      have e7 : kn (mkV (halfN l (turnK s r c it) + n.toNat) nm0) 0 = halfN l (turnK s r c it) + n.toNat := by
        show ((halfN l (turnK s r c it) + n.toNat : Nat) : Int).toNat = _; omega
      have ht := tot_ins (turnA_ok hv hs hr hc h8 hb hn2) (c := c') (it := it) (norm_sta hm)
      rw [e6, e5, hf, turn_more hv hs hr hc h8 hb (by omega) hn2, turn_old hs h8] at ht
      have ht2 : totO c' it (turnK s r c it) (some (mkV (halfN l (turnK s r c it) + n.toNat) nm0)) = _ := totA_turn hs h8 c'
      rw [ht2, e7] at ht
      rw [turnP_yes h hn, norm_snoc, if_pos (turnA_r hs h8 h hn)]
      unfold gain
      by_cases hcc : c = c'
      · simp only [if_pos hcc] at ht ⊢
        rcases hs with rfl | rfl
        · simp only [if_true] at ht ⊢; omega
        · simp only [show ¬ (3 : Nat) = 2 from by decide, if_false] at ht ⊢; omega
      · simp only [if_neg hcc] at ht ⊢; omega
  · rw [turnP_no (.inl h), List.append_nil, if_neg h]; simp
theorem fnd_turn {l : List (List Int)} (hv : AOks l) {s r c s2 r2 : Nat} {it : List Int} {n : Int} (hs : s = 2 ∨ s = 3) (hr : r < 256) (hc : c < 65536) (h8 : it.length = 8) (hb : Byt it) (hn2 : n ≤ 9223372036854775807) (hrr : ¬ r = r2) :
    fnd (turnK s2 r2 c it) (normP (l ++ turnP l s r c it n)) = fnd (turnK s2 r2 c it) (normP l) := by
  by_cases h : turnE l s r c it n = 0 ∧ ¬ n = 0
  · have hk : (turnK s r c it).length = 12 := mkKey_len h8
    rw [turnP_yes h.1 h.2, norm_snoc, if_pos (turnA_r hs h8 h.1 h.2), fnd_ins (turnA_ok hv hs hr hc h8 hb hn2) _ (norm_sta hv), if_neg]
    rw [turnA, akey_kv hk]
    intro e
    have e2 : kn (turnK s r c it) 10 = kn (turnK s2 r2 c it) 10 := by rw [e]
    rw [show kn (turnK s r c it) 10 = r from mk_10 h8, show kn (turnK s2 r2 c it) 10 = r2 from mk_10 h8] at e2
    exact hrr e2
  · rw [turnP_no, List.append_nil]
    by_cases h2 : turnE l s r c it n = 0
    · exact .inr (Decidable.not_not.1 fun h3 => h ⟨h2, h3⟩)
    · exact .inl h2
/-- what a replica's atoms give an item -/
structure Gives (l : List (List Int)) (r c : Nat) (it : List Int) (a : List (List Int)) (n : Int) : Prop where
  ok : AOks a
  one : a.length ≤ 1
  lo : -4294967295 ≤ n
  hi : n ≤ 4294967295
  how : ∃ (s : Nat) (m : Int), (s = 2 ∨ s = 3) ∧ m ≤ 9223372036854775807 ∧ a = turnP l s r c it m ∧ n = if turnE l s r c it m = 0 then gain s m else 0
theorem gives_nil {l : List (List Int)} {r c : Nat} {it : List Int} : Gives l r c it [] 0 := ⟨AOks.nil, by simp, by decide, by decide, 2, 0, .inl rfl, by decide, by rw [turnP_no (.inr rfl)], by simp [gain]⟩
theorem gives_turn {l : List (List Int)} (hv : AOks l) {r c : Nat} {it : List Int} {n : Int} (hr : r < 256) (hc : c < 65536) (h8 : it.length = 8) (hb : Byt it) (hn2 : n ≤ 9223372036854775807) (h : turnE l (shiftS n) r c it (shiftN n) = 0) : Gives l r c it (turnP l (shiftS n) r c it (shiftN n)) n := by
  obtain ⟨_, h2, _, h4⟩ := turnE_iff h
  have hg : n = gain (shiftS n) (shiftN n) := by
    by_cases h0 : 0 ≤ n
    · rw [(shift_p h0).1, (shift_p h0).2]; rfl
    · rw [(shift_m h0).2] at h4
      rw [(shift_m h0).1, (shift_m h0).2, gain, if_neg (by decide)]; omega
  have hb2 : -4294967295 ≤ n ∧ n ≤ 4294967295 := by
    by_cases h0 : 0 ≤ n
    · rw [(shift_p h0).2] at h4; omega
    · rw [(shift_m h0).2] at h4; omega
  exact ⟨turnP_ok hv (shiftS_or n) hr hc h8 hb (shiftN_le hn2).1, turnP_len _ _ _ _ _ _, hb2.1, hb2.2, _, _, shiftS_or n, (shiftN_le hn2).1, rfl, by rw [if_pos h]; exact hg⟩
theorem gives_add {l : List (List Int)} (hv : AOks l) {r c r2 : Nat} {it : List Int} {a b : List (List Int)} {n nb : Int} (hr : r < 256) (hr2 : r2 < 256) (hc : c < 65536) (h8 : it.length = 8) (hb : Byt it) (hrr : ¬ r = r2) (ha : Gives l r c it a n) (hg : Gives l r2 c it b nb) (c' : Nat) :
    totL (normP (normP (l ++ normP (a ++ b)))) c' it = totL (normP l) c' it + if c = c' then n + nb else 0 := by
  obtain ⟨hao, _, _, _, s, m, hs, hm, ea, en⟩ := ha
  obtain ⟨hbo, _, _, _, s2, m2, hs2, hm2, eb, en2⟩ := hg
  rw [norm_app_r hv (hao.app hbo), norm_norm (hv.app (hao.app hbo)), ← List.append_assoc]
  subst ea eb
  rw [turn_add hv (hv.app hao) hs2 hr2 hc h8 hb hm2 (fnd_turn hv hs hr hc h8 hb hm hrr), turn_add hv hv hs hr hc h8 hb hm rfl, en, en2]
  by_cases hcc : c = c'
  · simp only [if_pos hcc]; omega
  · simp only [if_neg hcc]; omega
end Go.Proofs.Ytmgacmkikefpjaa
set_option linter.unusedSimpArgs false
set_option linter.unusedVariables false
set_option maxHeartbeats 2000000
set_option maxRecDepth 100000
namespace Go.Proofs.Ytmgacmkikefpjaa
open Go.RowKit
theorem c_CountAdds (w0 : World) (A : Option Addr) (c : Nat) (l : List (List Int)) (hr : Rd w0 A 21 l.length (arows l)) (hv : AOks l) (hn : l.length ≤ 900000000000000) (r : Nat) (hr8 : r < 256) (ct : Nat) (hct : ct < 65536) (it : List Int) (h8 : it.length = 8) (hbt : Byt it) (n : Int) (hn1 : -9223372036854775808 ≤ n) (hn2 : n ≤ 9223372036854775807) (r2 : Nat) (hr82 : r2 < 256) (ct2 : Nat) (hct2 : ct2 < 65536) (it2 : List Int) (h82 : it2.length = 8) (hbt2 : Byt it2) (nb : Int) (hnb1 : -9223372036854775808 ≤ nb) (hnb2 : nb ≤ 9223372036854775807)  :
    CallR Try.prog 16 #[.slice A l.length c, .agg (KAsk15 r ct it n), .agg (KAsk15 r2 ct2 it2 nb)] w0 fun v w' => v = .bool true ∧ Ext w0 w' := by
 have hS := St.rd1 (S := NoB) hr
 have hakl := ask15_len (r := r) (c := ct) (n := n) h8
 have hakl2 := ask15_len (r := r2) (c := ct2) (n := nb) h82
 have hakl3 := ask15_len (r := r2) (c := ct) (n := nb) h8
 have hakl4 := ask15_len (r := r2) (c := ct) (n := nb) h82
 have hsn := norm_sta hv
 have hc1 : ((ct + 1) % 65536) < 65536 := by omega
 have hcne : ¬ ct = ((ct + 1) % 65536) := by omega
 refine c_enter (l := [.slice A l.length c, .agg (KAsk15 r ct it n), .agg (KAsk15 r2 ct2 it2 nb), undef, undef, undef, undef, undef, undef, undef, undef, undef, undef, undef, undef, undef, undef, undef, undef, undef, undef, undef, undef, undef, undef, undef, undef, undef, undef, undef, undef, undef, undef, undef, undef, undef, undef, undef, undef, undef, undef, undef, undef, undef, undef, undef, undef, undef, undef, undef, undef, undef, undef, undef, undef, undef, undef, undef, undef, undef, undef, undef, undef, undef, undef, undef, undef, undef, undef, undef, undef, undef, undef, undef, undef, undef, undef, undef, undef, undef, undef, undef, undef, undef, undef, undef, undef, undef, undef, undef, undef, undef, undef, undef, undef, undef, undef, undef, undef, undef, undef, undef, undef, undef, undef, undef, undef, undef, undef, undef, undef, undef, undef, undef, undef]) Try.func16 rfl (by simp only [Try.ntmps16, List.size_toArray, List.length_cons, List.length_nil, Nat.reduceAdd, Nat.reduceSub, Array.replicate_succ, Array.replicate_zero, List.push_toArray, List.append_toArray, List.nil_append, List.cons_append]) ?_
 refine x_seq fun K1 hK1 => ?_
 refine x_region ?_
 refine m_box hS (fun w1 g1 hS => ?_)
 try simp only [opv, n1, n2, n3, n4, Value.cells, Array.toArray_toList] at hS ⊢
 obtain ⟨ga, hga⟩ : ∃ z, z = g1 := ⟨_, rfl⟩
 rw [← hga] at hS ⊢
 refine m_box hS (fun w2 g2 hS => ?_)
 try simp only [opv, n1, n2, n3, n4, Value.cells, Array.toArray_toList] at hS ⊢
 obtain ⟨gb, hgb⟩ : ∃ z, z = g2 := ⟨_, rfl⟩
 rw [← hgb] at hS ⊢
 refine s_go (s_assign) ?_
 try simp only [opv, n1, n2, n3, n4, Value.cells]
 refine x_nil ?_
 refine hK1 _ _ ?_
 refine x_seq fun K2 hK2 => ?_
 refine x_seq fun K3 hK3 => ?_
 refine x_region ?_
 refine s_go (s_move) ?_
 try simp only [opv, n1, n2, n3, n4, Value.cells]
 refine s_go (s_len_sl Try.underlying24) ?_
 try simp only [opv, n1, n2, n3, n4, Value.cells]
 refine s_go (s_gtr) ?_
 try simp only [opv, n1, n2, n3, n4, Value.cells]
 refine s_go (s_move) ?_
 try simp only [opv, n1, n2, n3, n4, Value.cells]
 refine s_part 17 rfl (fun hp1 => ?_) (fun hp1 => ?_)
 ·
  try simp only [n3, n4]
  try simp only [decide_eq_true_eq, decide_eq_false_iff_not, Bool.not_eq_true', Bool.not_eq_false', Int.not_lt, Int.not_le, ne_eq, Decidable.not_not] at hp1
  first
  | (exfalso; omega)
  | skip
    refine g_off (yi (t := 17) rfl rfl) ?_
    try simp only [opv, n1, n2, n3, n4, Value.cells]
    refine g_off (yi (t := 17) rfl rfl) ?_
    try simp only [opv, n1, n2, n3, n4, Value.cells]
    refine g_off (yi (t := 17) rfl rfl) ?_
    try simp only [opv, n1, n2, n3, n4, Value.cells]
    refine g_off (yi (t := 17) rfl rfl) ?_
    try simp only [opv, n1, n2, n3, n4, Value.cells]
    first | refine s_go (s_pick_t) ?_ | refine s_go (s_pick_f) ?_
    try simp only [opv, n1, n2, n3, n4, Value.cells]
    refine x_nil ?_
    refine hK3 _ _ ?_
    refine x_cond_t (h := ?_)
    refine x_seq fun K4 hK4 => ?_
    refine x_region ?_
    refine s_call en76 ?_
    try simp only [opv, n1, n2, n3, n4, Value.cells, List.map_toArray, List.map_cons, List.map_nil, List.append_toArray, List.cons_append, List.nil_append, Array.append_empty]
    refine CallR.mono (c_law15alive _) ?_
    rintro _ w3 ⟨rfl, hE3⟩
    replace hS := hS.ext hE3
    try simp only [opv, n1, n2, n3, n4, Value.cells]
    refine s_go (s_assign) ?_
    try simp only [opv, n1, n2, n3, n4, Value.cells]
    refine x_nil ?_
    refine hK4 _ _ ?_
    refine x_ret ?_
    refine r_tmp rfl ?_
    first | exact ⟨rfl, hEE⟩ | exact ⟨rfl, hS.ext_of⟩
 ·
  try simp only [n3, n4]
  try simp only [decide_eq_true_eq, decide_eq_false_iff_not, Bool.not_eq_true', Bool.not_eq_false', Int.not_lt, Int.not_le, ne_eq, Decidable.not_not] at hp1
  first
  | (exfalso; omega)
  | skip
    refine g_on (yi (t := 17) rfl rfl) ?_
    first | refine s_go (m_fieldAddr Try.underlying83 (hi := ti31)) ?_ | refine s_go (m_fieldAddr_rd Try.underlying83 (hi := ti31) (hS := hS)) ?_ | refine s_go (m_fieldAddr_vec Try.underlying83 (hi := ti31) (hS := hS)) ?_
    try simp only [opv, n1, n2, n3, n4, Value.cells, Nat.zero_add, Nat.add_zero, List.getElem_toArray, List.getElem_cons_zero, List.getElem_cons_succ]
    refine g_on (yi (t := 17) rfl rfl) ?_
    first | refine s_go (m_load_row Try.underlying31 (hi := ti31) (hS := hS) (hfit := by first | omega | (rw [zi_size (by omega)]; first | rfl | decide) | (simp only [ic_size, List.length_map, List.size_toArray]; first | omega | decide) | rfl | (simp [*]; done) | (simp [*]; omega))) ?_ | refine s_go (m_loada_obj Try.underlying31 (hi := ti31) (hS := hS) (hfit := by first | omega | (rw [zi_size (by omega)]; first | rfl | decide) | (simp only [ic_size, List.length_map, List.size_toArray]; first | omega | decide) | rfl | (simp [*]; done) | (simp [*]; omega))) ?_ | refine s_go (m_loada_bx Try.underlying31 (hi := ti31) (hS := hS) (hfit := by first | omega | (rw [zi_size (by omega)]; first | rfl | decide) | (simp only [ic_size, List.length_map, List.size_toArray]; first | omega | decide) | rfl | (simp [*]; done) | (simp [*]; omega))) ?_ | refine s_go (m_loada_rd Try.underlying31 (hi := ti31) (hS := hS) (hfit := by first | omega | (rw [zi_size (by omega)]; first | rfl | decide) | (simp only [ic_size, List.length_map, List.size_toArray]; first | omega | decide) | rfl | (simp [*]; done) | (simp [*]; omega))) ?_ | refine s_go (m_loada_vec Try.underlying31 (hi := ti31) (hS := hS) (hfit := by first | omega | (rw [zi_size (by omega)]; first | rfl | decide) | (simp only [ic_size, List.length_map, List.size_toArray]; first | omega | decide) | rfl | (simp [*]; done) | (simp [*]; omega))) ?_
    try simp only [opv, n1, n2, n3, n4, Value.cells, List.getElem_toArray, List.getElem_cons_zero, List.getElem_cons_succ]
    rw [ask15_text h8]
    refine g_on (yi (t := 17) rfl rfl) ?_
    refine s_call en75 ?_
    try simp only [opv, n1, n2, n3, n4, Value.cells, List.map_toArray, List.map_cons, List.map_nil, List.append_toArray, List.cons_append, List.nil_append, Array.append_empty]
    refine CallR.mono (c_ref06Right _ (by first | assumption | omega) (by assumption) _) ?_
    rintro _ w4 ⟨rfl, hE4⟩
    replace hS := hS.ext hE4
    try simp only [opv, n1, n2, n3, n4, Value.cells]
    refine g_on (yi (t := 17) rfl rfl) ?_
    refine s_go (s_not) ?_
    try simp only [opv, n1, n2, n3, n4, Value.cells]
    first | refine s_go (s_pick_t) ?_ | refine s_go (s_pick_f) ?_
    try simp only [opv, n1, n2, n3, n4, Value.cells]
    refine x_nil ?_
    refine hK3 _ _ ?_
    refine x_cond (ht := fun hc2 => ?_) (hf := fun hc2 => ?_)
    ·
     try simp only [decide_eq_true_eq, decide_eq_false_iff_not, Bool.not_eq_true', Bool.not_eq_false', Int.not_lt, Int.not_le, ne_eq, Decidable.not_not, bne_iff_ne, beq_iff_eq, not_true_eq_false, not_false_eq_true] at hc2
     first
     | (exfalso; omega)
     | skip
       refine x_seq fun K5 hK5 => ?_
       refine x_region ?_
       refine s_call en76 ?_
       try simp only [opv, n1, n2, n3, n4, Value.cells, List.map_toArray, List.map_cons, List.map_nil, List.append_toArray, List.cons_append, List.nil_append, Array.append_empty]
       refine CallR.mono (c_law15alive _) ?_
       rintro _ w5 ⟨rfl, hE5⟩
       replace hS := hS.ext hE5
       try simp only [opv, n1, n2, n3, n4, Value.cells]
       refine s_go (s_assign) ?_
       try simp only [opv, n1, n2, n3, n4, Value.cells]
       refine x_nil ?_
       refine hK5 _ _ ?_
       refine x_ret ?_
       refine r_tmp rfl ?_
       first | exact ⟨rfl, hEE⟩ | exact ⟨rfl, hS.ext_of⟩
    ·
     try simp only [decide_eq_true_eq, decide_eq_false_iff_not, Bool.not_eq_true', Bool.not_eq_false', Int.not_lt, Int.not_le, ne_eq, Decidable.not_not, bne_iff_ne, beq_iff_eq, not_true_eq_false, not_false_eq_true] at hc2
     first
     | (exfalso; omega)
     | skip
       have hn4 : l.length ≤ 40 := by omega
       have htb := tot_le (c := ct) (it := it) hsn
       have hnl := norm_len l
       refine x_skip ?_
       refine hK2 _ _ ?_
       refine x_seq fun K6 hK6 => ?_
       refine x_mixed_c (Lc := [.obj ga (.cells (KAsk15 r ct it n) 83 (0, 0))]) [] 0 [24, 25, 26, 27, 28, 29] (fun f w => St NoB w0 w [.obj gb (.cells (KAsk15 r2 ct it nb) 83 (0, 0)), .obj ga (.cells (KAsk15 r ct it n) 83 (0, 0)), .rd A 21 (l).length (arows (l))]) (by kernel_rfl) (by kernel_rfl) (by kernel_rfl) (by decide) hS (fun w6 hS => ?mixpre301) ?mixrest301
       case mixpre301 =>
        refine p_nil ?_
        simp only [List.length_cons, List.length_nil, Nat.reduceAdd, Nat.reduceSub]
        first | refine any_go (i := 0) (by rfl) (by decide +kernel) (by decide +kernel) noLate_nil (go_yields w_none (fun w hS => m_fieldAddr Try.underlying83 (hi := ti29))) ?_ | refine any_go (i := 0) (by rfl) (by decide +kernel) (by decide +kernel) noLate_nil (go_yields w_none (fun w hS => m_fieldAddr_rd Try.underlying83 (hi := ti29) (hS := hS))) ?_ | refine any_go (i := 0) (by rfl) (by decide +kernel) (by decide +kernel) noLate_nil (go_yields w_none (fun w hS => m_fieldAddr_vec Try.underlying83 (hi := ti29) (hS := hS))) ?_
        try simp only [opv, n1, n2, n3, n4, Value.cells, Nat.zero_add, Nat.add_zero, List.getElem_toArray, List.getElem_cons_zero, List.getElem_cons_succ]
        first | refine any_go (i := 1) (by rfl) (by decide +kernel) (by decide +kernel) noLate_nil (go_yields w_none (fun w hS => m_load_obj Try.underlying29 (hS := hS) (hv := by show _ = some (Value.int IntKind.u16 (ct : Int)); rfl))) ?_ | refine any_go (i := 1) (by rfl) (by decide +kernel) (by decide +kernel) noLate_nil (go_yields w_none (fun w hS => m_load_bx Try.underlying29 (hS := hS) (hv := by show _ = some (Value.int IntKind.u16 (ct : Int)); rfl))) ?_ | refine any_go (i := 1) (by rfl) (by decide +kernel) (by decide +kernel) noLate_nil (go_yields w_none (fun w hS => m_load_rd Try.underlying29 (hS := hS) (hv := by show _ = some (Value.int IntKind.u16 (ct : Int)); rfl))) ?_ | refine any_go (i := 1) (by rfl) (by decide +kernel) (by decide +kernel) noLate_nil (go_yields w_none (fun w hS => m_load_vec Try.underlying29 (hS := hS) (hv := by show _ = some (Value.int IntKind.u16 (ct : Int)); rfl))) ?_
        try simp only [opv, n1, n2, n3, n4, Value.cells, List.getElem_toArray, List.getElem_cons_zero, List.getElem_cons_succ]
        try rw [show (ask15 r ct it n).getD 1 0 = (ct : Int) from rfl]
        first | refine any_go (i := 2) (by rfl) (by decide +kernel) (by decide +kernel) noLate_nil (go_yields w_none (fun w hS => m_fieldAddr Try.underlying83 (hi := ti31))) ?_ | refine any_go (i := 2) (by rfl) (by decide +kernel) (by decide +kernel) noLate_nil (go_yields w_none (fun w hS => m_fieldAddr_rd Try.underlying83 (hi := ti31) (hS := hS))) ?_ | refine any_go (i := 2) (by rfl) (by decide +kernel) (by decide +kernel) noLate_nil (go_yields w_none (fun w hS => m_fieldAddr_vec Try.underlying83 (hi := ti31) (hS := hS))) ?_
        try simp only [opv, n1, n2, n3, n4, Value.cells, Nat.zero_add, Nat.add_zero, List.getElem_toArray, List.getElem_cons_zero, List.getElem_cons_succ]
        first | refine any_go (i := 3) (by rfl) (by decide +kernel) (by decide +kernel) noLate_nil (go_yields w_none (fun w hS => m_load_row Try.underlying31 (hi := ti31) (hS := hS) (hfit := by first | omega | (rw [zi_size (by omega)]; first | rfl | decide) | (simp only [ic_size, List.length_map, List.size_toArray]; first | omega | decide) | rfl | (simp [*]; done) | (simp [*]; omega)))) ?_ | refine any_go (i := 3) (by rfl) (by decide +kernel) (by decide +kernel) noLate_nil (go_yields w_none (fun w hS => m_loada_obj Try.underlying31 (hi := ti31) (hS := hS) (hfit := by first | omega | (rw [zi_size (by omega)]; first | rfl | decide) | (simp only [ic_size, List.length_map, List.size_toArray]; first | omega | decide) | rfl | (simp [*]; done) | (simp [*]; omega)))) ?_ | refine any_go (i := 3) (by rfl) (by decide +kernel) (by decide +kernel) noLate_nil (go_yields w_none (fun w hS => m_loada_bx Try.underlying31 (hi := ti31) (hS := hS) (hfit := by first | omega | (rw [zi_size (by omega)]; first | rfl | decide) | (simp only [ic_size, List.length_map, List.size_toArray]; first | omega | decide) | rfl | (simp [*]; done) | (simp [*]; omega)))) ?_ | refine any_go (i := 3) (by rfl) (by decide +kernel) (by decide +kernel) noLate_nil (go_yields w_none (fun w hS => m_loada_rd Try.underlying31 (hi := ti31) (hS := hS) (hfit := by first | omega | (rw [zi_size (by omega)]; first | rfl | decide) | (simp only [ic_size, List.length_map, List.size_toArray]; first | omega | decide) | rfl | (simp [*]; done) | (simp [*]; omega)))) ?_ | refine any_go (i := 3) (by rfl) (by decide +kernel) (by decide +kernel) noLate_nil (go_yields w_none (fun w hS => m_loada_vec Try.underlying31 (hi := ti31) (hS := hS) (hfit := by first | omega | (rw [zi_size (by omega)]; first | rfl | decide) | (simp only [ic_size, List.length_map, List.size_toArray]; first | omega | decide) | rfl | (simp [*]; done) | (simp [*]; omega)))) ?_
        try simp only [opv, n1, n2, n3, n4, Value.cells, List.getElem_toArray, List.getElem_cons_zero, List.getElem_cons_succ]
        rw [ask15_text h8]
        first | refine any_go (i := 4) (by rfl) (by decide +kernel) (by decide +kernel) noLate_nil (go_yields w_none (fun w hS => m_fieldAddr Try.underlying83 (hi := ti29))) ?_ | refine any_go (i := 4) (by rfl) (by decide +kernel) (by decide +kernel) noLate_nil (go_yields w_none (fun w hS => m_fieldAddr_rd Try.underlying83 (hi := ti29) (hS := hS))) ?_ | refine any_go (i := 4) (by rfl) (by decide +kernel) (by decide +kernel) noLate_nil (go_yields w_none (fun w hS => m_fieldAddr_vec Try.underlying83 (hi := ti29) (hS := hS))) ?_
        try simp only [opv, n1, n2, n3, n4, Value.cells, Nat.zero_add, Nat.add_zero, List.getElem_toArray, List.getElem_cons_zero, List.getElem_cons_succ]
        refine any_step [5] (by kernel_rfl) (by decide) (fun w7 hE => ⟨fun _ => (hS.ext hE).sel (by repeat (first | exact Sel.nil | (refine Sel.cons (by repeat (first | exact Del.head | apply Del.tail)) ?_))), ?_⟩)
        replace hS := hS.ext hE
        intro i hi
        simp only [List.mem_cons, List.not_mem_nil, or_false] at hi
        subst hi
        ·
         refine any_op (by rfl) ?_
         first | refine m_store_obj ti29 (hS := hS) (hc := by exact ask15_sc h82) (hv := by first | rfl | (show (zi _ _).toArray.size = _; rw [zi_size (by omega)]; rfl) | (simp [opv, Value.cells, *]; done)) (hfit := by first | omega | (rw [zi_size (by omega)]; first | rfl | decide) | (simp only [ic_size, List.length_map, List.size_toArray]; first | omega | decide) | rfl | (simp [*]; done) | (simp [*]; omega)) (h1 := by first | exact zi_one _ _ | exact ic_one _ _ | simp [opv, Value.cells, Value.oneCell']) (h := fun w8 hS => ?_) | refine m_store_vec ti29 (hS := hS) (hc := by exact ask15_sc h82) (hv := by first | rfl | (show (zi _ _).toArray.size = _; rw [zi_size (by omega)]; rfl) | (simp [opv, Value.cells, *]; done)) (hfit := by first | omega | (rw [zi_size (by omega)]; first | rfl | decide) | (simp only [ic_size, List.length_map, List.size_toArray]; first | omega | decide) | rfl | (simp [*]; done) | (simp [*]; omega)) (h1 := by first | exact zi_one _ _ | exact ic_one _ _ | simp [opv, Value.cells, Value.oneCell']) (h := fun w8 hS => ?_)
         try simp only [opv, n1, n2, n3, n4, Value.cells, Array.toArray_toList] at hS ⊢
         refine x_nil ?_
         first | refine any_go (i := 6) (by rfl) (by decide +kernel) (by decide +kernel) noLate_nil (go_yields w_none (fun w hS => m_fieldAddr Try.underlying83 (hi := ti31))) ?_ | refine any_go (i := 6) (by rfl) (by decide +kernel) (by decide +kernel) noLate_nil (go_yields w_none (fun w hS => m_fieldAddr_rd Try.underlying83 (hi := ti31) (hS := hS))) ?_ | refine any_go (i := 6) (by rfl) (by decide +kernel) (by decide +kernel) noLate_nil (go_yields w_none (fun w hS => m_fieldAddr_vec Try.underlying83 (hi := ti31) (hS := hS))) ?_
         try simp only [opv, n1, n2, n3, n4, Value.cells, Nat.zero_add, Nat.add_zero, List.getElem_toArray, List.getElem_cons_zero, List.getElem_cons_succ]
         refine any_step [7] (by kernel_rfl) (by decide) (fun w9 hE => ⟨fun _ => (hS.ext hE).sel (by repeat (first | exact Sel.nil | (refine Sel.cons (by repeat (first | exact Del.head | apply Del.tail)) ?_))), ?_⟩)
         replace hS := hS.ext hE
         intro i hi
         simp only [List.mem_cons, List.not_mem_nil, or_false] at hi
         subst hi
         ·
          refine any_op (by rfl) ?_
          first | refine m_store_obj ti31 (hS := hS) (hc := by exact ask15_si h82 h8) (hv := by first | rfl | (show (zi _ _).toArray.size = _; rw [zi_size (by omega)]; rfl) | (simp [opv, Value.cells, *]; done)) (hfit := by first | omega | (rw [zi_size (by omega)]; first | rfl | decide) | (simp only [ic_size, List.length_map, List.size_toArray]; first | omega | decide) | rfl | (simp [*]; done) | (simp [*]; omega)) (h1 := by first | exact zi_one _ _ | exact ic_one _ _ | simp [opv, Value.cells, Value.oneCell']) (h := fun w10 hS => ?_) | refine m_store_vec ti31 (hS := hS) (hc := by exact ask15_si h82 h8) (hv := by first | rfl | (show (zi _ _).toArray.size = _; rw [zi_size (by omega)]; rfl) | (simp [opv, Value.cells, *]; done)) (hfit := by first | omega | (rw [zi_size (by omega)]; first | rfl | decide) | (simp only [ic_size, List.length_map, List.size_toArray]; first | omega | decide) | rfl | (simp [*]; done) | (simp [*]; omega)) (h1 := by first | exact zi_one _ _ | exact ic_one _ _ | simp [opv, Value.cells, Value.oneCell']) (h := fun w10 hS => ?_)
          try simp only [opv, n1, n2, n3, n4, Value.cells, Array.toArray_toList] at hS ⊢
          refine x_nil ?_
          refine any_nil (by kernel_rfl) (fun w11 hE => ?_)
          replace hS := hS.ext hE
          refine ⟨fun _ => hS.sel (by repeat (first | exact Sel.nil | (refine Sel.cons (by repeat (first | exact Del.head | apply Del.tail)) ?_))), ?_⟩
          refine mix_leaf (by simp only [clob, List.foldl, n1, n2, n3, n4]) ?_
          try simp only [n1, n2]
          exact hS.sel (by repeat (first | exact Sel.nil | (refine Sel.cons (by repeat (first | exact Del.head | apply Del.tail)) ?_)))
       intro fm1 w12 hM
       replace hS := hM
       simp only [clob, List.foldl, n3, n4]
       refine hK6 _ _ ?_
       refine x_seq fun K7 hK7 => ?_
       refine x_region ?_
       refine s_go (s_move) ?_
       try simp only [opv, n1, n2, n3, n4, Value.cells]
       first | refine s_go (m_fieldAddr Try.underlying83 (hi := ti29)) ?_ | refine s_go (m_fieldAddr_rd Try.underlying83 (hi := ti29) (hS := hS)) ?_ | refine s_go (m_fieldAddr_vec Try.underlying83 (hi := ti29) (hS := hS)) ?_
       try simp only [opv, n1, n2, n3, n4, Value.cells, Nat.zero_add, Nat.add_zero, List.getElem_toArray, List.getElem_cons_zero, List.getElem_cons_succ]
       first | refine s_go (m_load_obj Try.underlying29 (hS := hS) (hv := by first | rfl | exact zi_get rfl (by omega) | exact ic_get (by omega) | exact il_get (by omega))) ?_ | refine s_go (m_load_bx Try.underlying29 (hS := hS) (hv := by first | rfl | exact zi_get rfl (by omega) | exact ic_get (by omega) | exact il_get (by omega))) ?_ | refine s_go (m_load_rd Try.underlying29 (hS := hS) (hv := by first | rfl | exact zi_get rfl (by omega) | exact ic_get (by omega) | exact il_get (by omega))) ?_ | refine s_go (m_load_vec Try.underlying29 (hS := hS) (hv := by first | rfl | exact zi_get rfl (by omega) | exact ic_get (by omega) | exact il_get (by omega))) ?_
       try simp only [opv, n1, n2, n3, n4, Value.cells, List.getElem_toArray, List.getElem_cons_zero, List.getElem_cons_succ]
       try rw [show (ask15 r ct it n).getD 1 0 = (ct : Int) from rfl]
       first | refine s_go (m_fieldAddr Try.underlying83 (hi := ti31)) ?_ | refine s_go (m_fieldAddr_rd Try.underlying83 (hi := ti31) (hS := hS)) ?_ | refine s_go (m_fieldAddr_vec Try.underlying83 (hi := ti31) (hS := hS)) ?_
       try simp only [opv, n1, n2, n3, n4, Value.cells, Nat.zero_add, Nat.add_zero, List.getElem_toArray, List.getElem_cons_zero, List.getElem_cons_succ]
       first | refine s_go (m_load_row Try.underlying31 (hi := ti31) (hS := hS) (hfit := by first | omega | (rw [zi_size (by omega)]; first | rfl | decide) | (simp only [ic_size, List.length_map, List.size_toArray]; first | omega | decide) | rfl | (simp [*]; done) | (simp [*]; omega))) ?_ | refine s_go (m_loada_obj Try.underlying31 (hi := ti31) (hS := hS) (hfit := by first | omega | (rw [zi_size (by omega)]; first | rfl | decide) | (simp only [ic_size, List.length_map, List.size_toArray]; first | omega | decide) | rfl | (simp [*]; done) | (simp [*]; omega))) ?_ | refine s_go (m_loada_bx Try.underlying31 (hi := ti31) (hS := hS) (hfit := by first | omega | (rw [zi_size (by omega)]; first | rfl | decide) | (simp only [ic_size, List.length_map, List.size_toArray]; first | omega | decide) | rfl | (simp [*]; done) | (simp [*]; omega))) ?_ | refine s_go (m_loada_rd Try.underlying31 (hi := ti31) (hS := hS) (hfit := by first | omega | (rw [zi_size (by omega)]; first | rfl | decide) | (simp only [ic_size, List.length_map, List.size_toArray]; first | omega | decide) | rfl | (simp [*]; done) | (simp [*]; omega))) ?_ | refine s_go (m_loada_vec Try.underlying31 (hi := ti31) (hS := hS) (hfit := by first | omega | (rw [zi_size (by omega)]; first | rfl | decide) | (simp only [ic_size, List.length_map, List.size_toArray]; first | omega | decide) | rfl | (simp [*]; done) | (simp [*]; omega))) ?_
       try simp only [opv, n1, n2, n3, n4, Value.cells, List.getElem_toArray, List.getElem_cons_zero, List.getElem_cons_succ]
       rw [ask15_text h8]
       refine s_call en82 ?_
       try simp only [opv, n1, n2, n3, n4, Value.cells, List.map_toArray, List.map_cons, List.map_nil, List.append_toArray, List.cons_append, List.nil_append, Array.append_empty]
       refine CallR.mono (c_countTotal _ A c l (hS.hasRd (by repeat (first | exact Has.head | apply Has.tail))) hv (by omega) ct hct it h8) ?_
       rintro _ w13 ⟨rfl, hE13⟩
       replace hS := hS.ext hE13
       try simp only [opv, n1, n2, n3, n4, Value.cells]
       refine s_go (s_assign) ?_
       try simp only [opv, n1, n2, n3, n4, Value.cells]
       refine x_nil ?_
       refine hK7 _ _ ?_
       refine x_seq fun K8 hK8 => ?_
       refine x_region ?_
       refine s_go (s_move) ?_
       try simp only [opv, n1, n2, n3, n4, Value.cells]
       first | refine s_go (m_fieldAddr Try.underlying83 (hi := ti29)) ?_ | refine s_go (m_fieldAddr_rd Try.underlying83 (hi := ti29) (hS := hS)) ?_ | refine s_go (m_fieldAddr_vec Try.underlying83 (hi := ti29) (hS := hS)) ?_
       try simp only [opv, n1, n2, n3, n4, Value.cells, Nat.zero_add, Nat.add_zero, List.getElem_toArray, List.getElem_cons_zero, List.getElem_cons_succ]
       first | refine s_go (m_load_obj Try.underlying29 (hS := hS) (hv := by first | rfl | exact zi_get rfl (by omega) | exact ic_get (by omega) | exact il_get (by omega))) ?_ | refine s_go (m_load_bx Try.underlying29 (hS := hS) (hv := by first | rfl | exact zi_get rfl (by omega) | exact ic_get (by omega) | exact il_get (by omega))) ?_ | refine s_go (m_load_rd Try.underlying29 (hS := hS) (hv := by first | rfl | exact zi_get rfl (by omega) | exact ic_get (by omega) | exact il_get (by omega))) ?_ | refine s_go (m_load_vec Try.underlying29 (hS := hS) (hv := by first | rfl | exact zi_get rfl (by omega) | exact ic_get (by omega) | exact il_get (by omega))) ?_
       try simp only [opv, n1, n2, n3, n4, Value.cells, List.getElem_toArray, List.getElem_cons_zero, List.getElem_cons_succ]
       try rw [show (ask15 r ct it n).getD 1 0 = (ct : Int) from rfl]
       refine s_go (s_add (hc := addw_u16 ct)) ?_
       try simp only [opv, n1, n2, n3, n4, Value.cells]
       first | refine s_go (m_fieldAddr Try.underlying83 (hi := ti31)) ?_ | refine s_go (m_fieldAddr_rd Try.underlying83 (hi := ti31) (hS := hS)) ?_ | refine s_go (m_fieldAddr_vec Try.underlying83 (hi := ti31) (hS := hS)) ?_
       try simp only [opv, n1, n2, n3, n4, Value.cells, Nat.zero_add, Nat.add_zero, List.getElem_toArray, List.getElem_cons_zero, List.getElem_cons_succ]
       first | refine s_go (m_load_row Try.underlying31 (hi := ti31) (hS := hS) (hfit := by first | omega | (rw [zi_size (by omega)]; first | rfl | decide) | (simp only [ic_size, List.length_map, List.size_toArray]; first | omega | decide) | rfl | (simp [*]; done) | (simp [*]; omega))) ?_ | refine s_go (m_loada_obj Try.underlying31 (hi := ti31) (hS := hS) (hfit := by first | omega | (rw [zi_size (by omega)]; first | rfl | decide) | (simp only [ic_size, List.length_map, List.size_toArray]; first | omega | decide) | rfl | (simp [*]; done) | (simp [*]; omega))) ?_ | refine s_go (m_loada_bx Try.underlying31 (hi := ti31) (hS := hS) (hfit := by first | omega | (rw [zi_size (by omega)]; first | rfl | decide) | (simp only [ic_size, List.length_map, List.size_toArray]; first | omega | decide) | rfl | (simp [*]; done) | (simp [*]; omega))) ?_ | refine s_go (m_loada_rd Try.underlying31 (hi := ti31) (hS := hS) (hfit := by first | omega | (rw [zi_size (by omega)]; first | rfl | decide) | (simp only [ic_size, List.length_map, List.size_toArray]; first | omega | decide) | rfl | (simp [*]; done) | (simp [*]; omega))) ?_ | refine s_go (m_loada_vec Try.underlying31 (hi := ti31) (hS := hS) (hfit := by first | omega | (rw [zi_size (by omega)]; first | rfl | decide) | (simp only [ic_size, List.length_map, List.size_toArray]; first | omega | decide) | rfl | (simp [*]; done) | (simp [*]; omega))) ?_
       try simp only [opv, n1, n2, n3, n4, Value.cells, List.getElem_toArray, List.getElem_cons_zero, List.getElem_cons_succ]
       rw [ask15_text h8]
       refine s_call en82 ?_
       try simp only [opv, n1, n2, n3, n4, Value.cells, List.map_toArray, List.map_cons, List.map_nil, List.append_toArray, List.cons_append, List.nil_append, Array.append_empty]
       refine CallR.mono (c_countTotal _ A c l (hS.hasRd (by repeat (first | exact Has.head | apply Has.tail))) hv (by omega) ((ct + 1) % 65536) hc1 it h8) ?_
       rintro _ w14 ⟨rfl, hE14⟩
       replace hS := hS.ext hE14
       try simp only [opv, n1, n2, n3, n4, Value.cells]
       refine s_go (s_assign) ?_
       try simp only [opv, n1, n2, n3, n4, Value.cells]
       refine x_nil ?_
       refine hK8 _ _ ?_
       refine x_seq fun K9 hK9 => ?_
       refine x_region ?_
       refine s_go (s_move) ?_
       try simp only [opv, n1, n2, n3, n4, Value.cells]
       first | refine s_go (m_fieldAddr Try.underlying83 (hi := ti5)) ?_ | refine s_go (m_fieldAddr_rd Try.underlying83 (hi := ti5) (hS := hS)) ?_ | refine s_go (m_fieldAddr_vec Try.underlying83 (hi := ti5) (hS := hS)) ?_
       try simp only [opv, n1, n2, n3, n4, Value.cells, Nat.zero_add, Nat.add_zero, List.getElem_toArray, List.getElem_cons_zero, List.getElem_cons_succ]
       first | refine s_go (m_load_obj Try.underlying5 (hS := hS) (hv := by first | rfl | exact zi_get rfl (by omega) | exact ic_get (by omega) | exact il_get (by omega))) ?_ | refine s_go (m_load_bx Try.underlying5 (hS := hS) (hv := by first | rfl | exact zi_get rfl (by omega) | exact ic_get (by omega) | exact il_get (by omega))) ?_ | refine s_go (m_load_rd Try.underlying5 (hS := hS) (hv := by first | rfl | exact zi_get rfl (by omega) | exact ic_get (by omega) | exact il_get (by omega))) ?_ | refine s_go (m_load_vec Try.underlying5 (hS := hS) (hv := by first | rfl | exact zi_get rfl (by omega) | exact ic_get (by omega) | exact il_get (by omega))) ?_
       try simp only [opv, n1, n2, n3, n4, Value.cells, List.getElem_toArray, List.getElem_cons_zero, List.getElem_cons_succ]
       try rw [show (ask15 r ct it n).getD 0 0 = (r : Int) from rfl]
       first | refine s_go (m_fieldAddr Try.underlying83 (hi := ti29)) ?_ | refine s_go (m_fieldAddr_rd Try.underlying83 (hi := ti29) (hS := hS)) ?_ | refine s_go (m_fieldAddr_vec Try.underlying83 (hi := ti29) (hS := hS)) ?_
       try simp only [opv, n1, n2, n3, n4, Value.cells, Nat.zero_add, Nat.add_zero, List.getElem_toArray, List.getElem_cons_zero, List.getElem_cons_succ]
       first | refine s_go (m_load_obj Try.underlying29 (hS := hS) (hv := by first | rfl | exact zi_get rfl (by omega) | exact ic_get (by omega) | exact il_get (by omega))) ?_ | refine s_go (m_load_bx Try.underlying29 (hS := hS) (hv := by first | rfl | exact zi_get rfl (by omega) | exact ic_get (by omega) | exact il_get (by omega))) ?_ | refine s_go (m_load_rd Try.underlying29 (hS := hS) (hv := by first | rfl | exact zi_get rfl (by omega) | exact ic_get (by omega) | exact il_get (by omega))) ?_ | refine s_go (m_load_vec Try.underlying29 (hS := hS) (hv := by first | rfl | exact zi_get rfl (by omega) | exact ic_get (by omega) | exact il_get (by omega))) ?_
       try simp only [opv, n1, n2, n3, n4, Value.cells, List.getElem_toArray, List.getElem_cons_zero, List.getElem_cons_succ]
       try rw [show (ask15 r ct it n).getD 1 0 = (ct : Int) from rfl]
       first | refine s_go (m_fieldAddr Try.underlying83 (hi := ti31)) ?_ | refine s_go (m_fieldAddr_rd Try.underlying83 (hi := ti31) (hS := hS)) ?_ | refine s_go (m_fieldAddr_vec Try.underlying83 (hi := ti31) (hS := hS)) ?_
       try simp only [opv, n1, n2, n3, n4, Value.cells, Nat.zero_add, Nat.add_zero, List.getElem_toArray, List.getElem_cons_zero, List.getElem_cons_succ]
       first | refine s_go (m_load_row Try.underlying31 (hi := ti31) (hS := hS) (hfit := by first | omega | (rw [zi_size (by omega)]; first | rfl | decide) | (simp only [ic_size, List.length_map, List.size_toArray]; first | omega | decide) | rfl | (simp [*]; done) | (simp [*]; omega))) ?_ | refine s_go (m_loada_obj Try.underlying31 (hi := ti31) (hS := hS) (hfit := by first | omega | (rw [zi_size (by omega)]; first | rfl | decide) | (simp only [ic_size, List.length_map, List.size_toArray]; first | omega | decide) | rfl | (simp [*]; done) | (simp [*]; omega))) ?_ | refine s_go (m_loada_bx Try.underlying31 (hi := ti31) (hS := hS) (hfit := by first | omega | (rw [zi_size (by omega)]; first | rfl | decide) | (simp only [ic_size, List.length_map, List.size_toArray]; first | omega | decide) | rfl | (simp [*]; done) | (simp [*]; omega))) ?_ | refine s_go (m_loada_rd Try.underlying31 (hi := ti31) (hS := hS) (hfit := by first | omega | (rw [zi_size (by omega)]; first | rfl | decide) | (simp only [ic_size, List.length_map, List.size_toArray]; first | omega | decide) | rfl | (simp [*]; done) | (simp [*]; omega))) ?_ | refine s_go (m_loada_vec Try.underlying31 (hi := ti31) (hS := hS) (hfit := by first | omega | (rw [zi_size (by omega)]; first | rfl | decide) | (simp only [ic_size, List.length_map, List.size_toArray]; first | omega | decide) | rfl | (simp [*]; done) | (simp [*]; omega))) ?_
       try simp only [opv, n1, n2, n3, n4, Value.cells, List.getElem_toArray, List.getElem_cons_zero, List.getElem_cons_succ]
       rw [ask15_text h8]
       first | refine s_go (m_fieldAddr Try.underlying83 (hi := ti3)) ?_ | refine s_go (m_fieldAddr_rd Try.underlying83 (hi := ti3) (hS := hS)) ?_ | refine s_go (m_fieldAddr_vec Try.underlying83 (hi := ti3) (hS := hS)) ?_
       try simp only [opv, n1, n2, n3, n4, Value.cells, Nat.zero_add, Nat.add_zero, List.getElem_toArray, List.getElem_cons_zero, List.getElem_cons_succ]
       first | refine s_go (m_load_obj Try.underlying3 (hS := hS) (hv := by first | rfl | exact zi_get rfl (by omega) | exact ic_get (by omega) | exact il_get (by omega))) ?_ | refine s_go (m_load_bx Try.underlying3 (hS := hS) (hv := by first | rfl | exact zi_get rfl (by omega) | exact ic_get (by omega) | exact il_get (by omega))) ?_ | refine s_go (m_load_rd Try.underlying3 (hS := hS) (hv := by first | rfl | exact zi_get rfl (by omega) | exact ic_get (by omega) | exact il_get (by omega))) ?_ | refine s_go (m_load_vec Try.underlying3 (hS := hS) (hv := by first | rfl | exact zi_get rfl (by omega) | exact ic_get (by omega) | exact il_get (by omega))) ?_
       try simp only [opv, n1, n2, n3, n4, Value.cells, List.getElem_toArray, List.getElem_cons_zero, List.getElem_cons_succ]
       rw [ask15_n h8]
       refine s_call en80 ?_
       try simp only [opv, n1, n2, n3, n4, Value.cells, List.map_toArray, List.map_cons, List.map_nil, List.append_toArray, List.cons_append, List.nil_append, Array.append_empty]
       refine CallR.mono (c_countShift _ A c l (hS.hasRd (by repeat (first | exact Has.head | apply Has.tail))) hv (by omega) r hr8 ct hct it h8 hbt n hn1 hn2) ?_
       rintro _ w15 ⟨Az1, cz1, rfl, hC15⟩
       replace hS := hS.call hC15
       simp only [List.cons_append, List.nil_append] at hS
       try simp only [opv, n1, n2, n3, n4, Value.cells]
       refine s_go (s_move) ?_
       try simp only [opv, n1, n2, n3, n4, Value.cells]
       refine s_go (s_extract (hv := rfl)) ?_
       try simp only [List.getElem_toArray, List.getElem_cons_zero, List.getElem_cons_succ]
       try simp only [opv, n1, n2, n3, n4, Value.cells]
       refine s_go (s_extract (hv := rfl)) ?_
       try simp only [List.getElem_toArray, List.getElem_cons_zero, List.getElem_cons_succ]
       try simp only [opv, n1, n2, n3, n4, Value.cells]
       refine s_go (s_assign) ?_
       try simp only [opv, n1, n2, n3, n4, Value.cells]
       refine s_go (s_assign) ?_
       try simp only [opv, n1, n2, n3, n4, Value.cells]
       refine x_nil ?_
       refine hK9 _ _ ?_
       refine x_seq fun K10 hK10 => ?_
       refine x_region ?_
       refine s_go (s_move) ?_
       try simp only [opv, n1, n2, n3, n4, Value.cells]
       first | refine s_go (m_fieldAddr Try.underlying83 (hi := ti5)) ?_ | refine s_go (m_fieldAddr_rd Try.underlying83 (hi := ti5) (hS := hS)) ?_ | refine s_go (m_fieldAddr_vec Try.underlying83 (hi := ti5) (hS := hS)) ?_
       try simp only [opv, n1, n2, n3, n4, Value.cells, Nat.zero_add, Nat.add_zero, List.getElem_toArray, List.getElem_cons_zero, List.getElem_cons_succ]
       first | refine s_go (m_load_obj Try.underlying5 (hS := hS) (hv := by first | rfl | exact zi_get rfl (by omega) | exact ic_get (by omega) | exact il_get (by omega))) ?_ | refine s_go (m_load_bx Try.underlying5 (hS := hS) (hv := by first | rfl | exact zi_get rfl (by omega) | exact ic_get (by omega) | exact il_get (by omega))) ?_ | refine s_go (m_load_rd Try.underlying5 (hS := hS) (hv := by first | rfl | exact zi_get rfl (by omega) | exact ic_get (by omega) | exact il_get (by omega))) ?_ | refine s_go (m_load_vec Try.underlying5 (hS := hS) (hv := by first | rfl | exact zi_get rfl (by omega) | exact ic_get (by omega) | exact il_get (by omega))) ?_
       try simp only [opv, n1, n2, n3, n4, Value.cells, List.getElem_toArray, List.getElem_cons_zero, List.getElem_cons_succ]
       try rw [show (ask15 r2 ct it nb).getD 0 0 = (r2 : Int) from rfl]
       first | refine s_go (m_fieldAddr Try.underlying83 (hi := ti29)) ?_ | refine s_go (m_fieldAddr_rd Try.underlying83 (hi := ti29) (hS := hS)) ?_ | refine s_go (m_fieldAddr_vec Try.underlying83 (hi := ti29) (hS := hS)) ?_
       try simp only [opv, n1, n2, n3, n4, Value.cells, Nat.zero_add, Nat.add_zero, List.getElem_toArray, List.getElem_cons_zero, List.getElem_cons_succ]
       first | refine s_go (m_load_obj Try.underlying29 (hS := hS) (hv := by first | rfl | exact zi_get rfl (by omega) | exact ic_get (by omega) | exact il_get (by omega))) ?_ | refine s_go (m_load_bx Try.underlying29 (hS := hS) (hv := by first | rfl | exact zi_get rfl (by omega) | exact ic_get (by omega) | exact il_get (by omega))) ?_ | refine s_go (m_load_rd Try.underlying29 (hS := hS) (hv := by first | rfl | exact zi_get rfl (by omega) | exact ic_get (by omega) | exact il_get (by omega))) ?_ | refine s_go (m_load_vec Try.underlying29 (hS := hS) (hv := by first | rfl | exact zi_get rfl (by omega) | exact ic_get (by omega) | exact il_get (by omega))) ?_
       try simp only [opv, n1, n2, n3, n4, Value.cells, List.getElem_toArray, List.getElem_cons_zero, List.getElem_cons_succ]
       try rw [show (ask15 r ct it n).getD 1 0 = (ct : Int) from rfl]
       first | refine s_go (m_fieldAddr Try.underlying83 (hi := ti31)) ?_ | refine s_go (m_fieldAddr_rd Try.underlying83 (hi := ti31) (hS := hS)) ?_ | refine s_go (m_fieldAddr_vec Try.underlying83 (hi := ti31) (hS := hS)) ?_
       try simp only [opv, n1, n2, n3, n4, Value.cells, Nat.zero_add, Nat.add_zero, List.getElem_toArray, List.getElem_cons_zero, List.getElem_cons_succ]
       first | refine s_go (m_load_row Try.underlying31 (hi := ti31) (hS := hS) (hfit := by first | omega | (rw [zi_size (by omega)]; first | rfl | decide) | (simp only [ic_size, List.length_map, List.size_toArray]; first | omega | decide) | rfl | (simp [*]; done) | (simp [*]; omega))) ?_ | refine s_go (m_loada_obj Try.underlying31 (hi := ti31) (hS := hS) (hfit := by first | omega | (rw [zi_size (by omega)]; first | rfl | decide) | (simp only [ic_size, List.length_map, List.size_toArray]; first | omega | decide) | rfl | (simp [*]; done) | (simp [*]; omega))) ?_ | refine s_go (m_loada_bx Try.underlying31 (hi := ti31) (hS := hS) (hfit := by first | omega | (rw [zi_size (by omega)]; first | rfl | decide) | (simp only [ic_size, List.length_map, List.size_toArray]; first | omega | decide) | rfl | (simp [*]; done) | (simp [*]; omega))) ?_ | refine s_go (m_loada_rd Try.underlying31 (hi := ti31) (hS := hS) (hfit := by first | omega | (rw [zi_size (by omega)]; first | rfl | decide) | (simp only [ic_size, List.length_map, List.size_toArray]; first | omega | decide) | rfl | (simp [*]; done) | (simp [*]; omega))) ?_ | refine s_go (m_loada_vec Try.underlying31 (hi := ti31) (hS := hS) (hfit := by first | omega | (rw [zi_size (by omega)]; first | rfl | decide) | (simp only [ic_size, List.length_map, List.size_toArray]; first | omega | decide) | rfl | (simp [*]; done) | (simp [*]; omega))) ?_
       try simp only [opv, n1, n2, n3, n4, Value.cells, List.getElem_toArray, List.getElem_cons_zero, List.getElem_cons_succ]
       rw [ask15_text h8]
       first | refine s_go (m_fieldAddr Try.underlying83 (hi := ti3)) ?_ | refine s_go (m_fieldAddr_rd Try.underlying83 (hi := ti3) (hS := hS)) ?_ | refine s_go (m_fieldAddr_vec Try.underlying83 (hi := ti3) (hS := hS)) ?_
       try simp only [opv, n1, n2, n3, n4, Value.cells, Nat.zero_add, Nat.add_zero, List.getElem_toArray, List.getElem_cons_zero, List.getElem_cons_succ]
       first | refine s_go (m_load_obj Try.underlying3 (hS := hS) (hv := by first | rfl | exact zi_get rfl (by omega) | exact ic_get (by omega) | exact il_get (by omega))) ?_ | refine s_go (m_load_bx Try.underlying3 (hS := hS) (hv := by first | rfl | exact zi_get rfl (by omega) | exact ic_get (by omega) | exact il_get (by omega))) ?_ | refine s_go (m_load_rd Try.underlying3 (hS := hS) (hv := by first | rfl | exact zi_get rfl (by omega) | exact ic_get (by omega) | exact il_get (by omega))) ?_ | refine s_go (m_load_vec Try.underlying3 (hS := hS) (hv := by first | rfl | exact zi_get rfl (by omega) | exact ic_get (by omega) | exact il_get (by omega))) ?_
       try simp only [opv, n1, n2, n3, n4, Value.cells, List.getElem_toArray, List.getElem_cons_zero, List.getElem_cons_succ]
       rw [ask15_n h8]
       refine s_call en80 ?_
       try simp only [opv, n1, n2, n3, n4, Value.cells, List.map_toArray, List.map_cons, List.map_nil, List.append_toArray, List.cons_append, List.nil_append, Array.append_empty]
       refine CallR.mono (c_countShift _ A c l (hS.hasRd (by repeat (first | exact Has.head | apply Has.tail))) hv (by omega) r2 hr82 ct hct it h8 hbt nb hnb1 hnb2) ?_
       rintro _ w16 ⟨Az2, cz2, rfl, hC16⟩
       replace hS := hS.call hC16
       simp only [List.cons_append, List.nil_append] at hS
       try simp only [opv, n1, n2, n3, n4, Value.cells]
       refine s_go (s_move) ?_
       try simp only [opv, n1, n2, n3, n4, Value.cells]
       refine s_go (s_extract (hv := rfl)) ?_
       try simp only [List.getElem_toArray, List.getElem_cons_zero, List.getElem_cons_succ]
       try simp only [opv, n1, n2, n3, n4, Value.cells]
       refine s_go (s_extract (hv := rfl)) ?_
       try simp only [List.getElem_toArray, List.getElem_cons_zero, List.getElem_cons_succ]
       try simp only [opv, n1, n2, n3, n4, Value.cells]
       refine s_go (s_assign) ?_
       try simp only [opv, n1, n2, n3, n4, Value.cells]
       refine s_go (s_assign) ?_
       try simp only [opv, n1, n2, n3, n4, Value.cells]
       refine x_nil ?_
       refine hK10 _ _ ?_
       refine x_seq_j [9, 69, 70, 71] (fun f w => ∃ (A1 : Option Addr) (c1 : Nat) (a1 : List (List Int)) (m1 : Int), f 9 = .slice A1 a1.length c1 ∧ Gives l r ct it a1 m1 ∧ St NoB w0 w [.vec A1 c1 39 21 (a1).length (arows (a1)), .obj ga (.cells (KAsk15 r ct it m1) 83 (0, 0)), .obj gb (.cells (KAsk15 r2 ct it nb) 83 (0, 0)), .rd A 21 (l).length (arows (l)), .vec Az2 cz2 39 21 (turnP l (shiftS nb) r2 ct it (shiftN nb)).length (arows (turnP l (shiftS nb) r2 ct it (shiftN nb)))]) ?jx1 ?jy1
       case jx1 =>
        refine x_seq fun K11 hK11 => ?_
        refine x_region ?_
        refine s_go (s_move) ?_
        try simp only [opv, n1, n2, n3, n4, Value.cells]
        refine s_go (s_neq) ?_
        try simp only [opv, n1, n2, n3, n4, Value.cells]
        refine x_nil ?_
        refine hK11 _ _ ?_
        refine x_cond (ht := fun hc3 => ?_) (hf := fun hc3 => ?_)
        ·
         try simp only [decide_eq_true_eq, decide_eq_false_iff_not, Bool.not_eq_true', Bool.not_eq_false', Int.not_lt, Int.not_le, ne_eq, Decidable.not_not, bne_iff_ne, beq_iff_eq, not_true_eq_false, not_false_eq_true] at hc3
         first
         | (exfalso; omega)
         | skip
           refine x_region ?_
           refine s_go (s_assign) ?_
           try simp only [opv, n1, n2, n3, n4, Value.cells]
           first | refine s_go (m_fieldAddr Try.underlying83 (hi := ti3)) ?_ | refine s_go (m_fieldAddr_rd Try.underlying83 (hi := ti3) (hS := hS)) ?_ | refine s_go (m_fieldAddr_vec Try.underlying83 (hi := ti3) (hS := hS)) ?_
           try simp only [opv, n1, n2, n3, n4, Value.cells, Nat.zero_add, Nat.add_zero, List.getElem_toArray, List.getElem_cons_zero, List.getElem_cons_succ]
           first | refine m_store_obj ti3 (hS := hS) (hc := by first | exact zi_set rfl (by omega) | exact zi_whole (by omega) (by omega) | (first | exact splice_ic (by first | omega | (simp [*]; done) | (simp [*]; omega)) | exact splice_il (by first | omega | (simp [*]; done) | (simp [*]; omega)) | exact splice_whole (by first | (simp [opv, Value.cells, *]; done) | rfl) | (simp only [opv, n1, n2, Value.cells, splice, List.take_succ_cons, List.take_zero, List.drop_succ_cons, List.drop_zero, List.length_cons, List.length_nil, Nat.zero_add, Nat.reduceAdd, List.append_assoc, List.cons_append, List.nil_append]; rfl))) (hv := by first | rfl | (show (zi _ _).toArray.size = _; rw [zi_size (by omega)]; rfl) | (simp [opv, Value.cells, *]; done)) (hfit := by first | omega | (rw [zi_size (by omega)]; first | rfl | decide) | (simp only [ic_size, List.length_map, List.size_toArray]; first | omega | decide) | rfl | (simp [*]; done) | (simp [*]; omega)) (h1 := by first | exact zi_one _ _ | exact ic_one _ _ | simp [opv, Value.cells, Value.oneCell']) (h := fun w17 hS => ?_) | refine m_store_vec ti3 (hS := hS) (hc := by first | exact zi_set rfl (by omega) | exact zi_whole (by omega) (by omega) | (first | exact splice_ic (by first | omega | (simp [*]; done) | (simp [*]; omega)) | exact splice_il (by first | omega | (simp [*]; done) | (simp [*]; omega)) | exact splice_whole (by first | (simp [opv, Value.cells, *]; done) | rfl) | (simp only [opv, n1, n2, Value.cells, splice, List.take_succ_cons, List.take_zero, List.drop_succ_cons, List.drop_zero, List.length_cons, List.length_nil, Nat.zero_add, Nat.reduceAdd, List.append_assoc, List.cons_append, List.nil_append]; rfl))) (hv := by first | rfl | (show (zi _ _).toArray.size = _; rw [zi_size (by omega)]; rfl) | (simp [opv, Value.cells, *]; done)) (hfit := by first | omega | (rw [zi_size (by omega)]; first | rfl | decide) | (simp only [ic_size, List.length_map, List.size_toArray]; first | omega | decide) | rfl | (simp [*]; done) | (simp [*]; omega)) (h1 := by first | exact zi_one _ _ | exact ic_one _ _ | simp [opv, Value.cells, Value.oneCell']) (h := fun w17 hS => ?_)
           try simp only [opv, n1, n2, n3, n4, Value.cells, Array.toArray_toList] at hS ⊢
           rw [show (ask15 r ct it n).set 10 0 = ask15 r ct it 0 from ask15_set h8] at hS
           refine x_nil ?_
           refine mix_leaf (by simp only [clob, List.foldl, n1, n2, n3, n4]) ?_
           try simp only [n1, n2]
           first | exact ⟨_, _, _, _, by first | trivial | rfl, hg1, hS.sel (by repeat (first | exact Sel.nil | (refine Sel.cons (by repeat (first | exact Del.head | apply Del.tail)) ?_)))⟩ | (replace hS := hS.nil_vec 39 21; exact ⟨none, 0, [], 0, by first | trivial | rfl, gives_nil, hS.sel (by repeat (first | exact Sel.nil | (refine Sel.cons (by repeat (first | exact Del.head | apply Del.tail)) ?_)))⟩)
        ·
         try simp only [decide_eq_true_eq, decide_eq_false_iff_not, Bool.not_eq_true', Bool.not_eq_false', Int.not_lt, Int.not_le, ne_eq, Decidable.not_not, bne_iff_ne, beq_iff_eq, not_true_eq_false, not_false_eq_true] at hc3
         first
         | (exfalso; omega)
         | skip
           have hE1 : turnE l (shiftS n) r ct it (shiftN n) = 0 := by omega
           have hg1 := gives_turn hv hr8 hct h8 hbt hn2 hE1
           refine x_skip ?_
           refine mix_leaf (by simp only [clob, List.foldl, n1, n2, n3, n4]) ?_
           try simp only [n1, n2]
           first | exact ⟨_, _, _, _, by first | trivial | rfl, hg1, hS.sel (by repeat (first | exact Sel.nil | (refine Sel.cons (by repeat (first | exact Del.head | apply Del.tail)) ?_)))⟩ | (replace hS := hS.nil_vec 39 21; exact ⟨none, 0, [], 0, by first | trivial | rfl, gives_nil, hS.sel (by repeat (first | exact Sel.nil | (refine Sel.cons (by repeat (first | exact Del.head | apply Del.tail)) ?_)))⟩)
       intro fm2 w18 hM
       simp only [clob, List.foldl, n3, n4]
       obtain ⟨A1, c1, a1, m1, h9, hg1, hS⟩ := hM
       have hg1o := hg1.ok
       have hg1l := hg1.one
       have hg1lo := hg1.lo
       have hg1hi := hg1.hi
       have hakm := ask15_len (r := r) (c := ct) (n := m1) h8
       simp only [h9]
       refine x_seq_j [11, 72, 73, 74, 75, 76, 77, 78, 79, 80, 81] (fun f w => ∃ (A2 : Option Addr) (c2 : Nat) (a2 : List (List Int)) (m2 : Int) (q : Nat), f 11 = .slice A2 a2.length c2 ∧ ¬ r = q ∧ q < 256 ∧ Gives l q ct it a2 m2 ∧ St NoB w0 w [.vec A2 c2 39 21 (a2).length (arows (a2)), .vec A1 c1 39 21 (a1).length (arows (a1)), .obj ga (.cells (KAsk15 r ct it m1) 83 (0, 0)), .obj gb (.cells (KAsk15 r2 ct it m2) 83 (0, 0)), .rd A 21 (l).length (arows (l))]) ?jx2 ?jy2
       case jx2 =>
        refine x_seq fun K12 hK12 => ?_
        refine x_region ?_
        refine s_go (s_move) ?_
        try simp only [opv, n1, n2, n3, n4, Value.cells]
        refine s_go (s_neq) ?_
        try simp only [opv, n1, n2, n3, n4, Value.cells]
        refine s_go (s_move) ?_
        try simp only [opv, n1, n2, n3, n4, Value.cells]
        refine s_part 74 rfl (fun hp2 => ?_) (fun hp2 => ?_)
        ·
         try simp only [n3, n4]
         try simp only [decide_eq_true_eq, decide_eq_false_iff_not, Bool.not_eq_true', Bool.not_eq_false', Int.not_lt, Int.not_le, ne_eq, Decidable.not_not] at hp2
         first
         | (exfalso; omega)
         | skip
           refine g_off (yi (t := 74) rfl rfl) ?_
           try simp only [opv, n1, n2, n3, n4, Value.cells]
           refine g_off (yi (t := 74) rfl rfl) ?_
           try simp only [opv, n1, n2, n3, n4, Value.cells]
           refine g_off (yi (t := 74) rfl rfl) ?_
           try simp only [opv, n1, n2, n3, n4, Value.cells]
           refine g_off (yi (t := 74) rfl rfl) ?_
           try simp only [opv, n1, n2, n3, n4, Value.cells]
           refine g_off (yi (t := 74) rfl rfl) ?_
           try simp only [opv, n1, n2, n3, n4, Value.cells]
           first | refine s_go (s_pick_t) ?_ | refine s_go (s_pick_f) ?_
           try simp only [opv, n1, n2, n3, n4, Value.cells]
           refine x_nil ?_
           refine hK12 _ _ ?_
           refine x_cond_t (h := ?_)
           obtain ⟨q0, hq0, hq1⟩ : ∃ q : Nat, ¬ r = q ∧ q < 256 := ⟨if r = 0 then 1 else 0, by split <;> omega, by split <;> omega⟩
           refine x_region ?_
           refine s_go (s_assign) ?_
           try simp only [opv, n1, n2, n3, n4, Value.cells]
           first | refine s_go (m_fieldAddr Try.underlying83 (hi := ti3)) ?_ | refine s_go (m_fieldAddr_rd Try.underlying83 (hi := ti3) (hS := hS)) ?_ | refine s_go (m_fieldAddr_vec Try.underlying83 (hi := ti3) (hS := hS)) ?_
           try simp only [opv, n1, n2, n3, n4, Value.cells, Nat.zero_add, Nat.add_zero, List.getElem_toArray, List.getElem_cons_zero, List.getElem_cons_succ]
           first | refine m_store_obj ti3 (hS := hS) (hc := by first | exact zi_set rfl (by omega) | exact zi_whole (by omega) (by omega) | (first | exact splice_ic (by first | omega | (simp [*]; done) | (simp [*]; omega)) | exact splice_il (by first | omega | (simp [*]; done) | (simp [*]; omega)) | exact splice_whole (by first | (simp [opv, Value.cells, *]; done) | rfl) | (simp only [opv, n1, n2, Value.cells, splice, List.take_succ_cons, List.take_zero, List.drop_succ_cons, List.drop_zero, List.length_cons, List.length_nil, Nat.zero_add, Nat.reduceAdd, List.append_assoc, List.cons_append, List.nil_append]; rfl))) (hv := by first | rfl | (show (zi _ _).toArray.size = _; rw [zi_size (by omega)]; rfl) | (simp [opv, Value.cells, *]; done)) (hfit := by first | omega | (rw [zi_size (by omega)]; first | rfl | decide) | (simp only [ic_size, List.length_map, List.size_toArray]; first | omega | decide) | rfl | (simp [*]; done) | (simp [*]; omega)) (h1 := by first | exact zi_one _ _ | exact ic_one _ _ | simp [opv, Value.cells, Value.oneCell']) (h := fun w19 hS => ?_) | refine m_store_vec ti3 (hS := hS) (hc := by first | exact zi_set rfl (by omega) | exact zi_whole (by omega) (by omega) | (first | exact splice_ic (by first | omega | (simp [*]; done) | (simp [*]; omega)) | exact splice_il (by first | omega | (simp [*]; done) | (simp [*]; omega)) | exact splice_whole (by first | (simp [opv, Value.cells, *]; done) | rfl) | (simp only [opv, n1, n2, Value.cells, splice, List.take_succ_cons, List.take_zero, List.drop_succ_cons, List.drop_zero, List.length_cons, List.length_nil, Nat.zero_add, Nat.reduceAdd, List.append_assoc, List.cons_append, List.nil_append]; rfl))) (hv := by first | rfl | (show (zi _ _).toArray.size = _; rw [zi_size (by omega)]; rfl) | (simp [opv, Value.cells, *]; done)) (hfit := by first | omega | (rw [zi_size (by omega)]; first | rfl | decide) | (simp only [ic_size, List.length_map, List.size_toArray]; first | omega | decide) | rfl | (simp [*]; done) | (simp [*]; omega)) (h1 := by first | exact zi_one _ _ | exact ic_one _ _ | simp [opv, Value.cells, Value.oneCell']) (h := fun w19 hS => ?_)
           try simp only [opv, n1, n2, n3, n4, Value.cells, Array.toArray_toList] at hS ⊢
           rw [show (ask15 r2 ct it nb).set 10 0 = ask15 r2 ct it 0 from ask15_set h8] at hS
           refine x_nil ?_
           refine mix_leaf (by simp only [clob, List.foldl, n1, n2, n3, n4]) ?_
           try simp only [n1, n2]
           first | exact ⟨_, _, _, _, r2, by first | trivial | rfl, hrr, hr82, hg2, hS.sel (by repeat (first | exact Sel.nil | (refine Sel.cons (by repeat (first | exact Del.head | apply Del.tail)) ?_)))⟩ | (replace hS := hS.nil_vec 39 21; exact ⟨none, 0, [], 0, q0, by first | trivial | rfl, hq0, hq1, gives_nil, hS.sel (by repeat (first | exact Sel.nil | (refine Sel.cons (by repeat (first | exact Del.head | apply Del.tail)) ?_)))⟩)
        ·
         try simp only [n3, n4]
         try simp only [decide_eq_true_eq, decide_eq_false_iff_not, Bool.not_eq_true', Bool.not_eq_false', Int.not_lt, Int.not_le, ne_eq, Decidable.not_not] at hp2
         first
         | (exfalso; omega)
         | skip
           refine g_on (yi (t := 74) rfl rfl) ?_
           first | refine s_go (m_fieldAddr Try.underlying83 (hi := ti5)) ?_ | refine s_go (m_fieldAddr_rd Try.underlying83 (hi := ti5) (hS := hS)) ?_ | refine s_go (m_fieldAddr_vec Try.underlying83 (hi := ti5) (hS := hS)) ?_
           try simp only [opv, n1, n2, n3, n4, Value.cells, Nat.zero_add, Nat.add_zero, List.getElem_toArray, List.getElem_cons_zero, List.getElem_cons_succ]
           refine g_on (yi (t := 74) rfl rfl) ?_
           first | refine s_go (m_load_obj Try.underlying5 (hS := hS) (hv := by first | rfl | exact zi_get rfl (by omega) | exact ic_get (by omega) | exact il_get (by omega))) ?_ | refine s_go (m_load_bx Try.underlying5 (hS := hS) (hv := by first | rfl | exact zi_get rfl (by omega) | exact ic_get (by omega) | exact il_get (by omega))) ?_ | refine s_go (m_load_rd Try.underlying5 (hS := hS) (hv := by first | rfl | exact zi_get rfl (by omega) | exact ic_get (by omega) | exact il_get (by omega))) ?_ | refine s_go (m_load_vec Try.underlying5 (hS := hS) (hv := by first | rfl | exact zi_get rfl (by omega) | exact ic_get (by omega) | exact il_get (by omega))) ?_
           try simp only [opv, n1, n2, n3, n4, Value.cells, List.getElem_toArray, List.getElem_cons_zero, List.getElem_cons_succ]
           try rw [show (ask15 r ct it n).getD 0 0 = (r : Int) from rfl]
           refine g_on (yi (t := 74) rfl rfl) ?_
           first | refine s_go (m_fieldAddr Try.underlying83 (hi := ti5)) ?_ | refine s_go (m_fieldAddr_rd Try.underlying83 (hi := ti5) (hS := hS)) ?_ | refine s_go (m_fieldAddr_vec Try.underlying83 (hi := ti5) (hS := hS)) ?_
           try simp only [opv, n1, n2, n3, n4, Value.cells, Nat.zero_add, Nat.add_zero, List.getElem_toArray, List.getElem_cons_zero, List.getElem_cons_succ]
           refine g_on (yi (t := 74) rfl rfl) ?_
           first | refine s_go (m_load_obj Try.underlying5 (hS := hS) (hv := by first | rfl | exact zi_get rfl (by omega) | exact ic_get (by omega) | exact il_get (by omega))) ?_ | refine s_go (m_load_bx Try.underlying5 (hS := hS) (hv := by first | rfl | exact zi_get rfl (by omega) | exact ic_get (by omega) | exact il_get (by omega))) ?_ | refine s_go (m_load_rd Try.underlying5 (hS := hS) (hv := by first | rfl | exact zi_get rfl (by omega) | exact ic_get (by omega) | exact il_get (by omega))) ?_ | refine s_go (m_load_vec Try.underlying5 (hS := hS) (hv := by first | rfl | exact zi_get rfl (by omega) | exact ic_get (by omega) | exact il_get (by omega))) ?_
           try simp only [opv, n1, n2, n3, n4, Value.cells, List.getElem_toArray, List.getElem_cons_zero, List.getElem_cons_succ]
           try rw [show (ask15 r2 ct it nb).getD 0 0 = (r2 : Int) from rfl]
           refine g_on (yi (t := 74) rfl rfl) ?_
           refine s_go (s_eql) ?_
           try simp only [opv, n1, n2, n3, n4, Value.cells]
           first | refine s_go (s_pick_t) ?_ | refine s_go (s_pick_f) ?_
           try simp only [opv, n1, n2, n3, n4, Value.cells]
           refine x_nil ?_
           refine hK12 _ _ ?_
           refine x_cond (ht := fun hc5 => ?_) (hf := fun hc5 => ?_)
           ·
            try simp only [decide_eq_true_eq, decide_eq_false_iff_not, Bool.not_eq_true', Bool.not_eq_false', Int.not_lt, Int.not_le, ne_eq, Decidable.not_not, bne_iff_ne, beq_iff_eq, not_true_eq_false, not_false_eq_true] at hc5
            first
            | (exfalso; omega)
            | skip
              obtain ⟨q0, hq0, hq1⟩ : ∃ q : Nat, ¬ r = q ∧ q < 256 := ⟨if r = 0 then 1 else 0, by split <;> omega, by split <;> omega⟩
              refine x_region ?_
              refine s_go (s_assign) ?_
              try simp only [opv, n1, n2, n3, n4, Value.cells]
              first | refine s_go (m_fieldAddr Try.underlying83 (hi := ti3)) ?_ | refine s_go (m_fieldAddr_rd Try.underlying83 (hi := ti3) (hS := hS)) ?_ | refine s_go (m_fieldAddr_vec Try.underlying83 (hi := ti3) (hS := hS)) ?_
              try simp only [opv, n1, n2, n3, n4, Value.cells, Nat.zero_add, Nat.add_zero, List.getElem_toArray, List.getElem_cons_zero, List.getElem_cons_succ]
              first | refine m_store_obj ti3 (hS := hS) (hc := by first | exact zi_set rfl (by omega) | exact zi_whole (by omega) (by omega) | (first | exact splice_ic (by first | omega | (simp [*]; done) | (simp [*]; omega)) | exact splice_il (by first | omega | (simp [*]; done) | (simp [*]; omega)) | exact splice_whole (by first | (simp [opv, Value.cells, *]; done) | rfl) | (simp only [opv, n1, n2, Value.cells, splice, List.take_succ_cons, List.take_zero, List.drop_succ_cons, List.drop_zero, List.length_cons, List.length_nil, Nat.zero_add, Nat.reduceAdd, List.append_assoc, List.cons_append, List.nil_append]; rfl))) (hv := by first | rfl | (show (zi _ _).toArray.size = _; rw [zi_size (by omega)]; rfl) | (simp [opv, Value.cells, *]; done)) (hfit := by first | omega | (rw [zi_size (by omega)]; first | rfl | decide) | (simp only [ic_size, List.length_map, List.size_toArray]; first | omega | decide) | rfl | (simp [*]; done) | (simp [*]; omega)) (h1 := by first | exact zi_one _ _ | exact ic_one _ _ | simp [opv, Value.cells, Value.oneCell']) (h := fun w20 hS => ?_) | refine m_store_vec ti3 (hS := hS) (hc := by first | exact zi_set rfl (by omega) | exact zi_whole (by omega) (by omega) | (first | exact splice_ic (by first | omega | (simp [*]; done) | (simp [*]; omega)) | exact splice_il (by first | omega | (simp [*]; done) | (simp [*]; omega)) | exact splice_whole (by first | (simp [opv, Value.cells, *]; done) | rfl) | (simp only [opv, n1, n2, Value.cells, splice, List.take_succ_cons, List.take_zero, List.drop_succ_cons, List.drop_zero, List.length_cons, List.length_nil, Nat.zero_add, Nat.reduceAdd, List.append_assoc, List.cons_append, List.nil_append]; rfl))) (hv := by first | rfl | (show (zi _ _).toArray.size = _; rw [zi_size (by omega)]; rfl) | (simp [opv, Value.cells, *]; done)) (hfit := by first | omega | (rw [zi_size (by omega)]; first | rfl | decide) | (simp only [ic_size, List.length_map, List.size_toArray]; first | omega | decide) | rfl | (simp [*]; done) | (simp [*]; omega)) (h1 := by first | exact zi_one _ _ | exact ic_one _ _ | simp [opv, Value.cells, Value.oneCell']) (h := fun w20 hS => ?_)
              try simp only [opv, n1, n2, n3, n4, Value.cells, Array.toArray_toList] at hS ⊢
              rw [show (ask15 r2 ct it nb).set 10 0 = ask15 r2 ct it 0 from ask15_set h8] at hS
              refine x_nil ?_
              refine mix_leaf (by simp only [clob, List.foldl, n1, n2, n3, n4]) ?_
              try simp only [n1, n2]
              first | exact ⟨_, _, _, _, r2, by first | trivial | rfl, hrr, hr82, hg2, hS.sel (by repeat (first | exact Sel.nil | (refine Sel.cons (by repeat (first | exact Del.head | apply Del.tail)) ?_)))⟩ | (replace hS := hS.nil_vec 39 21; exact ⟨none, 0, [], 0, q0, by first | trivial | rfl, hq0, hq1, gives_nil, hS.sel (by repeat (first | exact Sel.nil | (refine Sel.cons (by repeat (first | exact Del.head | apply Del.tail)) ?_)))⟩)
           ·
            try simp only [decide_eq_true_eq, decide_eq_false_iff_not, Bool.not_eq_true', Bool.not_eq_false', Int.not_lt, Int.not_le, ne_eq, Decidable.not_not, bne_iff_ne, beq_iff_eq, not_true_eq_false, not_false_eq_true] at hc5
            first
            | (exfalso; omega)
            | skip
              have hE2 : turnE l (shiftS nb) r2 ct it (shiftN nb) = 0 := by omega
              have hrr : ¬ r = r2 := by omega
              have hg2 := gives_turn hv hr82 hct h8 hbt hnb2 hE2
              refine x_skip ?_
              refine mix_leaf (by simp only [clob, List.foldl, n1, n2, n3, n4]) ?_
              try simp only [n1, n2]
              first | exact ⟨_, _, _, _, r2, by first | trivial | rfl, hrr, hr82, hg2, hS.sel (by repeat (first | exact Sel.nil | (refine Sel.cons (by repeat (first | exact Del.head | apply Del.tail)) ?_)))⟩ | (replace hS := hS.nil_vec 39 21; exact ⟨none, 0, [], 0, q0, by first | trivial | rfl, hq0, hq1, gives_nil, hS.sel (by repeat (first | exact Sel.nil | (refine Sel.cons (by repeat (first | exact Del.head | apply Del.tail)) ?_)))⟩)
       intro fm3 w21 hM
       simp only [clob, List.foldl, n3, n4]
       obtain ⟨A2, c2, a2, m2, q, h11, hq0, hq1, hg2, hS⟩ := hM
       have hg2o := hg2.ok
       have hg2l := hg2.one
       have hg2lo := hg2.lo
       have hg2hi := hg2.hi
       have hakm2 := ask15_len (r := r2) (c := ct) (n := m2) h8
       have hjo := (norm_sta (hg1o.app hg2o)).ok
       have hjl := norm_len (a1 ++ a2)
       rw [List.length_append] at hjl
       have hfo := (norm_sta (hv.app hjo)).ok
       have hfl := norm_len (l ++ normP (a1 ++ a2))
       rw [List.length_append] at hfl
       have hf1 := gives_add hv hr8 hq1 hct h8 hbt hq0 hg1 hg2 ct
       have hf2 := gives_add hv hr8 hq1 hct h8 hbt hq0 hg1 hg2 ((ct + 1) % 65536)
       rw [if_pos rfl] at hf1
       rw [if_neg hcne, Int.add_zero] at hf2
       simp only [h11]
       refine x_seq fun K13 hK13 => ?_
       refine x_region ?_
       refine s_go (s_move) ?_
       try simp only [opv, n1, n2, n3, n4, Value.cells]
       refine s_go (s_move) ?_
       try simp only [opv, n1, n2, n3, n4, Value.cells]
       refine s_go (s_move) ?_
       try simp only [opv, n1, n2, n3, n4, Value.cells]
       refine s_call en34 ?_
       try simp only [opv, n1, n2, n3, n4, Value.cells, List.map_toArray, List.map_cons, List.map_nil, List.append_toArray, List.cons_append, List.nil_append, Array.append_empty]
       refine CallR.mono (c_ref10Join _ A1 c1 a1 (hS.vecRd (by repeat (first | exact Has.head | apply Has.tail))) hg1o A2 c2 a2 (hS.vecRd (by repeat (first | exact Has.head | apply Has.tail))) hg2o (by omega)) ?_
       rintro _ w22 ⟨Aj, cj, rfl, hC22⟩
       replace hS := hS.call hC22
       simp only [List.cons_append, List.nil_append] at hS
       try simp only [opv, n1, n2, n3, n4, Value.cells]
       refine s_call en34 ?_
       try simp only [opv, n1, n2, n3, n4, Value.cells, List.map_toArray, List.map_cons, List.map_nil, List.append_toArray, List.cons_append, List.nil_append, Array.append_empty]
       refine CallR.mono (c_ref10Join _ A c l (hS.hasRd (by repeat (first | exact Has.head | apply Has.tail))) hv Aj cj (normP (a1 ++ a2)) (hS.vecRd (by repeat (first | exact Has.head | apply Has.tail))) hjo (by omega)) ?_
       rintro _ w23 ⟨Ak, ck, rfl, hC23⟩
       replace hS := hS.call hC23
       simp only [List.cons_append, List.nil_append] at hS
       try simp only [opv, n1, n2, n3, n4, Value.cells]
       refine s_go (s_assign) ?_
       try simp only [opv, n1, n2, n3, n4, Value.cells]
       refine x_nil ?_
       refine hK13 _ _ ?_
       refine x_seq fun K14 hK14 => ?_
       refine x_mixed_c (Lc := [.obj ga (.cells (KAsk15 r ct it m1) 83 (0, 0)), .obj gb (.cells (KAsk15 r2 ct it m2) 83 (0, 0)), .vec Ak ck 39 21 (normP (l ++ normP (a1 ++ a2))).length (arows (normP (l ++ normP (a1 ++ a2))))]) [] 0 [6, 87, 88, 89, 90, 91, 92, 93, 94, 95, 96, 97, 98, 99, 100, 101, 102, 103, 104, 105, 106, 107, 108, 109, 110, 111, 112, 113, 114] (fun f w => f 6 = .bool true ∧ Ext w0 w) (by kernel_rfl) (by kernel_rfl) (by kernel_rfl) (by decide) hS (fun w24 hS => ?mixpre1302) ?mixrest1302
       case mixpre1302 =>
        refine p_nil ?_
        simp only [List.length_cons, List.length_nil, Nat.reduceAdd, Nat.reduceSub]
        refine any_go (i := 0) (by rfl) (by decide +kernel) (by decide +kernel) noLate_nil (go_yields w_none (fun w hS => s_move)) ?_
        try simp only [opv, n1, n2, n3, n4, Value.cells]
        first | refine any_go (i := 1) (by rfl) (by decide +kernel) (by decide +kernel) noLate_nil (go_yields w_none (fun w hS => m_fieldAddr Try.underlying83 (hi := ti29))) ?_ | refine any_go (i := 1) (by rfl) (by decide +kernel) (by decide +kernel) noLate_nil (go_yields w_none (fun w hS => m_fieldAddr_rd Try.underlying83 (hi := ti29) (hS := hS))) ?_ | refine any_go (i := 1) (by rfl) (by decide +kernel) (by decide +kernel) noLate_nil (go_yields w_none (fun w hS => m_fieldAddr_vec Try.underlying83 (hi := ti29) (hS := hS))) ?_
        try simp only [opv, n1, n2, n3, n4, Value.cells, Nat.zero_add, Nat.add_zero, List.getElem_toArray, List.getElem_cons_zero, List.getElem_cons_succ]
        first | refine any_go (i := 2) (by rfl) (by decide +kernel) (by decide +kernel) noLate_nil (go_yields w_none (fun w hS => m_load_obj Try.underlying29 (hS := hS) (hv := by first | rfl | exact zi_get rfl (by omega) | exact ic_get (by omega) | exact il_get (by omega)))) ?_ | refine any_go (i := 2) (by rfl) (by decide +kernel) (by decide +kernel) noLate_nil (go_yields w_none (fun w hS => m_load_bx Try.underlying29 (hS := hS) (hv := by first | rfl | exact zi_get rfl (by omega) | exact ic_get (by omega) | exact il_get (by omega)))) ?_ | refine any_go (i := 2) (by rfl) (by decide +kernel) (by decide +kernel) noLate_nil (go_yields w_none (fun w hS => m_load_rd Try.underlying29 (hS := hS) (hv := by first | rfl | exact zi_get rfl (by omega) | exact ic_get (by omega) | exact il_get (by omega)))) ?_ | refine any_go (i := 2) (by rfl) (by decide +kernel) (by decide +kernel) noLate_nil (go_yields w_none (fun w hS => m_load_vec Try.underlying29 (hS := hS) (hv := by first | rfl | exact zi_get rfl (by omega) | exact ic_get (by omega) | exact il_get (by omega)))) ?_
        try simp only [opv, n1, n2, n3, n4, Value.cells, List.getElem_toArray, List.getElem_cons_zero, List.getElem_cons_succ]
        try rw [show (ask15 r ct it n).getD 1 0 = (ct : Int) from rfl]
        first | refine any_go (i := 3) (by rfl) (by decide +kernel) (by decide +kernel) noLate_nil (go_yields w_none (fun w hS => m_fieldAddr Try.underlying83 (hi := ti31))) ?_ | refine any_go (i := 3) (by rfl) (by decide +kernel) (by decide +kernel) noLate_nil (go_yields w_none (fun w hS => m_fieldAddr_rd Try.underlying83 (hi := ti31) (hS := hS))) ?_ | refine any_go (i := 3) (by rfl) (by decide +kernel) (by decide +kernel) noLate_nil (go_yields w_none (fun w hS => m_fieldAddr_vec Try.underlying83 (hi := ti31) (hS := hS))) ?_
        try simp only [opv, n1, n2, n3, n4, Value.cells, Nat.zero_add, Nat.add_zero, List.getElem_toArray, List.getElem_cons_zero, List.getElem_cons_succ]
        first | refine any_go (i := 4) (by rfl) (by decide +kernel) (by decide +kernel) noLate_nil (go_yields w_none (fun w hS => m_load_row Try.underlying31 (hi := ti31) (hS := hS) (hfit := by first | omega | (rw [zi_size (by omega)]; first | rfl | decide) | (simp only [ic_size, List.length_map, List.size_toArray]; first | omega | decide) | rfl | (simp [*]; done) | (simp [*]; omega)))) ?_ | refine any_go (i := 4) (by rfl) (by decide +kernel) (by decide +kernel) noLate_nil (go_yields w_none (fun w hS => m_loada_obj Try.underlying31 (hi := ti31) (hS := hS) (hfit := by first | omega | (rw [zi_size (by omega)]; first | rfl | decide) | (simp only [ic_size, List.length_map, List.size_toArray]; first | omega | decide) | rfl | (simp [*]; done) | (simp [*]; omega)))) ?_ | refine any_go (i := 4) (by rfl) (by decide +kernel) (by decide +kernel) noLate_nil (go_yields w_none (fun w hS => m_loada_bx Try.underlying31 (hi := ti31) (hS := hS) (hfit := by first | omega | (rw [zi_size (by omega)]; first | rfl | decide) | (simp only [ic_size, List.length_map, List.size_toArray]; first | omega | decide) | rfl | (simp [*]; done) | (simp [*]; omega)))) ?_ | refine any_go (i := 4) (by rfl) (by decide +kernel) (by decide +kernel) noLate_nil (go_yields w_none (fun w hS => m_loada_rd Try.underlying31 (hi := ti31) (hS := hS) (hfit := by first | omega | (rw [zi_size (by omega)]; first | rfl | decide) | (simp only [ic_size, List.length_map, List.size_toArray]; first | omega | decide) | rfl | (simp [*]; done) | (simp [*]; omega)))) ?_ | refine any_go (i := 4) (by rfl) (by decide +kernel) (by decide +kernel) noLate_nil (go_yields w_none (fun w hS => m_loada_vec Try.underlying31 (hi := ti31) (hS := hS) (hfit := by first | omega | (rw [zi_size (by omega)]; first | rfl | decide) | (simp only [ic_size, List.length_map, List.size_toArray]; first | omega | decide) | rfl | (simp [*]; done) | (simp [*]; omega)))) ?_
        try simp only [opv, n1, n2, n3, n4, Value.cells, List.getElem_toArray, List.getElem_cons_zero, List.getElem_cons_succ]
        rw [ask15_text h8]
        apply any_go (i := 5) (by rfl) (by decide +kernel) (by decide +kernel) noLate_nil (call_yields w_none en82 ?H1) ?K1
        case H1 =>
          intro w hS
          try simp only [opv, n1, n2, n3, n4, List.map_toArray, List.map_cons, List.map_nil, List.append_toArray, List.cons_append, List.nil_append, Array.append_empty]
          refine CallR.mono (c_countTotal _ Ak ck (normP (l ++ normP (a1 ++ a2))) (hS.vecRd (by repeat (first | exact Has.head | apply Has.tail))) hfo (by omega) ct hct it h8) ?_
          rintro _ w1 ⟨rfl, hE⟩; exact ⟨rfl, hE⟩
        try simp only [opv, n1, n2, n3, n4, Value.cells]
        rw [hf1]
        refine any_go (i := 6) (by rfl) (by decide +kernel) (by decide +kernel) noLate_nil (go_yields w_none (fun w hS => s_move)) ?_
        try simp only [opv, n1, n2, n3, n4, Value.cells]
        first | refine any_go (i := 7) (by rfl) (by decide +kernel) (by decide +kernel) noLate_nil (go_yields w_none (fun w hS => m_fieldAddr Try.underlying83 (hi := ti3))) ?_ | refine any_go (i := 7) (by rfl) (by decide +kernel) (by decide +kernel) noLate_nil (go_yields w_none (fun w hS => m_fieldAddr_rd Try.underlying83 (hi := ti3) (hS := hS))) ?_ | refine any_go (i := 7) (by rfl) (by decide +kernel) (by decide +kernel) noLate_nil (go_yields w_none (fun w hS => m_fieldAddr_vec Try.underlying83 (hi := ti3) (hS := hS))) ?_
        try simp only [opv, n1, n2, n3, n4, Value.cells, Nat.zero_add, Nat.add_zero, List.getElem_toArray, List.getElem_cons_zero, List.getElem_cons_succ]
        first | refine any_go (i := 8) (by rfl) (by decide +kernel) (by decide +kernel) noLate_nil (go_yields w_none (fun w hS => m_load_obj Try.underlying3 (hS := hS) (hv := by first | rfl | exact zi_get rfl (by omega) | exact ic_get (by omega) | exact il_get (by omega)))) ?_ | refine any_go (i := 8) (by rfl) (by decide +kernel) (by decide +kernel) noLate_nil (go_yields w_none (fun w hS => m_load_bx Try.underlying3 (hS := hS) (hv := by first | rfl | exact zi_get rfl (by omega) | exact ic_get (by omega) | exact il_get (by omega)))) ?_ | refine any_go (i := 8) (by rfl) (by decide +kernel) (by decide +kernel) noLate_nil (go_yields w_none (fun w hS => m_load_rd Try.underlying3 (hS := hS) (hv := by first | rfl | exact zi_get rfl (by omega) | exact ic_get (by omega) | exact il_get (by omega)))) ?_ | refine any_go (i := 8) (by rfl) (by decide +kernel) (by decide +kernel) noLate_nil (go_yields w_none (fun w hS => m_load_vec Try.underlying3 (hS := hS) (hv := by first | rfl | exact zi_get rfl (by omega) | exact ic_get (by omega) | exact il_get (by omega)))) ?_
        try simp only [opv, n1, n2, n3, n4, Value.cells, List.getElem_toArray, List.getElem_cons_zero, List.getElem_cons_succ]
        rw [ask15_n h8]
        refine any_go (i := 9) (by rfl) (by decide +kernel) (by decide +kernel) noLate_nil (go_yields w_none (fun w hS => s_add (hc := by first | exact wr_i64 (by omega) (by omega) | rfl))) ?_
        try simp only [opv, n1, n2, n3, n4, Value.cells]
        first | refine any_go (i := 10) (by rfl) (by decide +kernel) (by decide +kernel) noLate_nil (go_yields w_none (fun w hS => m_fieldAddr Try.underlying83 (hi := ti3))) ?_ | refine any_go (i := 10) (by rfl) (by decide +kernel) (by decide +kernel) noLate_nil (go_yields w_none (fun w hS => m_fieldAddr_rd Try.underlying83 (hi := ti3) (hS := hS))) ?_ | refine any_go (i := 10) (by rfl) (by decide +kernel) (by decide +kernel) noLate_nil (go_yields w_none (fun w hS => m_fieldAddr_vec Try.underlying83 (hi := ti3) (hS := hS))) ?_
        try simp only [opv, n1, n2, n3, n4, Value.cells, Nat.zero_add, Nat.add_zero, List.getElem_toArray, List.getElem_cons_zero, List.getElem_cons_succ]
        first | refine any_go (i := 11) (by rfl) (by decide +kernel) (by decide +kernel) noLate_nil (go_yields w_none (fun w hS => m_load_obj Try.underlying3 (hS := hS) (hv := by first | rfl | exact zi_get rfl (by omega) | exact ic_get (by omega) | exact il_get (by omega)))) ?_ | refine any_go (i := 11) (by rfl) (by decide +kernel) (by decide +kernel) noLate_nil (go_yields w_none (fun w hS => m_load_bx Try.underlying3 (hS := hS) (hv := by first | rfl | exact zi_get rfl (by omega) | exact ic_get (by omega) | exact il_get (by omega)))) ?_ | refine any_go (i := 11) (by rfl) (by decide +kernel) (by decide +kernel) noLate_nil (go_yields w_none (fun w hS => m_load_rd Try.underlying3 (hS := hS) (hv := by first | rfl | exact zi_get rfl (by omega) | exact ic_get (by omega) | exact il_get (by omega)))) ?_ | refine any_go (i := 11) (by rfl) (by decide +kernel) (by decide +kernel) noLate_nil (go_yields w_none (fun w hS => m_load_vec Try.underlying3 (hS := hS) (hv := by first | rfl | exact zi_get rfl (by omega) | exact ic_get (by omega) | exact il_get (by omega)))) ?_
        try simp only [opv, n1, n2, n3, n4, Value.cells, List.getElem_toArray, List.getElem_cons_zero, List.getElem_cons_succ]
        rw [ask15_n h8]
        refine any_go (i := 12) (by rfl) (by decide +kernel) (by decide +kernel) noLate_nil (go_yields w_none (fun w hS => s_add (hc := by first | exact wr_i64 (by omega) (by omega) | rfl))) ?_
        try simp only [opv, n1, n2, n3, n4, Value.cells]
        refine any_go (i := 13) (by rfl) (by decide +kernel) (by decide +kernel) noLate_nil (go_yields w_none (fun w hS => s_eql)) ?_
        try simp only [opv, n1, n2, n3, n4, Value.cells]
        rw [decide_eq_true (show (totL (normP l) ct it + (m1 + m2) : Int) = totL (normP l) ct it + m1 + m2 by omega)]
        refine any_go (i := 14) (by rfl) (by decide +kernel) (by decide +kernel) noLate_nil (go_yields w_none (fun w hS => s_move)) ?_
        try simp only [opv, n1, n2, n3, n4, Value.cells]
        refine any_go (i := 15) (by rfl) (by decide +kernel) (by decide +kernel) noLate_nil (go_yields (w_on (yi (t := 101) rfl rfl)) (fun w hS => s_move)) ?_
        try simp only [opv, n1, n2, n3, n4, Value.cells]
        first | refine any_go (i := 16) (by rfl) (by decide +kernel) (by decide +kernel) noLate_nil (go_yields (w_on (yi (t := 101) rfl rfl)) (fun w hS => m_fieldAddr Try.underlying83 (hi := ti29))) ?_ | refine any_go (i := 16) (by rfl) (by decide +kernel) (by decide +kernel) noLate_nil (go_yields (w_on (yi (t := 101) rfl rfl)) (fun w hS => m_fieldAddr_rd Try.underlying83 (hi := ti29) (hS := hS))) ?_ | refine any_go (i := 16) (by rfl) (by decide +kernel) (by decide +kernel) noLate_nil (go_yields (w_on (yi (t := 101) rfl rfl)) (fun w hS => m_fieldAddr_vec Try.underlying83 (hi := ti29) (hS := hS))) ?_
        try simp only [opv, n1, n2, n3, n4, Value.cells, Nat.zero_add, Nat.add_zero, List.getElem_toArray, List.getElem_cons_zero, List.getElem_cons_succ]
        first | refine any_go (i := 17) (by rfl) (by decide +kernel) (by decide +kernel) noLate_nil (go_yields (w_on (yi (t := 101) rfl rfl)) (fun w hS => m_load_obj Try.underlying29 (hS := hS) (hv := by first | rfl | exact zi_get rfl (by omega) | exact ic_get (by omega) | exact il_get (by omega)))) ?_ | refine any_go (i := 17) (by rfl) (by decide +kernel) (by decide +kernel) noLate_nil (go_yields (w_on (yi (t := 101) rfl rfl)) (fun w hS => m_load_bx Try.underlying29 (hS := hS) (hv := by first | rfl | exact zi_get rfl (by omega) | exact ic_get (by omega) | exact il_get (by omega)))) ?_ | refine any_go (i := 17) (by rfl) (by decide +kernel) (by decide +kernel) noLate_nil (go_yields (w_on (yi (t := 101) rfl rfl)) (fun w hS => m_load_rd Try.underlying29 (hS := hS) (hv := by first | rfl | exact zi_get rfl (by omega) | exact ic_get (by omega) | exact il_get (by omega)))) ?_ | refine any_go (i := 17) (by rfl) (by decide +kernel) (by decide +kernel) noLate_nil (go_yields (w_on (yi (t := 101) rfl rfl)) (fun w hS => m_load_vec Try.underlying29 (hS := hS) (hv := by first | rfl | exact zi_get rfl (by omega) | exact ic_get (by omega) | exact il_get (by omega)))) ?_
        try simp only [opv, n1, n2, n3, n4, Value.cells, List.getElem_toArray, List.getElem_cons_zero, List.getElem_cons_succ]
        try rw [show (ask15 r ct it n).getD 1 0 = (ct : Int) from rfl]
        refine any_go (i := 18) (by rfl) (by decide +kernel) (by decide +kernel) noLate_nil (go_yields (w_on (yi (t := 101) rfl rfl)) (fun w hS => s_add (hc := addw_u16 ct))) ?_
        try simp only [opv, n1, n2, n3, n4, Value.cells]
        first | refine any_go (i := 19) (by rfl) (by decide +kernel) (by decide +kernel) noLate_nil (go_yields (w_on (yi (t := 101) rfl rfl)) (fun w hS => m_fieldAddr Try.underlying83 (hi := ti31))) ?_ | refine any_go (i := 19) (by rfl) (by decide +kernel) (by decide +kernel) noLate_nil (go_yields (w_on (yi (t := 101) rfl rfl)) (fun w hS => m_fieldAddr_rd Try.underlying83 (hi := ti31) (hS := hS))) ?_ | refine any_go (i := 19) (by rfl) (by decide +kernel) (by decide +kernel) noLate_nil (go_yields (w_on (yi (t := 101) rfl rfl)) (fun w hS => m_fieldAddr_vec Try.underlying83 (hi := ti31) (hS := hS))) ?_
        try simp only [opv, n1, n2, n3, n4, Value.cells, Nat.zero_add, Nat.add_zero, List.getElem_toArray, List.getElem_cons_zero, List.getElem_cons_succ]
        first | refine any_go (i := 20) (by rfl) (by decide +kernel) (by decide +kernel) noLate_nil (go_yields (w_on (yi (t := 101) rfl rfl)) (fun w hS => m_load_row Try.underlying31 (hi := ti31) (hS := hS) (hfit := by first | omega | (rw [zi_size (by omega)]; first | rfl | decide) | (simp only [ic_size, List.length_map, List.size_toArray]; first | omega | decide) | rfl | (simp [*]; done) | (simp [*]; omega)))) ?_ | refine any_go (i := 20) (by rfl) (by decide +kernel) (by decide +kernel) noLate_nil (go_yields (w_on (yi (t := 101) rfl rfl)) (fun w hS => m_loada_obj Try.underlying31 (hi := ti31) (hS := hS) (hfit := by first | omega | (rw [zi_size (by omega)]; first | rfl | decide) | (simp only [ic_size, List.length_map, List.size_toArray]; first | omega | decide) | rfl | (simp [*]; done) | (simp [*]; omega)))) ?_ | refine any_go (i := 20) (by rfl) (by decide +kernel) (by decide +kernel) noLate_nil (go_yields (w_on (yi (t := 101) rfl rfl)) (fun w hS => m_loada_bx Try.underlying31 (hi := ti31) (hS := hS) (hfit := by first | omega | (rw [zi_size (by omega)]; first | rfl | decide) | (simp only [ic_size, List.length_map, List.size_toArray]; first | omega | decide) | rfl | (simp [*]; done) | (simp [*]; omega)))) ?_ | refine any_go (i := 20) (by rfl) (by decide +kernel) (by decide +kernel) noLate_nil (go_yields (w_on (yi (t := 101) rfl rfl)) (fun w hS => m_loada_rd Try.underlying31 (hi := ti31) (hS := hS) (hfit := by first | omega | (rw [zi_size (by omega)]; first | rfl | decide) | (simp only [ic_size, List.length_map, List.size_toArray]; first | omega | decide) | rfl | (simp [*]; done) | (simp [*]; omega)))) ?_ | refine any_go (i := 20) (by rfl) (by decide +kernel) (by decide +kernel) noLate_nil (go_yields (w_on (yi (t := 101) rfl rfl)) (fun w hS => m_loada_vec Try.underlying31 (hi := ti31) (hS := hS) (hfit := by first | omega | (rw [zi_size (by omega)]; first | rfl | decide) | (simp only [ic_size, List.length_map, List.size_toArray]; first | omega | decide) | rfl | (simp [*]; done) | (simp [*]; omega)))) ?_
        try simp only [opv, n1, n2, n3, n4, Value.cells, List.getElem_toArray, List.getElem_cons_zero, List.getElem_cons_succ]
        rw [ask15_text h8]
        refine any_go (i := 22) (by rfl) (by decide +kernel) (by decide +kernel) noLate_nil (go_yields (w_on (yi (t := 101) rfl rfl)) (fun w hS => s_move)) ?_
        try simp only [opv, n1, n2, n3, n4, Value.cells]
        refine any_step [21] (by kernel_rfl) (by decide) (fun w25 hE => ⟨fun _ => (hS.ext hE).sel (by repeat (first | exact Sel.nil | (refine Sel.cons (by repeat (first | exact Del.head | apply Del.tail)) ?_))), ?_⟩)
        replace hS := hS.ext hE
        intro i hi
        simp only [List.mem_cons, List.not_mem_nil, or_false] at hi
        subst hi
        ·
         refine any_op (by rfl) ?_
         refine g_on (yi (t := 101) rfl rfl) ?_
         refine s_call en82 ?_
         try simp only [opv, n1, n2, n3, n4, Value.cells, List.map_toArray, List.map_cons, List.map_nil, List.append_toArray, List.cons_append, List.nil_append, Array.append_empty]
         refine CallR.mono (c_countTotal _ Ak ck (normP (l ++ normP (a1 ++ a2))) (hS.vecRd (by repeat (first | exact Has.head | apply Has.tail))) hfo (by omega) ((ct + 1) % 65536) hc1 it h8) ?_
         rintro _ w26 ⟨rfl, hE26⟩
         replace hS := hS.ext hE26
         try simp only [opv, n1, n2, n3, n4, Value.cells]
         rw [hf2]
         refine x_nil ?_
         refine any_go (i := 23) (by rfl) (by decide +kernel) (by decide +kernel) noLate_nil (go_yields (w_on (yi (t := 101) rfl rfl)) (fun w hS => s_eql)) ?_
         try simp only [opv, n1, n2, n3, n4, Value.cells]
         try simp only [eq_self, decide_true, beq_self_eq_true, Bool.and_self]
         first | refine any_go (i := 24) (by rfl) (by decide +kernel) (by decide +kernel) noLate_nil (go_yields w_none (fun w hS => s_pick_t)) ?_ | refine any_go (i := 24) (by rfl) (by decide +kernel) (by decide +kernel) noLate_nil (go_yields w_none (fun w hS => s_pick_f)) ?_
         try simp only [opv, n1, n2, n3, n4, Value.cells]
         refine any_go (i := 25) (by rfl) (by decide +kernel) (by decide +kernel) noLate_nil (go_yields w_none (fun w hS => s_move)) ?_
         try simp only [opv, n1, n2, n3, n4, Value.cells]
         apply any_go (i := 26) (by rfl) (by decide +kernel) (by decide +kernel) noLate_nil (call_yields (w_on (yi (t := 112) rfl rfl)) en76 ?H2) ?K2
         case H2 =>
           intro w hS
           try simp only [opv, n1, n2, n3, n4, List.map_toArray, List.map_cons, List.map_nil, List.append_toArray, List.cons_append, List.nil_append, Array.append_empty]
           refine CallR.mono (c_law15alive _) ?_
           rintro _ w1 ⟨rfl, hE⟩; exact ⟨rfl, hE⟩
         try simp only [opv, n1, n2, n3, n4, Value.cells]
         first | refine any_go (i := 27) (by rfl) (by decide +kernel) (by decide +kernel) noLate_nil (go_yields w_none (fun w hS => s_pick_t)) ?_ | refine any_go (i := 27) (by rfl) (by decide +kernel) (by decide +kernel) noLate_nil (go_yields w_none (fun w hS => s_pick_f)) ?_
         try simp only [opv, n1, n2, n3, n4, Value.cells]
         refine any_go (i := 28) (by rfl) (by decide +kernel) (by decide +kernel) noLate_nil (go_yields w_none (fun w hS => s_assign)) ?_
         try simp only [opv, n1, n2, n3, n4, Value.cells]
         refine any_nil (by kernel_rfl) (fun w27 hE => ?_)
         replace hS := hS.ext hE
         refine ⟨fun _ => hS.sel (by repeat (first | exact Sel.nil | (refine Sel.cons (by repeat (first | exact Del.head | apply Del.tail)) ?_))), ?_⟩
         refine mix_leaf (by simp only [clob, List.foldl, n1, n2, n3, n4]) ?_
         try simp only [n1, n2]
         exact ⟨by first | trivial | rfl, hS.ext_of⟩
       intro fm4 w28 hM
       obtain ⟨h6, hEE⟩ := hM
       simp only [clob, List.foldl, n3, n4, h6]
       refine hK14 _ _ ?_
       refine x_ret ?_
       refine r_tmp rfl ?_
       first | exact ⟨rfl, hEE⟩ | exact ⟨rfl, hS.ext_of⟩
end Go.Proofs.Ytmgacmkikefpjaa
set_option linter.unusedSimpArgs false
set_option linter.unusedVariables false
set_option maxHeartbeats 800000
set_option maxRecDepth 100000
namespace Go.Proofs.Ytmgacmkikefpjaa
open Go.ChangeShapes Go.WideShapes Go.ChangeAt Go.RowKit

theorem rows_aok {l : List (List Int)} (h : ∀ x ∈ l, x.length = atomKs.length ∧ ∀ i k, atomKs[i]? = some k → (Lit.int k (x.getD i 0)).wf = true) : AOks l := fun x hx => by
  obtain ⟨h1, h2⟩ := h x hx
  have W : World := { heap := #[], tape := fun _ _ => 0, drawn := 0, os := default, output := #[] }
  obtain ⟨a, e, ha⟩ := atom_open (w := W) (allOk_of h1 h2)
  rw [zi_inj h1 (by simpa using ha.len) e]; exact ha
theorem open_rows {w : World} {n : Nat} {xs : List Value} {A : Option Addr} (hr : Rd w A 21 n xs) (h : ∀ i, i < n → AllOk w (atomKs.map LK.int) ((xs.drop (i * 21)).take 21)) : ∃ l : List (List Int), l.length = n ∧ xs = arows l ∧ AOks l := by
  obtain ⟨l, hl, e, hok⟩ := rowsZ_open (w := w) (ks := atomKs) (n := n) (xs := xs) hr.1 h
  exact ⟨l, hl, e, rows_aok hok⟩
end Go.Proofs.Ytmgacmkikefpjaa
set_option linter.unusedSimpArgs false
set_option linter.unusedVariables false
set_option maxHeartbeats 800000
set_option maxRecDepth 100000
namespace Go.Proofs.Ytmgacmkikefpjaa
open Go.ChangeShapes Go.WideShapes Go.ChangeAt Go.RowKit

theorem text_byt {x : List Int} {ks : List IntKind} (hx : ∀ i k, ks[i]? = some k → (Lit.int k (x.getD i 0)).wf = true) (h : ∀ j, j < 8 → ks[2 + j]? = some .u8) : Byt ((x.drop 2).take 8) := by
  intro y hy
  obtain ⟨j, hj, rfl⟩ := List.getElem_of_mem hy
  have hj2 : j < 8 ∧ 2 + j < x.length := by rw [List.length_take, List.length_drop] at hj; omega
  have := bounds_u8 (hx (2 + j) _ (h j hj2.1))
  rw [List.getD_eq_getElem?_getD, List.getElem?_eq_getElem hj2.2] at this
  simpa using this
theorem ask15_open {w : World} {cs : List Value} (h : AllOk w (ask15Ks.map LK.int) cs) : ∃ (r c : Nat) (tx : List Int) (n : Int), cs = zi ask15Ks (ask15 r c tx n) ∧ r < 256 ∧ c < 65536 ∧ tx.length = 8 ∧ Byt tx ∧ -9223372036854775808 ≤ n ∧ n ≤ 9223372036854775807 := by
  obtain ⟨x, rfl, hl, hx⟩ := allOk_zi h
  have hl : x.length = 11 := hl
  have h0 := wf_u8 (hx 0 _ rfl)
  have h1 := wf_u16 (hx 1 _ rfl)
  have h10 := bounds_i64 (hx 10 _ rfl)
  have hb := text_byt hx (fun j hj => by
    have : j = 0 ∨ j = 1 ∨ j = 2 ∨ j = 3 ∨ j = 4 ∨ j = 5 ∨ j = 6 ∨ j = 7 := by omega
    rcases this with rfl | rfl | rfl | rfl | rfl | rfl | rfl | rfl <;> rfl)
  refine ⟨(x.getD 0 0).toNat, (x.getD 1 0).toNat, (x.drop 2).take 8, x.getD 10 0, ?_, h0.2, h1.2, by simp [hl], hb, h10.1, h10.2⟩
  match x, hl with
  | [a, b, c, d, e, f, g, i, j, k, m], _ =>
    simp only [List.getD_cons_zero, List.getD_cons_succ] at h0 h1
    show zi ask15Ks [a, b, c, d, e, f, g, i, j, k, m] = zi ask15Ks [((a.toNat : Nat) : Int), ((b.toNat : Nat) : Int), c, d, e, f, g, i, j, k, m]
    rw [← h0.1, ← h1.1]
end Go.Proofs.Ytmgacmkikefpjaa
namespace Go.Proofs.Ytmgacmkikefpjaa
open Go.ChangeShapes Go.WideShapes Go.ChangeAt Go.RowKit
theorem own0 : ownKnob Try.prog.godebug = none := by kernel_rfl
theorem laidOut0 : laidOutB Try.prog = true := by kernel_rfl
theorem fl5 : Flat Try.prog 5 [LK.int .u8] := flat_int Try.underlying5
theorem fl29 : Flat Try.prog 29 [LK.int .u16] := flat_int Try.underlying29
theorem fl31 : Flat Try.prog 31 (List.replicate 8 [LK.int .u8]).flatten := flat_arr Try.underlying31 fl5 rfl (by kernel_rfl) (by kernel_rfl)
theorem fl32 : Flat Try.prog 32 [LK.int .u32] := flat_int Try.underlying32
theorem fl34 : Flat Try.prog 34 ([LK.int .u8] ++ ([LK.int .u16] ++ ((List.replicate 8 [LK.int .u8]).flatten ++ ([LK.int .u8] ++ ([LK.int .u32] ++ ([])))))) := flat_struct Try.underlying34 (.cons rfl fl5 rfl (by kernel_rfl) (.cons rfl fl29 rfl (by kernel_rfl) (.cons rfl fl31 rfl (by kernel_rfl) (.cons rfl fl5 rfl (by kernel_rfl) (.cons rfl fl32 rfl (by kernel_rfl) (.nil)))))) (by kernel_rfl)
theorem fl35 : Flat Try.prog 35 [LK.int .u64] := flat_int Try.underlying35
theorem fl37 : Flat Try.prog 37 ([LK.int .u64] ++ ((List.replicate 8 [LK.int .u8]).flatten ++ ([]))) := flat_struct Try.underlying37 (.cons rfl fl35 rfl (by kernel_rfl) (.cons rfl fl31 rfl (by kernel_rfl) (.nil))) (by kernel_rfl)
theorem fl39 : Flat Try.prog 39 (([LK.int .u8] ++ ([LK.int .u16] ++ ((List.replicate 8 [LK.int .u8]).flatten ++ ([LK.int .u8] ++ ([LK.int .u32] ++ ([])))))) ++ (([LK.int .u64] ++ ((List.replicate 8 [LK.int .u8]).flatten ++ ([]))) ++ ([]))) := flat_struct Try.underlying39 (.cons rfl fl34 rfl (by kernel_rfl) (.cons rfl fl37 rfl (by kernel_rfl) (.nil))) (by kernel_rfl)
theorem fl3 : Flat Try.prog 3 [LK.int .i64] := flat_int Try.underlying3
theorem fl83 : Flat Try.prog 83 ([LK.int .u8] ++ ([LK.int .u16] ++ ((List.replicate 8 [LK.int .u8]).flatten ++ ([LK.int .i64] ++ ([]))))) := flat_struct Try.underlying83 (.cons rfl fl5 rfl (by kernel_rfl) (.cons rfl fl29 rfl (by kernel_rfl) (.cons rfl fl31 rfl (by kernel_rfl) (.cons rfl fl3 rfl (by kernel_rfl) (.nil))))) (by kernel_rfl)
end Go.Proofs.Ytmgacmkikefpjaa
namespace Go.Proofs.Ytmgacmkikefpjaa
theorem ws_cons {c : Char} (h : c ≠ Char.ofNat 32) (x : List Char) : wordsSigns (c :: x) = (match wordsSigns x with | w :: ws => (c :: w) :: ws | [] => [[c]]) := by
  conv => lhs; unfold wordsSigns
  split
  · simp_all
  · next h1 => exact absurd (by simpa using (List.cons.inj h1).1) h
  · next h1 => obtain ⟨rfl, rfl⟩ := List.cons.inj h1; rfl
theorem ws_app (b : List Char) : ∀ (a : List Char), (∀ c ∈ a, c ≠ Char.ofNat 32) → wordsSigns (a ++ Char.ofNat 32 :: b) = a :: wordsSigns b
  | [], _ => rfl
  | c :: r, h => by
    rw [List.cons_append, ws_cons (h c (by simp)), ws_app b r (fun x hx => h x (by simp [hx]))]
/-- the head's words: harness, a sum, cut -/
theorem head_words {P : Program} {s b : List Char} (he : P.initOrder = String.ofList ("harness".toList ++ Char.ofNat 32 :: (s ++ Char.ofNat 32 :: ("cut".toList ++ Char.ofNat 32 :: b)))) (hs : isSumSigns s = true) (hb : ∀ c ∈ s, c ≠ Char.ofNat 32) :
    ∃ R, behindMainWord (wordsSigns P.initOrder.toList) = "cut".toList :: R := by
  refine ⟨wordsSigns b, ?_⟩
  rw [he, String.toList_ofList, ws_app _ _ (by decide), ws_app _ _ hb, ws_app _ _ (by decide)]
  simp only [behindMainWord, hs, beq_self_eq_true, Bool.true_or, Bool.and_self, if_true]
theorem e_gc : ("cut".toList == "gc".toList) = false := by decide
theorem e_spec : ("cut".toList == "spec".toList) = false := by decide
theorem e_car : ("cut".toList == "carried".toList) = false := by decide
theorem e_sl (R : List (List Char)) : stripLifts liftWords ("cut".toList :: R) = ([], "cut".toList :: R) := by
  have h : ∀ (l : List String), (∀ o ∈ l, ("cut".toList == o.toList) = false) → stripLifts l ("cut".toList :: R) = ([], "cut".toList :: R) := by
    intro l
    induction l with
    | nil => intro _; rfl
    | cons o os ih => intro hl; rw [stripLifts, hl o (by simp)]; simp only [Bool.false_eq_true, if_false]; exact ih fun x hx => hl x (by simp [hx])
  exact h liftWords (by decide)
section
variable {P : Program} (h : ∃ R, behindMainWord (wordsSigns P.initOrder.toList) = "cut".toList :: R)
include h
theorem make_of : P.make = some .cut := by
  obtain ⟨R, h⟩ := h
  unfold Program.make
  rw [h]
  simp only [e_gc, e_spec, beq_self_eq_true, Bool.or_self, Bool.true_or, Bool.false_eq_true, if_false, if_true]
theorem lifts_of : P.liftsFinal = false := by
  obtain ⟨R, h⟩ := h
  unfold Program.liftsFinal Program.headLifts
  rw [h, e_sl]
  show (_ || _) = false
  rfl
theorem enter_of (hl : P.laysLater = false) (hr : P.bearsReflect = false) (hd : P.doorFits [] = true) : P.mayEnter = true := by
  obtain ⟨R, h⟩ := h
  unfold Program.mayEnter
  rw [h]
  dsimp only
  rw [e_sl, hl, hr]
  simp only [hd, e_gc, e_spec, e_car, beq_self_eq_true, Bool.or_self, Bool.false_and, Bool.not_false, Bool.or_true, Bool.and_true, List.head?_cons, List.contains_nil]
end
theorem closed_of {P : Program} {f : FuncId} {fn : Func} {s : ChangeSpec} {c : OpenClaim} (hm : P.make = some .cut) (hl : P.liftsFinal = false) (he : P.mayEnter = true) (h2 : laidOutB P = true) (h3 : mapsRowed P = true) (hst : (P.stops == []) = true) (hk : (P.stopKnobs == []) = true)
    (hp : P.plainKeys = c.plainKeys) (hh : P.stopsHeard = true) (i1 : P.inPlace f = c.inPlace) (i2 : P.unfollowed f = c.unfollowed) (i3 : P.recurses f = c.recurses) (i4 : P.varsNamed f = c.named)
    (rest : (c.wf (OpenSpec.ofChange s) && fn.params.all (P.readableRec ·) && namedTie P c.named s.vars && (c.stops == []) && (c.knobs == []) &&
      (c.maps == (fn.params.toList ++ s.plain.varTypes P).any (P.mapsRec ·)) && (c.ifaces == (fn.params.toList ++ s.plain.varTypes P).any (P.ifacesRec ·)) && (c.mapsOut == P.mapsAmong fn.resultTypes.toList) &&
      (c.loops == (fn.params.toList ++ s.plain.varTypes P).any (P.loopsFrom ·)) && (c.wideKeys == (fn.params.toList ++ s.plain.varTypes P ++ fn.resultTypes.toList).any (P.wideKeysFrom ·)) &&
      s.vars.all (P.varReadable ·) && fn.resultTypes.all (fun t => P.readableRec t && decide (t < P.types.size)) && (c.ifacesOut == fn.resultTypes.toList.any (P.ifacesRec ·)) && (c.loopsOut == fn.resultTypes.toList.any (P.loopsFrom ·)) && c.shortTexts.isNone && (c.lifted == false) && (some Make.cut == some c.make) &&
      (c.kinds == (if c.domain.isEmpty then [] else fn.params.toList.map fun t => match P.underlying t with | some (.int k) => some k | _ => none)) && (c.pinned == c.pinnedBy) &&
      (c.veiled == (fn.params.toList ++ s.plain.varTypes P ++ fn.resultTypes.toList).any (P.veiledRec ·)) && c.veiledFits P fn.params.toList (fn.params.toList ++ s.plain.varTypes P ++ fn.resultTypes.toList)) = true) : joinedFacts P f fn s c = true := by
  simp only [Bool.and_eq_true] at rest
  unfold joinedFacts
  rw [hm, hl, he, h2, h3, hst, hk, hp, hh, i1, i2, i3, i4]
  simp only [beq_self_eq_true, Bool.and_eq_true, Bool.and_true]
  have hkd := rest.1.1.1.2
  simp only [rest, and_self]
  exact ⟨⟨⟨⟨trivial, hkd⟩, trivial⟩, trivial⟩, trivial⟩
end Go.Proofs.Ytmgacmkikefpjaa
namespace Go.Proofs.Ytmgacmkikefpjaa
def ioS : List Nat := [51, 53, 49, 99, 97, 57, 100, 56, 49, 57, 50, 99, 53, 49, 49, 48, 97, 97, 102, 51, 53, 50, 53, 100, 54, 101, 48, 99, 51, 50, 102, 56, 97, 51, 51, 55, 57, 54, 57, 98, 56, 51, 99, 51, 102, 50, 101, 53, 55, 48, 101, 98, 50, 49, 97, 101, 101, 50, 48, 54, 55, 56, 101, 101]
def ioB : List Nat := [97, 116, 32, 104, 97, 110, 100, 99, 97, 114, 116, 47, 104, 97, 110, 100, 99, 97, 114, 116, 108, 97, 119, 49, 48, 46, 76, 97, 116, 65, 108, 108, 32, 104, 97, 110, 100, 99, 97, 114, 116, 47, 104, 97, 110, 100, 99, 97, 114, 116, 108, 97, 119, 49, 48, 46, 76, 97, 116, 78, 111, 114, 109, 115, 32, 104, 97, 110, 100, 99, 97, 114, 116, 47, 104, 97, 110, 100, 99, 97, 114, 116, 108, 97, 119, 49, 48, 46, 76, 97, 116, 74, 111, 105, 110, 115, 32, 104, 97, 110, 100, 99, 97, 114, 116, 47, 104, 97, 110, 100, 99, 97, 114, 116, 108, 97, 119, 49, 48, 46, 76, 97, 116, 76, 101, 97, 115, 116, 32, 104, 97, 110, 100, 99, 97, 114, 116, 47, 104, 97, 110, 100, 99, 97, 114, 116, 108, 97, 119, 49, 54, 46, 78, 111, 116, 101, 76, 97, 115, 116, 32, 104, 97, 110, 100, 99, 97, 114, 116, 47, 104, 97, 110, 100, 99, 97, 114, 116, 108, 97, 119, 49, 54, 46, 78, 111, 116, 101, 80, 117, 116, 115, 32, 104, 97, 110, 100, 99, 97, 114, 116, 47, 104, 97, 110, 100, 99, 97, 114, 116, 108, 97, 119, 49, 49, 46, 68, 101, 108, 116, 97, 76, 101, 97, 115, 116, 32, 104, 97, 110, 100, 99, 97, 114, 116, 47, 104, 97, 110, 100, 99, 97, 114, 116, 108, 97, 119, 49, 49, 46, 68, 101, 108, 116, 97, 78, 101, 101, 100, 108, 101, 115, 115, 32, 104, 97, 110, 100, 99, 97, 114, 116, 47, 104, 97, 110, 100, 99, 97, 114, 116, 108, 97, 119, 49, 49, 46, 68, 101, 108, 116, 97, 80, 97, 114, 116, 115, 32, 104, 97, 110, 100, 99, 97, 114, 116, 47, 104, 97, 110, 100, 99, 97, 114, 116, 108, 97, 119, 49, 49, 46, 68, 101, 108, 116, 97, 83, 116, 97, 110, 100, 115, 32, 104, 97, 110, 100, 99, 97, 114, 116, 47, 104, 97, 110, 100, 99, 97, 114, 116, 108, 97, 119, 49, 52, 46, 84, 97, 103, 115, 65, 100, 100, 115, 32, 104, 97, 110, 100, 99, 97, 114, 116, 47, 104, 97, 110, 100, 99, 97, 114, 116, 108, 97, 119, 49, 52, 46, 84, 97, 103, 115, 87, 105, 110, 32, 104, 97, 110, 100, 99, 97, 114, 116, 47, 104, 97, 110, 100, 99, 97, 114, 116, 108, 97, 119, 49, 53, 46, 67, 111, 117, 110, 116, 84, 117, 114, 110, 115, 32, 104, 97, 110, 100, 99, 97, 114, 116, 47, 104, 97, 110, 100, 99, 97, 114, 116, 108, 97, 119, 49, 53, 46, 67, 111, 117, 110, 116, 65, 100, 100, 115, 32, 104, 97, 110, 100, 99, 97, 114, 116, 47, 104, 97, 110, 100, 99, 97, 114, 116, 108, 97, 119, 50, 49, 46, 67, 104, 117, 110, 107, 70, 101, 119, 101, 115, 116, 32, 104, 97, 110, 100, 99, 97, 114, 116, 47, 104, 97, 110, 100, 99, 97, 114, 116, 108, 97, 119, 49, 51, 46, 68, 111, 116, 115, 65, 100, 100, 115, 32, 104, 97, 110, 100, 99, 97, 114, 116, 47, 104, 97, 110, 100, 99, 97, 114, 116, 108, 97, 119, 49, 51, 46, 68, 111, 116, 115, 65, 108, 111, 110, 101, 32, 104, 97, 110, 100, 99, 97, 114, 116, 47, 104, 97, 110, 100, 99, 97, 114, 116, 108, 97, 119, 49, 51, 46, 68, 111, 116, 115, 74, 111, 105, 110, 115]
theorem io_eq : Try.prog.initOrder = String.ofList ("harness".toList ++ Char.ofNat 32 :: (ioS.map Char.ofNat ++ Char.ofNat 32 :: ("cut".toList ++ Char.ofNat 32 :: ioB.map Char.ofNat))) := by kernel_rfl
theorem io_sum : isSumSigns (ioS.map Char.ofNat) = true := by kernel_rfl
theorem io_hd : ∃ R, behindMainWord (wordsSigns Try.prog.initOrder.toList) = "cut".toList :: R := head_words io_eq io_sum (by decide)
theorem p_make : Try.prog.make = some .cut := make_of io_hd
theorem p_lifts : Try.prog.liftsFinal = false := lifts_of io_hd
theorem p_ll : Try.prog.laysLater = false := by kernel_rfl
theorem p_br : Try.prog.bearsReflect = false := by kernel_rfl
theorem p_df : Try.prog.doorFits [] = true := by kernel_rfl
theorem p_enter : Try.prog.mayEnter = true := enter_of io_hd p_ll p_br p_df
theorem p_rowed : mapsRowed Try.prog = true := by kernel_rfl
theorem p_stops : (Try.prog.stops == []) = true := by kernel_rfl
theorem p_knobs : (Try.prog.stopKnobs == []) = true := by kernel_rfl
theorem p_keys : Try.prog.plainKeys = false := by kernel_rfl
theorem p_heard : Try.prog.stopsHeard = true := by kernel_rfl
end Go.Proofs.Ytmgacmkikefpjaa
