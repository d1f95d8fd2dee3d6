/- Rules, plain words and walks that the claim leans on: Dx, Dy, Tb, Vj, Tc. -/
import Derived.Test.YtpjpaipkkcengaaZFrameBack2
set_option linter.unusedSimpArgs false
set_option linter.unusedVariables false
set_option linter.unusedSimpArgs false
set_option linter.unusedVariables false
set_option maxHeartbeats 2000000
set_option maxRecDepth 100000
namespace Go.Proofs.Ytpjpaipkkcengaa
open Go.RowKit

theorem openD_byt {l : List Int} (h : Byt l) : Byt (openD l) := by
  unfold openD; split
  · exact h.take _
  · intro y hy; cases hy
theorem openD_le (l : List Int) : (openD l).length ≤ l.length := by
  unfold openD; split <;> simp
def decE (l : List Int) : Int := if openE l = 0 then frE (openD l) else openE l
def decF (l : List Int) : Fm := if openE l = 0 then frF (openD l) else fm0
theorem fr_first (d : List Int) : firstE [(frSt d).s9.1, if decide (valB (frSt d).s7 ≤ 1) = true then 0 else 3, if 0 < (frSt d).s9.2.length then 3 else (frSt d).s9.1, checkF (frRaw d)] = frE d := by
  unfold frE
  by_cases h0 : (frSt d).s9.1 = 0
  · rw [if_pos h0, firstE, if_pos h0]
    by_cases h1 : valB (frSt d).s7 ≤ 1
    · rw [if_pos (decide_eq_true h1), firstE, if_pos rfl]
      by_cases h2 : 0 < (frSt d).s9.2.length
      · have h12 : 1 < valB (frSt d).s7 ∨ 0 < (frSt d).s9.2.length := .inr h2
        rw [if_pos h2, if_pos h12]; rfl
      · have h12 : ¬ (1 < valB (frSt d).s7 ∨ 0 < (frSt d).s9.2.length) := by omega
        rw [if_neg h2, if_neg h12, firstE, if_pos h0]
        by_cases h3 : checkF (frRaw d) = 0
        · simp [firstE, h3]
        · simp [firstE, h3]
    · have h12 : 1 < valB (frSt d).s7 ∨ 0 < (frSt d).s9.2.length := .inl (by omega)
      rw [if_neg (show ¬ decide (valB (frSt d).s7 ≤ 1) = true by simpa using h1), if_pos h12]; rfl
  · rw [if_neg h0, firstE, if_neg h0]
theorem fr_cells {d : List Int} (hb : Byt d) (B : Option Addr) (k : Nat) : (#[.int .u8 (valB (0, d)), .int .u8 (valB (frSt d).s1), .int .u8 (valB (frSt d).s2), .int .u32 (valN (frSt d).s3 : Int), .int .u32 (valN (frSt d).s4 : Int), .int .u8 (valB (frSt d).s5), .int .u32 (valN (frSt d).s6 : Int), .bool (decide (valB (frSt d).s7 = 1)), .slice B (bytS 65536 (frSt d).s8.1 (frSt d).s8.2).1.length k] : Array Value) = FA (frRaw d) B k := by
  have b1 : Byt (frSt d).s1.2 := oneS_byt hb
  have b2 : Byt (frSt d).s2.2 := oneS_byt b1
  have b3 : Byt (frSt d).s3.2 := oneS_byt b2
  have b4 : Byt (frSt d).s4.2 := numS_byt b3
  have b5 : Byt (frSt d).s5.2 := numS_byt b4
  have v : ∀ (s : Rs), Byt s.2 → (((valB s).toNat : Nat) : Int) = valB s := fun s hs => by have := oneS_val (e := s.1) hs; unfold valB; omega
  show _ = (#[.int .u8 (((valB (0, d)).toNat : Nat) : Int), .int .u8 (((valB (frSt d).s1).toNat : Nat) : Int), .int .u8 (((valB (frSt d).s2).toNat : Nat) : Int), _, _, .int .u8 (((valB (frSt d).s5).toNat : Nat) : Int), _, _, _] : Array Value)
  rw [v _ hb, v _ b1, v _ b2, v _ b5]
  rfl
structure FrB (d : List Int) : Prop where
  b1 : Byt (frSt d).s1.2
  b2 : Byt (frSt d).s2.2
  b3 : Byt (frSt d).s3.2
  b4 : Byt (frSt d).s4.2
  b5 : Byt (frSt d).s5.2
  b6 : Byt (frSt d).s6.2
  b7 : Byt (frSt d).s7.2
  b8 : Byt (frSt d).s8.2
  l1 : (frSt d).s1.2.length ≤ d.length
  l2 : (frSt d).s2.2.length ≤ d.length
  l3 : (frSt d).s3.2.length ≤ d.length
  l4 : (frSt d).s4.2.length ≤ d.length
  l5 : (frSt d).s5.2.length ≤ d.length
  l6 : (frSt d).s6.2.length ≤ d.length
  l7 : (frSt d).s7.2.length ≤ d.length
  l8 : (frSt d).s8.2.length ≤ d.length
theorem frB {d : List Int} (hb : Byt d) : FrB d := by
  have b1 : Byt (frSt d).s1.2 := oneS_byt hb
  have b2 : Byt (frSt d).s2.2 := oneS_byt b1
  have b3 : Byt (frSt d).s3.2 := oneS_byt b2
  have b4 : Byt (frSt d).s4.2 := numS_byt b3
  have b5 : Byt (frSt d).s5.2 := numS_byt b4
  have b6 : Byt (frSt d).s6.2 := oneS_byt b5
  have b7 : Byt (frSt d).s7.2 := numS_byt b6
  have b8 : Byt (frSt d).s8.2 := oneS_byt b7
  have l1 : (frSt d).s1.2.length ≤ d.length := oneS_len 0 d
  have l2 : (frSt d).s2.2.length ≤ (frSt d).s1.2.length := oneS_len _ _
  have l3 : (frSt d).s3.2.length ≤ (frSt d).s2.2.length := oneS_len _ _
  have l4 : (frSt d).s4.2.length ≤ (frSt d).s3.2.length := numS_len _ _ _
  have l5 : (frSt d).s5.2.length ≤ (frSt d).s4.2.length := numS_len _ _ _
  have l6 : (frSt d).s6.2.length ≤ (frSt d).s5.2.length := oneS_len _ _
  have l7 : (frSt d).s7.2.length ≤ (frSt d).s6.2.length := numS_len _ _ _
  have l8 : (frSt d).s8.2.length ≤ (frSt d).s7.2.length := oneS_len _ _
  exact ⟨b1, b2, b3, b4, b5, b6, b7, b8, by omega, by omega, by omega, by omega, by omega, by omega, by omega, by omega⟩

theorem c_cErrR (w0 : World) (q : Nat) (e : Int) (A : Option Addr) (n c : Nat) (hq : Rd w0 (some ⟨q, 0, none⟩) 1 2 [.int .i64 e, .slice A n c])  :
    CallR Try.prog 35 #[.pointer (some ⟨q, 0, none⟩)] w0 fun v w' => v = .int .i64 e ∧ Ext w0 w' := by
 have hS := St.rd1 (S := NoB) hq
 refine c_enter (l := [.pointer (some ⟨q, 0, none⟩), undef, undef, undef, undef, undef, undef, undef, undef, undef]) Try.func35 rfl (by simp only [Try.ntmps35, List.size_toArray, List.length_cons, List.length_nil, Nat.reduceAdd, Nat.reduceSub, Array.replicate_succ, Array.replicate_zero, List.push_toArray, List.append_toArray, List.nil_append, List.cons_append]) ?_
 refine x_seq fun K1 hK1 => ?_
 refine x_region ?_
 refine s_go (s_assign) ?_
 try simp only [opv, n1, n2, n3, n4, Value.cells]
 refine x_nil ?_
 refine hK1 _ _ ?_
 refine x_seq fun K2 hK2 => ?_
 refine x_seq fun K3 hK3 => ?_
 refine x_region ?_
 refine s_go (s_move) ?_
 try simp only [opv, n1, n2, n3, n4, Value.cells]
 refine s_go (s_eql_pointer Try.underlying48) ?_
 try simp only [opv, n1, n2, n3, n4, Value.cells]
 refine x_nil ?_
 refine hK3 _ _ ?_
 refine x_cond_f (h := ?_)
 refine x_skip ?_
 refine hK2 _ _ ?_
 refine x_seq fun K4 hK4 => ?_
 refine x_region ?_
 refine s_go (s_move) ?_
 try simp only [opv, n1, n2, n3, n4, Value.cells]
 refine s_go (s_nilCheck) ?_
 try simp only [opv, n1, n2, n3, n4, Value.cells]
 refine s_go (m_fieldAddr Try.underlying162 (hi := ti160)) ?_
 try simp only [opv, n1, n2, n3, n4, Value.cells, Nat.zero_add, Nat.add_zero, List.getElem_toArray, List.getElem_cons_zero, List.getElem_cons_succ]
 refine s_go (m_fieldAddr Try.underlying160 (hi := ti53)) ?_
 try simp only [opv, n1, n2, n3, n4, Value.cells, Nat.zero_add, Nat.add_zero, List.getElem_toArray, List.getElem_cons_zero, List.getElem_cons_succ]
 refine s_go (m_load_bx Try.underlying53 (hS := hS)) ?_
 try simp only [opv, n1, n2, n3, n4, Value.cells, List.getElem_toArray, List.getElem_cons_zero, List.getElem_cons_succ]
 refine s_go (s_assign) ?_
 try simp only [opv, n1, n2, n3, n4, Value.cells]
 refine x_nil ?_
 refine hK4 _ _ ?_
 refine x_ret ?_
 refine r_tmp rfl ?_
 exact ⟨rfl, hS.ext_of⟩
theorem c_cLeftR (w0 : World) (q : Nat) (e : Int) (A : Option Addr) (n c : Nat) (hq : Rd w0 (some ⟨q, 0, none⟩) 1 2 [.int .i64 e, .slice A n c])  :
    CallR Try.prog 39 #[.pointer (some ⟨q, 0, none⟩)] w0 fun v w' => v = .int .i64 (n : Int) ∧ Ext w0 w' := by
 have hS := St.rd1 (S := NoB) hq
 refine c_enter (l := [.pointer (some ⟨q, 0, none⟩), undef, undef, undef, undef, undef, undef, undef, undef, undef]) Try.func39 rfl (by simp only [Try.ntmps39, List.size_toArray, List.length_cons, List.length_nil, Nat.reduceAdd, Nat.reduceSub, Array.replicate_succ, Array.replicate_zero, List.push_toArray, List.append_toArray, List.nil_append, List.cons_append]) ?_
 refine x_seq fun K1 hK1 => ?_
 refine x_region ?_
 refine s_go (s_assign) ?_
 try simp only [opv, n1, n2, n3, n4, Value.cells]
 refine x_nil ?_
 refine hK1 _ _ ?_
 refine x_seq fun K2 hK2 => ?_
 refine x_seq fun K3 hK3 => ?_
 refine x_region ?_
 refine s_go (s_move) ?_
 try simp only [opv, n1, n2, n3, n4, Value.cells]
 refine s_go (s_eql_pointer Try.underlying48) ?_
 try simp only [opv, n1, n2, n3, n4, Value.cells]
 refine x_nil ?_
 refine hK3 _ _ ?_
 refine x_cond_f (h := ?_)
 refine x_skip ?_
 refine hK2 _ _ ?_
 refine x_seq fun K4 hK4 => ?_
 refine x_region ?_
 refine s_go (s_move) ?_
 try simp only [opv, n1, n2, n3, n4, Value.cells]
 refine s_go (s_nilCheck) ?_
 try simp only [opv, n1, n2, n3, n4, Value.cells]
 refine s_go (m_fieldAddr Try.underlying162 (hi := ti43)) ?_
 try simp only [opv, n1, n2, n3, n4, Value.cells, Nat.zero_add, Nat.add_zero, List.getElem_toArray, List.getElem_cons_zero, List.getElem_cons_succ]
 refine s_go (m_load_bx Try.underlying43 (hS := hS)) ?_
 try simp only [opv, n1, n2, n3, n4, Value.cells, List.getElem_toArray, List.getElem_cons_zero, List.getElem_cons_succ]
 refine s_go (s_len_sl Try.underlying43) ?_
 try simp only [opv, n1, n2, n3, n4, Value.cells]
 refine s_go (s_assign) ?_
 try simp only [opv, n1, n2, n3, n4, Value.cells]
 refine x_nil ?_
 refine hK4 _ _ ?_
 refine x_ret ?_
 refine r_tmp rfl ?_
 exact ⟨rfl, hS.ext_of⟩
theorem c_cDoneR (w0 : World) (q : Nat) (e : Int) (A : Option Addr) (n c : Nat) (hq : Rd w0 (some ⟨q, 0, none⟩) 1 2 [.int .i64 e, .slice A n c])  :
    CallR Try.prog 37 #[.pointer (some ⟨q, 0, none⟩)] w0 fun v w' => v = .int .i64 (if 0 < n then 3 else e) ∧ Ext w0 w' := by
 have hS := St.rd1 (S := NoB) hq
 refine c_enter (l := [.pointer (some ⟨q, 0, none⟩), undef, undef, undef, undef, undef, undef, undef]) Try.func37 rfl (by simp only [Try.ntmps37, List.size_toArray, List.length_cons, List.length_nil, Nat.reduceAdd, Nat.reduceSub, Array.replicate_succ, Array.replicate_zero, List.push_toArray, List.append_toArray, List.nil_append, List.cons_append]) ?_
 refine x_seq fun K1 hK1 => ?_
 refine x_region ?_
 refine s_go (s_assign) ?_
 try simp only [opv, n1, n2, n3, n4, Value.cells]
 refine x_nil ?_
 refine hK1 _ _ ?_
 refine x_seq fun K2 hK2 => ?_
 refine x_seq fun K3 hK3 => ?_
 refine x_region ?_
 refine s_go (s_move) ?_
 try simp only [opv, n1, n2, n3, n4, Value.cells]
 refine s_call en39 ?_
 try simp only [opv, n1, n2, n3, n4, Value.cells, List.map_toArray, List.map_cons, List.map_nil, List.append_toArray, List.cons_append, List.nil_append, Array.append_empty]
 refine CallR.mono (c_cLeftR _ q e A n c (hS.hasRd (by repeat (exact Has.head)))) ?_
 rintro _ w1 ⟨rfl, hE1⟩
 replace hS := hS.ext hE1
 try simp only [opv, n1, n2, n3, n4, Value.cells]
 refine s_go (s_gtr) ?_
 try simp only [opv, n1, n2, n3, n4, Value.cells]
 refine x_nil ?_
 refine hK3 _ _ ?_
 refine x_cond (ht := fun hc1 => ?_) (hf := fun hc1 => ?_)
 ·
  try simp only [decide_eq_true_eq, decide_eq_false_iff_not, Bool.not_eq_true', Bool.not_eq_false', Int.not_lt, Int.not_le, ne_eq, Decidable.not_not, bne_iff_ne, beq_iff_eq, not_true_eq_false, not_false_eq_true] at hc1
  have hL : (if 0 < n then (3 : Int) else e) = 3 := if_pos (by omega)
  refine x_seq fun K4 hK4 => ?_
  refine x_region ?_
  refine s_go (s_assign) ?_
  try simp only [opv, n1, n2, n3, n4, Value.cells]
  refine x_nil ?_
  refine hK4 _ _ ?_
  refine x_ret ?_
  refine r_tmp rfl ?_
  exact ⟨by rw [hL]; rfl, hS.ext_of⟩
 ·
  try simp only [decide_eq_true_eq, decide_eq_false_iff_not, Bool.not_eq_true', Bool.not_eq_false', Int.not_lt, Int.not_le, ne_eq, Decidable.not_not, bne_iff_ne, beq_iff_eq, not_true_eq_false, not_false_eq_true] at hc1
  have hL : (if 0 < n then (3 : Int) else e) = e := if_neg (by omega)
  refine x_skip ?_
  refine hK2 _ _ ?_
  refine x_seq fun K5 hK5 => ?_
  refine x_region ?_
  refine s_go (s_move) ?_
  try simp only [opv, n1, n2, n3, n4, Value.cells]
  refine s_call en35 ?_
  try simp only [opv, n1, n2, n3, n4, Value.cells, List.map_toArray, List.map_cons, List.map_nil, List.append_toArray, List.cons_append, List.nil_append, Array.append_empty]
  refine CallR.mono (c_cErrR _ q e A n c (hS.hasRd (by repeat (exact Has.head)))) ?_
  rintro _ w2 ⟨rfl, hE2⟩
  replace hS := hS.ext hE2
  try simp only [opv, n1, n2, n3, n4, Value.cells]
  refine s_go (s_assign) ?_
  try simp only [opv, n1, n2, n3, n4, Value.cells]
  refine x_nil ?_
  refine hK5 _ _ ?_
  refine x_ret ?_
  refine r_tmp rfl ?_
  exact ⟨by rw [hL]; rfl, hS.ext_of⟩
theorem c_frDec2 (w0 : World) (q : Nat) (x : Int) (hq : Rd w0 (some ⟨q, 0, none⟩) 1 1 [.int .u8 x])  :
    CallR Try.prog 155 #[.pointer (some ⟨q, 0, none⟩)] w0 fun v w' => v = .bool (decide (x ≤ 1)) ∧ Ext w0 w' := by
 have hS := St.rd1 (S := NoB) hq
 refine c_enter (l := [.pointer (some ⟨q, 0, none⟩), undef, undef, undef, undef]) Try.func155 rfl (by simp only [Try.ntmps155, List.size_toArray, List.length_cons, List.length_nil, Nat.reduceAdd, Nat.reduceSub, Array.replicate_succ, Array.replicate_zero, List.push_toArray, List.append_toArray, List.nil_append, List.cons_append]) ?_
 refine x_seq fun K1 hK1 => ?_
 refine x_region ?_
 refine s_go (s_assign) ?_
 try simp only [opv, n1, n2, n3, n4, Value.cells]
 refine x_nil ?_
 refine hK1 _ _ ?_
 refine x_seq fun K2 hK2 => ?_
 refine x_quiet (by kernel_rfl) (by kernel_rfl) hS ?_
 refine q_go (fun w hS => m_load_bx Try.underlying5 (hS := hS)) ?_
 try simp only [opv, n1, n2, n3, n4, Value.cells, List.getElem_toArray, List.getElem_cons_zero, List.getElem_cons_succ]
 apply q_call en152
 case H =>
   intro w hS
   try simp only [opv, n1, n2, n3, n4, List.map_toArray, List.map_cons, List.map_nil, List.append_toArray, List.cons_append, List.nil_append, Array.append_empty]
   refine CallR.mono (c_frTruth _ _) ?_
   rintro _ w1 ⟨rfl, hE⟩; exact ⟨rfl, hS.ext hE⟩
 try simp only [opv, n1, n2, n3, n4, Value.cells]
 rw [show boolN true = 1 from rfl]
 refine q_go (fun w hS => s_leq) ?_
 try simp only [opv, n1, n2, n3, n4, Value.cells]
 refine q_go (fun w hS => s_assign) ?_
 try simp only [opv, n1, n2, n3, n4, Value.cells]
 clear hS
 refine q_nil fun w1 hS => ?_
 refine hK2 _ _ ?_
 refine x_ret ?_
 refine r_tmp rfl ?_
 exact ⟨rfl, hS.ext_of⟩
theorem c_frDec3 (w0 : World) (q : Nat) (fm : Fm) (A : Option Addr) (cp : Nat) (hq : Rd w0 (some ⟨q, 0, none⟩) 1 9 (fmL fm A cp))  :
    CallR Try.prog 156 #[.pointer (some ⟨q, 0, none⟩)] w0 fun v w' => v = .int .i64 (checkF fm) ∧ Ext w0 w' := by
 have hS := St.rd1 (S := NoB) hq
 refine c_enter (l := [.pointer (some ⟨q, 0, none⟩), undef, undef, undef]) Try.func156 rfl (by simp only [Try.ntmps156, List.size_toArray, List.length_cons, List.length_nil, Nat.reduceAdd, Nat.reduceSub, Array.replicate_succ, Array.replicate_zero, List.push_toArray, List.append_toArray, List.nil_append, List.cons_append]) ?_
 refine x_seq fun K1 hK1 => ?_
 refine x_region ?_
 refine s_go (s_assign) ?_
 try simp only [opv, n1, n2, n3, n4, Value.cells]
 refine x_nil ?_
 refine hK1 _ _ ?_
 refine x_seq fun K2 hK2 => ?_
 refine x_region ?_
 refine s_go (m_loada_bx Try.underlying90 (hi := ti90) (hS := hS) (hfit := by (simp [fmL]; done))) ?_
 try simp only [opv, n1, n2, n3, n4, Value.cells, List.getElem_toArray, List.getElem_cons_zero, List.getElem_cons_succ]
 refine s_call en66 ?_
 try simp only [opv, n1, n2, n3, n4, Value.cells, List.map_toArray, List.map_cons, List.map_nil, List.append_toArray, List.cons_append, List.nil_append, Array.append_empty]
 refine CallR.mono (c_frCheck fm A cp _) ?_
 rintro _ w1 ⟨rfl, hE1⟩
 replace hS := hS.ext hE1
 try simp only [opv, n1, n2, n3, n4, Value.cells]
 refine s_go (s_assign) ?_
 try simp only [opv, n1, n2, n3, n4, Value.cells]
 refine x_nil ?_
 refine hK2 _ _ ?_
 refine x_ret ?_
 refine r_tmp rfl ?_
 exact ⟨rfl, hS.ext_of⟩
theorem c_frNum (w0 : World) (g : Nat) (e : Int) (A : Option Addr) (c : Nat) (xs : List Int) (hc : xs.length ≤ c) (hw : Byt xs) (hn : xs.length ≤ 1000000000) (b : Nat) (hM : St (OwnB [.obj g (.cells #[.int .i64 e, .slice A xs.length c] 162 (0, 0)), .rd A 1 xs.length (xs.map (Value.int .u8)), .obj b (.cells #[.pointer (some ⟨g, 0, none⟩)] 48 (0, 0))]) w0 w0 [.obj g (.cells #[.int .i64 e, .slice A xs.length c] 162 (0, 0)), .rd A 1 xs.length (xs.map (Value.int .u8)), .obj b (.cells #[.pointer (some ⟨g, 0, none⟩)] 48 (0, 0))]) :
    CallR Try.prog 151 #[.pointer (some ⟨b, 0, none⟩)] w0 fun v w' => v = .int .u32 ((numS 4294967295 e xs).1 : Int) ∧ CuSt w0 w' [.obj g (.cells #[.int .i64 e, .slice A xs.length c] 162 (0, 0)), .rd A 1 xs.length (xs.map (Value.int .u8)), .obj b (.cells #[.pointer (some ⟨g, 0, none⟩)] 48 (0, 0))] g (numS 4294967295 e xs).2.1 (numS 4294967295 e xs).2.2 [.obj b (.cells #[.pointer (some ⟨g, 0, none⟩)] 48 (0, 0))] := by
 have hS := hM
 have hnl := numS_le 4294967295 e xs
 refine c_enter (l := [.pointer (some ⟨b, 0, none⟩), undef, undef, undef, undef]) Try.func151 rfl (by simp only [Try.ntmps151, List.size_toArray, List.length_cons, List.length_nil, Nat.reduceAdd, Nat.reduceSub, Array.replicate_succ, Array.replicate_zero, List.push_toArray, List.append_toArray, List.nil_append, List.cons_append]) ?_
 refine x_seq fun K1 hK1 => ?_
 refine x_region ?_
 refine s_go (s_assign) ?_
 try simp only [opv, n1, n2, n3, n4, Value.cells]
 refine x_nil ?_
 refine hK1 _ _ ?_
 refine x_seq fun K2 hK2 => ?_
 refine x_region ?_
 refine s_go (m_load_obj Try.underlying48 (hS := hS)) ?_
 try simp only [opv, n1, n2, n3, n4, Value.cells, List.getElem_toArray, List.getElem_cons_zero, List.getElem_cons_succ]
 refine s_call en122 ?_
 try simp only [opv, n1, n2, n3, n4, Value.cells, List.map_toArray, List.map_cons, List.map_nil, List.append_toArray, List.cons_append, List.nil_append, Array.append_empty]
 refine CallR.mono (c_cNum _ g e A c xs hc hw hn 4294967295 (by omega) (hS.owns (by repeat (first | exact Spl.nil | (apply Spl.cons (by repeat (exact Del.head))))))) ?_
 rintro _ w1 ⟨rfl, A1, c1, hcp1, hR1, hC1⟩
 have hY1 := RdIn.trans hM hS (by repeat (first | exact Spl.nil | (apply Spl.cons (by repeat (exact Del.head))))) hR1 (by intro s hs q hb; simp only [List.mem_cons, List.not_mem_nil, or_false] at hs; rcases hs with rfl | rfl <;> first | (simp [Res.reads] at hb; done) | exact .inr ⟨_, List.mem_cons_of_mem _ (List.mem_cons_self ..), .inr hb⟩)
 replace hS := hS.frame (by repeat (first | exact Spl.nil | (apply Spl.cons (by repeat (exact Del.head))))) hC1 (by intro r hr b hb; simp only [List.mem_cons, List.not_mem_nil, or_false] at hr; rcases hr with rfl | rfl <;> first | (simp [Res.reads] at hb; done) | exact hR1 b hb)
 replace hR1 := hY1
 simp only [List.cons_append, List.nil_append] at hS
 try simp only [opv, n1, n2, n3, n4, Value.cells]
 refine s_go (s_conv Try.underlying40 Try.underlying25 (hc := by exact wr_u32 (by omega) (by omega))) ?_
 try simp only [opv, n1, n2, n3, n4, Value.cells]
 refine s_go (s_assign) ?_
 try simp only [opv, n1, n2, n3, n4, Value.cells]
 refine x_nil ?_
 refine hK2 _ _ ?_
 refine x_ret ?_
 refine r_tmp rfl ?_
 exact ⟨rfl, _, _, by assumption, by assumption, hS.sel (by repeat (first | exact Sel.nil | (refine Sel.cons (by repeat (exact Del.head)) ?_)))⟩
theorem c_frDecode (w0 : World) (A : Option Addr) (n c : Nat) (l : List Int) (hr : Rd w0 A 1 n (l.map (Value.int .u8))) (hl : l.length = n) (hw : Byt l) (hn : n ≤ 1000000) (hc : n ≤ c) :
    CallR Try.prog 60 #[.slice A n c] w0 fun v w' => ∃ (B : Option Addr) (k : Nat), v = .tuple #[.agg (FA (decF l) B k), .int .i64 (decE l)] ∧ St NoB w0 w' [.vec B k 5 1 (decF l).d.length ((decF l).d.map (Value.int .u8))] := by
 have hS := St.rd1 (S := NoB) hr
 refine c_enter (l := [.slice A n c, undef, undef, undef, undef, undef, undef, undef, undef, undef, undef, undef, undef, undef, undef, undef, undef, undef, undef, undef, undef, undef, undef, undef, undef, undef, undef, undef, undef, undef, undef, undef, undef, undef, undef, undef, undef, undef, undef, undef, undef, undef, undef, undef, undef, undef, undef, undef, undef, undef, undef, undef, undef, undef, undef, undef, undef, undef, undef, undef, undef, undef, undef, undef, undef, undef, undef]) Try.func60 rfl (by simp only [Try.ntmps60, List.size_toArray, List.length_cons, List.length_nil, Nat.reduceAdd, Nat.reduceSub, Array.replicate_succ, Array.replicate_zero, List.push_toArray, List.append_toArray, List.nil_append, List.cons_append]) ?_
 refine x_seq fun K1 hK1 => ?_
 refine x_region ?_
 refine m_alloc ti90 hS (fun w1 g1 hS => ?_)
 try simp only [opv, n1, n2, n3, n4, Value.cells, Array.toArray_toList] at hS ⊢
 obtain ⟨gr, hgr⟩ : ∃ z, z = g1 := ⟨_, rfl⟩
 rw [← hgr] at hS ⊢
 replace hS : St NoB w0 w1 (.obj gr (.cells #[.int .u8 0, .int .u8 0, .int .u8 0, .int .u32 0, .int .u32 0, .int .u8 0, .int .u32 0, .bool false, .slice none 0 0] 90 (0, 0)) :: _) := hS
 refine s_go (s_assign) ?_
 try simp only [opv, n1, n2, n3, n4, Value.cells]
 refine x_nil ?_
 refine hK1 _ _ ?_
 refine x_seq fun K2 hK2 => ?_
 refine x_region ?_
 refine s_go (s_move) ?_
 try simp only [opv, n1, n2, n3, n4, Value.cells]
 refine s_call en150 ?_
 try simp only [opv, n1, n2, n3, n4, Value.cells, List.map_toArray, List.map_cons, List.map_nil, List.append_toArray, List.cons_append, List.nil_append, Array.append_empty]
 refine CallR.mono (c_crcOpen _ A n c l (hS.hasRd (by repeat (first | exact Has.head | apply Has.tail))) hl hw (by omega) hc) ?_
 rintro _ w2 ⟨A1, m1, c1, rfl, hm1, hC2⟩
 replace hS := hS.call hC2
 simp only [List.cons_append, List.nil_append] at hS
 try simp only [opv, n1, n2, n3, n4, Value.cells]
 refine s_go (s_move) ?_
 try simp only [opv, n1, n2, n3, n4, Value.cells]
 refine s_go (s_extract (hv := rfl)) ?_
 try simp only [List.getElem_toArray, List.getElem_cons_zero, List.getElem_cons_succ]
 try simp only [opv, n1, n2, n3, n4, Value.cells]
 refine s_go (s_extract (hv := rfl)) ?_
 try simp only [List.getElem_toArray, List.getElem_cons_zero, List.getElem_cons_succ]
 try simp only [opv, n1, n2, n3, n4, Value.cells]
 refine s_go (s_assign) ?_
 try simp only [opv, n1, n2, n3, n4, Value.cells]
 refine s_go (s_assign) ?_
 try simp only [opv, n1, n2, n3, n4, Value.cells]
 refine x_nil ?_
 refine hK2 _ _ ?_
 refine x_seq fun K3 hK3 => ?_
 refine x_seq fun K4 hK4 => ?_
 refine x_region ?_
 refine s_go (s_move) ?_
 try simp only [opv, n1, n2, n3, n4, Value.cells]
 refine s_go (s_neq) ?_
 try simp only [opv, n1, n2, n3, n4, Value.cells]
 refine x_nil ?_
 refine hK4 _ _ ?_
 refine x_cond (ht := fun hc1 => ?_) (hf := fun hc1 => ?_)
 ·
  try simp only [decide_eq_true_eq, decide_eq_false_iff_not, Bool.not_eq_true', Bool.not_eq_false', Int.not_lt, Int.not_le, ne_eq, Decidable.not_not, bne_iff_ne, beq_iff_eq, not_true_eq_false, not_false_eq_true] at hc1
  have hO : ¬ openE l = 0 := hc1
  have hdE : decE l = openE l := if_neg hO
  have hdF : decF l = fm0 := if_neg hO
  refine x_seq fun K5 hK5 => ?_
  refine x_region ?_
  refine s_go (s_build_struct (cells := #[.int .u8 0, .int .u8 0, .int .u8 0, .int .u32 0, .int .u32 0, .int .u8 0, .int .u32 0, .bool false, .slice none 0 0]) Try.underlying90 ti90 bp90 (hc := by simp only [List.map_toArray, List.map_cons, List.map_nil, opv, n1, n2, n3, n4, Value.cells, List.toList_toArray]; (repeat (refine fill_cons rfl rfl (Nat.le_of_ble_eq_true rfl) ?_)); rfl)) ?_
  try simp only [opv, n1, n2, n3, n4, Value.cells]
  refine s_go (s_move) ?_
  try simp only [opv, n1, n2, n3, n4, Value.cells]
  refine m_store_obj ti90 (hS := hS) (h := fun w3 hS => ?_)
  try simp only [opv, n1, n2, n3, n4, Value.cells, Array.toArray_toList] at hS ⊢
  refine s_go (s_assign) ?_
  try simp only [opv, n1, n2, n3, n4, Value.cells]
  refine x_nil ?_
  refine hK5 _ _ ?_
  refine x_ret ?_
  refine r_cell_tmp_agg rfl Try.underlying90 ti90 (hS := hS) (hR := ?_)
  replace hS := hS.nil_vec 5 1
  exact ⟨none, 0, by rw [hdE, hdF]; rfl, by rw [hdF]; exact hS.sel (by repeat (first | exact Sel.nil | (refine Sel.cons (by repeat (exact Del.head)) ?_)))⟩
 ·
  try simp only [decide_eq_true_eq, decide_eq_false_iff_not, Bool.not_eq_true', Bool.not_eq_false', Int.not_lt, Int.not_le, ne_eq, Decidable.not_not, bne_iff_ne, beq_iff_eq, not_true_eq_false, not_false_eq_true] at hc1
  have hO : openE l = 0 := by simpa using hc1
  obtain ⟨d, hod⟩ : ∃ d, openD l = d := ⟨_, rfl⟩
  have hdb : Byt d := by rw [← hod]; exact openD_byt hw
  have hdl : d.length ≤ n := by rw [← hod, ← hl]; exact openD_le l
  have hB := frB hdb
  rw [hod] at hS hm1
  subst hm1
  have hE1 : decE l = frE d := by rw [decE, if_pos hO, hod]
  have hF1 : decF l = frF d := by rw [decF, if_pos hO, hod]
  refine x_skip ?_
  refine hK3 _ _ ?_
  refine x_seq fun K6 hK6 => ?_
  refine x_region ?_
  refine s_go (s_move) ?_
  try simp only [opv, n1, n2, n3, n4, Value.cells]
  refine s_call en31 ?_
  try simp only [opv, n1, n2, n3, n4, Value.cells, List.map_toArray, List.map_cons, List.map_nil, List.append_toArray, List.cons_append, List.nil_append, Array.append_empty]
  refine CallR.mono (c_cFrom _ A1 c1 d (hS.vecRd (by repeat (exact Has.head))) (by omega)) ?_
  rintro _ w4 ⟨q, Aq, cq, rfl, hcq, hC4⟩
  replace hS := hS.call hC4
  simp only [List.cons_append, List.nil_append] at hS
  replace hS := hS.vec_rd (by exact Upd.tail Upd.head)
  try simp only [opv, n1, n2, n3, n4, Value.cells]
  refine m_alloc ti48 hS (fun w5 g5 hS => ?_)
  try simp only [opv, n1, n2, n3, n4, Value.cells, Array.toArray_toList] at hS ⊢
  obtain ⟨gp, hgp⟩ : ∃ z, z = g5 := ⟨_, rfl⟩
  rw [← hgp] at hS ⊢
  refine m_store_obj ti48 (hS := hS) (h := fun w6 hS => ?_)
  try simp only [opv, n1, n2, n3, n4, Value.cells, Array.toArray_toList] at hS ⊢
  refine x_nil ?_
  refine hK6 _ _ ?_
  refine x_seq fun K7 hK7 => ?_
  refine x_region ?_
  refine s_go (m_load_obj Try.underlying48 (hS := hS)) ?_
  try simp only [opv, n1, n2, n3, n4, Value.cells, List.getElem_toArray, List.getElem_cons_zero, List.getElem_cons_succ]
  refine s_go (s_makeFunc) ?_
  try simp only [opv, n1, n2, n3, n4, Value.cells, List.map_toArray, List.map_cons, List.map_nil]
  refine s_go (s_assign) ?_
  try simp only [opv, n1, n2, n3, n4, Value.cells]
  refine x_nil ?_
  refine hK7 _ _ ?_
  refine x_seq fun K8 hK8 => ?_
  refine x_region ?_
  refine s_go (s_makeFunc) ?_
  try simp only [opv, n1, n2, n3, n4, Value.cells, List.map_toArray, List.map_cons, List.map_nil]
  refine s_go (s_assign) ?_
  try simp only [opv, n1, n2, n3, n4, Value.cells]
  refine x_nil ?_
  refine hK8 _ _ ?_
  refine x_seq fun K9 hK9 => ?_
  refine x_region ?_
  refine s_go (s_move) ?_
  try simp only [opv, n1, n2, n3, n4, Value.cells]
  refine s_callm (hv := rfl) en123 ?_
  try simp only [opv, n1, n2, n3, n4, Value.cells, List.map_toArray, List.map_cons, List.map_nil, List.append_toArray, List.cons_append, List.nil_append, Array.append_empty]
  refine CallR.mono (c_cByte _ q (0) Aq cq (d) hcq (hdb) (by omega)  (hS.owns (by repeat (first | exact Spl.nil | (apply Spl.cons (by repeat (first | exact Del.head | apply Del.tail))))))) ?_
  rintro _ w7 ⟨rfl, Ac1, cc1, hcp1, hR7, hC7⟩
  replace hS := hS.frame (by repeat (first | exact Spl.nil | (apply Spl.cons (by repeat (first | exact Del.head | apply Del.tail))))) hC7 (by intro r hr b hb; simp only [List.mem_cons, List.not_mem_nil, or_false] at hr; rcases hr with rfl | rfl <;> first | (simp [Res.reads] at hb; done) | exact hR7 b hb)
  simp only [List.cons_append, List.nil_append] at hS
  replace hcp1 : ((frSt d).s1.2).length ≤ cc1 := hcp1
  replace hS : St NoB w0 w7 (.obj q (.cells #[.int .i64 (frSt d).s1.1, .slice Ac1 ((frSt d).s1.2).length cc1] 162 (0, 0)) :: .rd Ac1 1 ((frSt d).s1.2).length (((frSt d).s1.2).map (Value.int .u8)) :: _) := hS
  try simp only [opv, n1, n2, n3, n4, Value.cells]
  rw [show (oneS 0 d).1 = valB (0, d) from rfl]
  refine s_go (s_move) ?_
  try simp only [opv, n1, n2, n3, n4, Value.cells]
  refine s_callm (hv := rfl) en123 ?_
  try simp only [opv, n1, n2, n3, n4, Value.cells, List.map_toArray, List.map_cons, List.map_nil, List.append_toArray, List.cons_append, List.nil_append, Array.append_empty]
  refine CallR.mono (c_cByte _ q ((frSt d).s1.1) Ac1 cc1 ((frSt d).s1.2) hcp1 (hB.b1) (by have := hB.l1; omega)  (hS.owns (by repeat (first | exact Spl.nil | (apply Spl.cons (by repeat (exact Del.head))))))) ?_
  rintro _ w8 ⟨rfl, Ac2, cc2, hcp2, hR8, hC8⟩
  replace hS := hS.frame (by repeat (first | exact Spl.nil | (apply Spl.cons (by repeat (exact Del.head))))) hC8 (by intro r hr b hb; simp only [List.mem_cons, List.not_mem_nil, or_false] at hr; rcases hr with rfl | rfl <;> first | (simp [Res.reads] at hb; done) | exact hR8 b hb)
  simp only [List.cons_append, List.nil_append] at hS
  replace hcp2 : ((frSt d).s2.2).length ≤ cc2 := hcp2
  replace hS : St NoB w0 w8 (.obj q (.cells #[.int .i64 (frSt d).s2.1, .slice Ac2 ((frSt d).s2.2).length cc2] 162 (0, 0)) :: .rd Ac2 1 ((frSt d).s2.2).length (((frSt d).s2.2).map (Value.int .u8)) :: _) := hS
  try simp only [opv, n1, n2, n3, n4, Value.cells]
  rw [show (oneS (frSt d).s1.1 (frSt d).s1.2).1 = valB (frSt d).s1 from rfl]
  refine s_go (s_move) ?_
  try simp only [opv, n1, n2, n3, n4, Value.cells]
  refine s_callm (hv := rfl) en123 ?_
  try simp only [opv, n1, n2, n3, n4, Value.cells, List.map_toArray, List.map_cons, List.map_nil, List.append_toArray, List.cons_append, List.nil_append, Array.append_empty]
  refine CallR.mono (c_cByte _ q ((frSt d).s2.1) Ac2 cc2 ((frSt d).s2.2) hcp2 (hB.b2) (by have := hB.l2; omega)  (hS.owns (by repeat (first | exact Spl.nil | (apply Spl.cons (by repeat (exact Del.head))))))) ?_
  rintro _ w9 ⟨rfl, Ac3, cc3, hcp3, hR9, hC9⟩
  replace hS := hS.frame (by repeat (first | exact Spl.nil | (apply Spl.cons (by repeat (exact Del.head))))) hC9 (by intro r hr b hb; simp only [List.mem_cons, List.not_mem_nil, or_false] at hr; rcases hr with rfl | rfl <;> first | (simp [Res.reads] at hb; done) | exact hR9 b hb)
  simp only [List.cons_append, List.nil_append] at hS
  replace hcp3 : ((frSt d).s3.2).length ≤ cc3 := hcp3
  replace hS : St NoB w0 w9 (.obj q (.cells #[.int .i64 (frSt d).s3.1, .slice Ac3 ((frSt d).s3.2).length cc3] 162 (0, 0)) :: .rd Ac3 1 ((frSt d).s3.2).length (((frSt d).s3.2).map (Value.int .u8)) :: _) := hS
  try simp only [opv, n1, n2, n3, n4, Value.cells]
  rw [show (oneS (frSt d).s2.1 (frSt d).s2.2).1 = valB (frSt d).s2 from rfl]
  refine s_go (s_build_struct (cells := #[_, _, _, .int .u32 0, .int .u32 0, .int .u8 0, .int .u32 0, .bool false, .slice none 0 0]) Try.underlying90 ti90 bp90 (hc := by simp only [List.map_toArray, List.map_cons, List.map_nil, opv, n1, n2, n3, n4, Value.cells, List.toList_toArray]; (repeat (refine fill_cons rfl rfl (Nat.le_of_ble_eq_true rfl) ?_)); rfl)) ?_
  try simp only [opv, n1, n2, n3, n4, Value.cells]
  refine m_alloc ti90 hS (fun w10 g10 hS => ?_)
  try simp only [opv, n1, n2, n3, n4, Value.cells, Array.toArray_toList] at hS ⊢
  obtain ⟨g9, hg9⟩ : ∃ z, z = g10 := ⟨_, rfl⟩
  rw [← hg9] at hS ⊢
  refine m_store_obj ti90 (hS := hS) (h := fun w11 hS => ?_)
  try simp only [opv, n1, n2, n3, n4, Value.cells, Array.toArray_toList] at hS ⊢
  refine x_nil ?_
  refine hK9 _ _ ?_
  refine x_seq fun K10 hK10 => ?_
  refine x_region ?_
  refine s_go (s_move) ?_
  try simp only [opv, n1, n2, n3, n4, Value.cells]
  refine s_callv (hv := rfl) en151 ?_
  try simp only [opv, n1, n2, n3, n4, Value.cells, List.map_toArray, List.map_cons, List.map_nil, List.append_toArray, List.cons_append, List.nil_append, Array.append_empty]
  refine CallR.mono (c_frNum _ q ((frSt d).s3.1) Ac3 cc3 ((frSt d).s3.2) hcp3 (hB.b3) (by have := hB.l3; omega) gp (hS.owns (by repeat (first | exact Spl.nil | (apply Spl.cons (by repeat (first | exact Del.head | apply Del.tail))))))) ?_
  rintro _ w12 ⟨rfl, Ac4, cc4, hcp4, hR12, hC12⟩
  replace hS := hS.frame (by repeat (first | exact Spl.nil | (apply Spl.cons (by repeat (first | exact Del.head | apply Del.tail))))) hC12 (by intro r hr b hb; simp only [List.mem_cons, List.not_mem_nil, or_false] at hr; rcases hr with rfl | rfl | rfl <;> first | (simp [Res.reads] at hb; done) | exact hR12 b hb)
  simp only [List.cons_append, List.nil_append] at hS
  replace hcp4 : ((frSt d).s4.2).length ≤ cc4 := hcp4
  replace hS : St NoB w0 w12 (.obj q (.cells #[.int .i64 (frSt d).s4.1, .slice Ac4 ((frSt d).s4.2).length cc4] 162 (0, 0)) :: .rd Ac4 1 ((frSt d).s4.2).length (((frSt d).s4.2).map (Value.int .u8)) :: _) := hS
  try simp only [opv, n1, n2, n3, n4, Value.cells]
  rw [show (numS 4294967295 (frSt d).s3.1 (frSt d).s3.2).1 = valN (frSt d).s3 from rfl]
  refine s_go (s_move) ?_
  try simp only [opv, n1, n2, n3, n4, Value.cells]
  refine s_callv (hv := rfl) en151 ?_
  try simp only [opv, n1, n2, n3, n4, Value.cells, List.map_toArray, List.map_cons, List.map_nil, List.append_toArray, List.cons_append, List.nil_append, Array.append_empty]
  refine CallR.mono (c_frNum _ q ((frSt d).s4.1) Ac4 cc4 ((frSt d).s4.2) hcp4 (hB.b4) (by have := hB.l4; omega) gp (hS.owns (by repeat (first | exact Spl.nil | (apply Spl.cons (by repeat (exact Del.head))))))) ?_
  rintro _ w13 ⟨rfl, Ac5, cc5, hcp5, hR13, hC13⟩
  replace hS := hS.frame (by repeat (first | exact Spl.nil | (apply Spl.cons (by repeat (exact Del.head))))) hC13 (by intro r hr b hb; simp only [List.mem_cons, List.not_mem_nil, or_false] at hr; rcases hr with rfl | rfl | rfl <;> first | (simp [Res.reads] at hb; done) | exact hR13 b hb)
  simp only [List.cons_append, List.nil_append] at hS
  replace hcp5 : ((frSt d).s5.2).length ≤ cc5 := hcp5
  replace hS : St NoB w0 w13 (.obj q (.cells #[.int .i64 (frSt d).s5.1, .slice Ac5 ((frSt d).s5.2).length cc5] 162 (0, 0)) :: .rd Ac5 1 ((frSt d).s5.2).length (((frSt d).s5.2).map (Value.int .u8)) :: _) := hS
  try simp only [opv, n1, n2, n3, n4, Value.cells]
  rw [show (numS 4294967295 (frSt d).s4.1 (frSt d).s4.2).1 = valN (frSt d).s4 from rfl]
  refine s_go (m_fieldAddr Try.underlying90 (hi := ti25)) ?_
  try simp only [opv, n1, n2, n3, n4, Value.cells, Nat.zero_add, Nat.add_zero, List.getElem_toArray, List.getElem_cons_zero, List.getElem_cons_succ]
  refine m_store_obj ti25 (hS := hS) (h := fun w14 hS => ?_)
  try simp only [opv, n1, n2, n3, n4, Value.cells, Array.toArray_toList] at hS ⊢
  refine s_go (m_fieldAddr Try.underlying90 (hi := ti25)) ?_
  try simp only [opv, n1, n2, n3, n4, Value.cells, Nat.zero_add, Nat.add_zero, List.getElem_toArray, List.getElem_cons_zero, List.getElem_cons_succ]
  refine m_store_obj ti25 (hS := hS) (h := fun w15 hS => ?_)
  try simp only [opv, n1, n2, n3, n4, Value.cells, Array.toArray_toList] at hS ⊢
  refine x_nil ?_
  refine hK10 _ _ ?_
  refine x_seq fun K11 hK11 => ?_
  refine x_region ?_
  refine s_go (s_move) ?_
  try simp only [opv, n1, n2, n3, n4, Value.cells]
  refine s_callm (hv := rfl) en123 ?_
  try simp only [opv, n1, n2, n3, n4, Value.cells, List.map_toArray, List.map_cons, List.map_nil, List.append_toArray, List.cons_append, List.nil_append, Array.append_empty]
  refine CallR.mono (c_cByte _ q ((frSt d).s5.1) Ac5 cc5 ((frSt d).s5.2) hcp5 (hB.b5) (by have := hB.l5; omega)  (hS.owns (by repeat (first | exact Spl.nil | (apply Spl.cons (by repeat (exact Del.head))))))) ?_
  rintro _ w16 ⟨rfl, Ac6, cc6, hcp6, hR16, hC16⟩
  replace hS := hS.frame (by repeat (first | exact Spl.nil | (apply Spl.cons (by repeat (exact Del.head))))) hC16 (by intro r hr b hb; simp only [List.mem_cons, List.not_mem_nil, or_false] at hr; rcases hr with rfl | rfl <;> first | (simp [Res.reads] at hb; done) | exact hR16 b hb)
  simp only [List.cons_append, List.nil_append] at hS
  replace hcp6 : ((frSt d).s6.2).length ≤ cc6 := hcp6
  replace hS : St NoB w0 w16 (.obj q (.cells #[.int .i64 (frSt d).s6.1, .slice Ac6 ((frSt d).s6.2).length cc6] 162 (0, 0)) :: .rd Ac6 1 ((frSt d).s6.2).length (((frSt d).s6.2).map (Value.int .u8)) :: _) := hS
  try simp only [opv, n1, n2, n3, n4, Value.cells]
  rw [show (oneS (frSt d).s5.1 (frSt d).s5.2).1 = valB (frSt d).s5 from rfl]
  refine s_go (s_move) ?_
  try simp only [opv, n1, n2, n3, n4, Value.cells]
  refine s_callv (hv := rfl) en151 ?_
  try simp only [opv, n1, n2, n3, n4, Value.cells, List.map_toArray, List.map_cons, List.map_nil, List.append_toArray, List.cons_append, List.nil_append, Array.append_empty]
  refine CallR.mono (c_frNum _ q ((frSt d).s6.1) Ac6 cc6 ((frSt d).s6.2) hcp6 (hB.b6) (by have := hB.l6; omega) gp (hS.owns (by repeat (first | exact Spl.nil | (apply Spl.cons (by repeat (exact Del.head))))))) ?_
  rintro _ w17 ⟨rfl, Ac7, cc7, hcp7, hR17, hC17⟩
  replace hS := hS.frame (by repeat (first | exact Spl.nil | (apply Spl.cons (by repeat (exact Del.head))))) hC17 (by intro r hr b hb; simp only [List.mem_cons, List.not_mem_nil, or_false] at hr; rcases hr with rfl | rfl | rfl <;> first | (simp [Res.reads] at hb; done) | exact hR17 b hb)
  simp only [List.cons_append, List.nil_append] at hS
  replace hcp7 : ((frSt d).s7.2).length ≤ cc7 := hcp7
  replace hS : St NoB w0 w17 (.obj q (.cells #[.int .i64 (frSt d).s7.1, .slice Ac7 ((frSt d).s7.2).length cc7] 162 (0, 0)) :: .rd Ac7 1 ((frSt d).s7.2).length (((frSt d).s7.2).map (Value.int .u8)) :: _) := hS
  try simp only [opv, n1, n2, n3, n4, Value.cells]
  rw [show (numS 4294967295 (frSt d).s6.1 (frSt d).s6.2).1 = valN (frSt d).s6 from rfl]
  refine s_go (m_fieldAddr Try.underlying90 (hi := ti5)) ?_
  try simp only [opv, n1, n2, n3, n4, Value.cells, Nat.zero_add, Nat.add_zero, List.getElem_toArray, List.getElem_cons_zero, List.getElem_cons_succ]
  refine m_store_obj ti5 (hS := hS) (h := fun w18 hS => ?_)
  try simp only [opv, n1, n2, n3, n4, Value.cells, Array.toArray_toList] at hS ⊢
  refine s_go (m_fieldAddr Try.underlying90 (hi := ti25)) ?_
  try simp only [opv, n1, n2, n3, n4, Value.cells, Nat.zero_add, Nat.add_zero, List.getElem_toArray, List.getElem_cons_zero, List.getElem_cons_succ]
  refine m_store_obj ti25 (hS := hS) (h := fun w19 hS => ?_)
  try simp only [opv, n1, n2, n3, n4, Value.cells, Array.toArray_toList] at hS ⊢
  refine x_nil ?_
  refine hK11 _ _ ?_
  refine x_seq fun K12 hK12 => ?_
  refine x_region ?_
  refine s_go (s_move) ?_
  try simp only [opv, n1, n2, n3, n4, Value.cells]
  refine s_callm (hv := rfl) en123 ?_
  try simp only [opv, n1, n2, n3, n4, Value.cells, List.map_toArray, List.map_cons, List.map_nil, List.append_toArray, List.cons_append, List.nil_append, Array.append_empty]
  refine CallR.mono (c_cByte _ q ((frSt d).s7.1) Ac7 cc7 ((frSt d).s7.2) hcp7 (hB.b7) (by have := hB.l7; omega)  (hS.owns (by repeat (first | exact Spl.nil | (apply Spl.cons (by repeat (exact Del.head))))))) ?_
  rintro _ w20 ⟨rfl, Ac8, cc8, hcp8, hR20, hC20⟩
  replace hS := hS.frame (by repeat (first | exact Spl.nil | (apply Spl.cons (by repeat (exact Del.head))))) hC20 (by intro r hr b hb; simp only [List.mem_cons, List.not_mem_nil, or_false] at hr; rcases hr with rfl | rfl <;> first | (simp [Res.reads] at hb; done) | exact hR20 b hb)
  simp only [List.cons_append, List.nil_append] at hS
  replace hcp8 : ((frSt d).s8.2).length ≤ cc8 := hcp8
  replace hS : St NoB w0 w20 (.obj q (.cells #[.int .i64 (frSt d).s8.1, .slice Ac8 ((frSt d).s8.2).length cc8] 162 (0, 0)) :: .rd Ac8 1 ((frSt d).s8.2).length (((frSt d).s8.2).map (Value.int .u8)) :: _) := hS
  try simp only [opv, n1, n2, n3, n4, Value.cells]
  rw [show (oneS (frSt d).s7.1 (frSt d).s7.2).1 = valB (frSt d).s7 from rfl]
  refine m_alloc ti5 hS (fun w21 g21 hS => ?_)
  try simp only [opv, n1, n2, n3, n4, Value.cells, Array.toArray_toList] at hS ⊢
  obtain ⟨g10, hg10⟩ : ∃ z, z = g21 := ⟨_, rfl⟩
  rw [← hg10] at hS ⊢
  refine m_store_obj ti5 (hS := hS) (h := fun w22 hS => ?_)
  try simp only [opv, n1, n2, n3, n4, Value.cells, Array.toArray_toList] at hS ⊢
  refine x_nil ?_
  refine hK12 _ _ ?_
  refine x_seq fun K13 hK13 => ?_
  refine x_mixed_c (Lc := [.obj g10 (.cells #[.int .u8 (valB (frSt d).s7)] 5 (0, 0)), .obj gp (.cells #[.pointer (some ⟨q, 0, none⟩)] 48 (0, 0))]) [] 0 [46, 47, 48, 49, 50, 51, 52] (fun f w => ∃ (Ac9 : Option Addr) (cc9 : Nat) (B9 : Option Addr) (k9 : Nat), (frSt d).s9.2.length ≤ cc9 ∧ St NoB w0 w [.obj q (.cells #[.int .i64 (frSt d).s9.1, .slice Ac9 ((frSt d).s9.2).length cc9] 162 (0, 0)), .obj g9 (.cells (FA (frRaw d) B9 k9) 90 (0, 0)), .vec B9 k9 5 1 (frRaw d).d.length ((frRaw d).d.map (Value.int .u8)), .obj g10 (.cells #[.int .u8 (valB (frSt d).s7)] 5 (0, 0)), .obj gp (.cells #[.pointer (some ⟨q, 0, none⟩)] 48 (0, 0)), .obj gr (.cells #[.int .u8 0, .int .u8 0, .int .u8 0, .int .u32 0, .int .u32 0, .int .u8 0, .int .u32 0, .bool false, .slice none 0 0] 90 (0, 0))]) (by kernel_rfl) (by kernel_rfl) (by kernel_rfl) (by decide) hS (fun w23 hS => ?mixpre1101) ?mixrest1101
  case mixpre1101 =>
   refine p_nil ?_
   simp only [List.length_cons, List.length_nil, Nat.reduceAdd, Nat.reduceSub]
   refine any_go (i := 0) (by rfl) (by decide +kernel) (by decide +kernel) noLate_nil (go_yields w_none (fun w hS => m_load_obj Try.underlying5 (hS := hS))) ?_
   try simp only [opv, n1, n2, n3, n4, Value.cells, List.getElem_toArray, List.getElem_cons_zero, List.getElem_cons_succ]
   apply any_go (i := 1) (by rfl) (by decide +kernel) (by decide +kernel) noLate_nil (call_yields w_none en152 ?H1) ?K1
   case H1 =>
     intro w hS
     try simp only [opv, n1, n2, n3, n4, List.map_toArray, List.map_cons, List.map_nil, List.append_toArray, List.cons_append, List.nil_append, Array.append_empty]
     refine CallR.mono (c_frTruth _ _) ?_
     rintro _ w1 ⟨rfl, hE⟩; exact ⟨rfl, hE⟩
   try simp only [opv, n1, n2, n3, n4, Value.cells]
   rw [show boolN true = 1 from rfl]
   refine any_go (i := 2) (by rfl) (by decide +kernel) (by decide +kernel) noLate_nil (go_yields w_none (fun w hS => s_eql)) ?_
   try simp only [opv, n1, n2, n3, n4, Value.cells]
   refine any_go (i := 3) (by rfl) (by decide +kernel) (by decide +kernel) noLate_nil (go_yields w_none (fun w hS => m_load_obj Try.underlying48 (hS := hS))) ?_
   try simp only [opv, n1, n2, n3, n4, Value.cells, List.getElem_toArray, List.getElem_cons_zero, List.getElem_cons_succ]
   refine any_go (i := 5) (by rfl) (by decide +kernel) (by decide +kernel) noLate_nil (go_yields w_none (fun w hS => m_fieldAddr Try.underlying90 (hi := ti4))) ?_
   try simp only [opv, n1, n2, n3, n4, Value.cells, Nat.zero_add, Nat.add_zero, List.getElem_toArray, List.getElem_cons_zero, List.getElem_cons_succ]
   refine any_step [4] (by kernel_rfl) (by decide) (fun w24 hE => ⟨fun _ => (hS.ext hE).sel (by repeat (first | exact Sel.nil | (refine Sel.cons (by repeat (first | exact Del.head | apply Del.tail)) ?_))), ?_⟩)
   replace hS := hS.ext hE
   intro i hi
   simp only [List.mem_cons, List.not_mem_nil, or_false] at hi
   subst hi
   ·
    refine any_op (by rfl) ?_
    refine s_call en125 ?_
    try simp only [opv, n1, n2, n3, n4, Value.cells, List.map_toArray, List.map_cons, List.map_nil, List.append_toArray, List.cons_append, List.nil_append, Array.append_empty]
    refine CallR.mono (c_cBytes _ q ((frSt d).s8.1) Ac8 cc8 ((frSt d).s8.2) hcp8 (hB.b8) (by have := hB.l8; omega) 65536 (by omega) (hS.owns (by repeat (first | exact Spl.nil | (apply Spl.cons (by repeat (first | exact Del.head | apply Del.tail))))))) ?_
    rintro _ w25 ⟨B9, k9, rfl, Ac9, cc9, hcp9, hR25, hC25⟩
    replace hS := hS.frame (by repeat (first | exact Spl.nil | (apply Spl.cons (by repeat (first | exact Del.head | apply Del.tail))))) hC25 (by intro r hr b hb; simp only [List.mem_cons, List.not_mem_nil, or_false] at hr; rcases hr with rfl | rfl | rfl <;> first | (simp [Res.reads] at hb; done) | exact hR25 b hb)
    simp only [List.cons_append, List.nil_append] at hS
    replace hcp9 : ((frSt d).s9.2).length ≤ cc9 := hcp9
    replace hS : St NoB w0 w25 (.obj q (.cells #[.int .i64 (frSt d).s9.1, .slice Ac9 ((frSt d).s9.2).length cc9] 162 (0, 0)) :: .rd Ac9 1 ((frSt d).s9.2).length (((frSt d).s9.2).map (Value.int .u8)) :: _) := hS
    try simp only [opv, n1, n2, n3, n4, Value.cells]
    refine x_nil ?_
    refine any_step [6] (by kernel_rfl) (by decide) (fun w26 hE => ⟨fun _ => (hS.ext hE).sel (by repeat (first | exact Sel.nil | (refine Sel.cons (by repeat (first | exact Del.head | apply Del.tail)) ?_))), ?_⟩)
    replace hS := hS.ext hE
    intro i hi
    simp only [List.mem_cons, List.not_mem_nil, or_false] at hi
    subst hi
    ·
     refine any_op (by rfl) ?_
     refine m_store_obj ti4 (hS := hS) (h := fun w27 hS => ?_)
     try simp only [opv, n1, n2, n3, n4, Value.cells, Array.toArray_toList] at hS ⊢
     refine x_nil ?_
     refine any_go (i := 7) (by rfl) (by decide +kernel) (by decide +kernel) noLate_nil (go_yields w_none (fun w hS => m_fieldAddr Try.underlying90 (hi := ti43))) ?_
     try simp only [opv, n1, n2, n3, n4, Value.cells, Nat.zero_add, Nat.add_zero, List.getElem_toArray, List.getElem_cons_zero, List.getElem_cons_succ]
     refine any_step [8] (by kernel_rfl) (by decide) (fun w28 hE => ⟨fun _ => (hS.ext hE).sel (by repeat (first | exact Sel.nil | (refine Sel.cons (by repeat (first | exact Del.head | apply Del.tail)) ?_))), ?_⟩)
     replace hS := hS.ext hE
     intro i hi
     simp only [List.mem_cons, List.not_mem_nil, or_false] at hi
     subst hi
     ·
      refine any_op (by rfl) ?_
      refine m_store_obj ti43 (hS := hS) (h := fun w29 hS => ?_)
      try simp only [opv, n1, n2, n3, n4, Value.cells, Array.toArray_toList] at hS ⊢
      refine x_nil ?_
      refine any_nil (by kernel_rfl) (fun w30 hE => ?_)
      replace hS := hS.ext hE
      refine ⟨fun _ => hS.sel (by repeat (first | exact Sel.nil | (refine Sel.cons (by repeat (first | exact Del.head | apply Del.tail)) ?_))), ?_⟩
      refine mix_leaf (by simp only [clob, List.foldl, n1, n2, n3, n4]) ?_
      try simp only [n1, n2]
      replace hS : St NoB w0 w30 [.obj q (.cells #[.int .i64 (frSt d).s9.1, .slice Ac9 ((frSt d).s9.2).length cc9] 162 (0, 0)), .obj g9 (.cells #[.int .u8 (valB (0, d)), .int .u8 (valB (frSt d).s1), .int .u8 (valB (frSt d).s2), .int .u32 (valN (frSt d).s3 : Int), .int .u32 (valN (frSt d).s4 : Int), .int .u8 (valB (frSt d).s5), .int .u32 (valN (frSt d).s6 : Int), .bool (decide (valB (frSt d).s7 = 1)), .slice B9 (bytS 65536 (frSt d).s8.1 (frSt d).s8.2).1.length k9] 90 (0, 0)), .vec B9 k9 5 1 (frRaw d).d.length ((frRaw d).d.map (Value.int .u8)), .obj g10 (.cells #[.int .u8 (valB (frSt d).s7)] 5 (0, 0)), .obj gp (.cells #[.pointer (some ⟨q, 0, none⟩)] 48 (0, 0)), .obj gr (.cells #[.int .u8 0, .int .u8 0, .int .u8 0, .int .u32 0, .int .u32 0, .int .u8 0, .int .u32 0, .bool false, .slice none 0 0] 90 (0, 0))] := hS.sel (by repeat (first | exact Sel.nil | (refine Sel.cons (by repeat (first | exact Del.head | apply Del.tail)) ?_)))
      rw [fr_cells hdb] at hS
      exact ⟨_, _, _, _, hcp9, hS⟩
  intro fm1 w31 hM
  obtain ⟨Ac9, cc9, B9, k9, hcp9, hS⟩ := hM
  simp only [clob, List.foldl, n3, n4]
  refine hK13 _ _ ?_
  refine x_seq fun K14 hK14 => ?_
  refine x_mixed_c (Lc := [.obj gp (.cells #[.pointer (some ⟨q, 0, none⟩)] 48 (0, 0))]) [] 0 [5, 53, 54, 55, 56, 57, 58, 59, 60, 61] (fun f w => f 5 = .int .i64 (frE d) ∧ St NoB w0 w [.obj g9 (.cells (FA (frRaw d) B9 k9) 90 (0, 0)), .vec B9 k9 5 1 (frRaw d).d.length ((frRaw d).d.map (Value.int .u8)), .obj gr (.cells #[.int .u8 0, .int .u8 0, .int .u8 0, .int .u32 0, .int .u32 0, .int .u8 0, .int .u32 0, .bool false, .slice none 0 0] 90 (0, 0))]) (by kernel_rfl) (by kernel_rfl) (by kernel_rfl) (by decide) hS (fun w32 hS => ?mixpre1202) ?mixrest1202
  case mixpre1202 =>
   refine p_nil ?_
   simp only [List.length_cons, List.length_nil, Nat.reduceAdd, Nat.reduceSub]
   refine any_go (i := 0) (by rfl) (by decide +kernel) (by decide +kernel) noLate_nil (go_yields w_none (fun w hS => m_load_obj Try.underlying48 (hS := hS))) ?_
   try simp only [opv, n1, n2, n3, n4, Value.cells, List.getElem_toArray, List.getElem_cons_zero, List.getElem_cons_succ]
   refine any_go (i := 1) (by rfl) (by decide +kernel) (by decide +kernel) noLate_nil (go_yields w_none (fun w hS => s_makeFunc)) ?_
   try simp only [opv, n1, n2, n3, n4, Value.cells, List.map_toArray, List.map_cons, List.map_nil]
   refine any_go (i := 2) (by rfl) (by decide +kernel) (by decide +kernel) noLate_nil (go_yields w_none (fun w hS => s_makeFunc)) ?_
   try simp only [opv, n1, n2, n3, n4, Value.cells, List.map_toArray, List.map_cons, List.map_nil]
   refine any_go (i := 4) (by rfl) (by decide +kernel) (by decide +kernel) noLate_nil (go_yields w_none (fun w hS => m_load_obj Try.underlying48 (hS := hS))) ?_
   try simp only [opv, n1, n2, n3, n4, Value.cells, List.getElem_toArray, List.getElem_cons_zero, List.getElem_cons_succ]
   refine any_go (i := 5) (by rfl) (by decide +kernel) (by decide +kernel) noLate_nil (go_yields w_none (fun w hS => s_makeFunc)) ?_
   try simp only [opv, n1, n2, n3, n4, Value.cells, List.map_toArray, List.map_cons, List.map_nil]
   refine any_go (i := 6) (by rfl) (by decide +kernel) (by decide +kernel) noLate_nil (go_yields w_none (fun w hS => s_makeFunc)) ?_
   try simp only [opv, n1, n2, n3, n4, Value.cells, List.map_toArray, List.map_cons, List.map_nil]
   refine any_step [3] (by kernel_rfl) (by decide) (fun w33 hE => ⟨fun _ => (hS.ext hE).sel (by repeat (first | exact Sel.nil | (refine Sel.cons (by repeat (first | exact Del.head | apply Del.tail)) ?_))), ?_⟩)
   replace hS := hS.ext hE
   intro i hi
   simp only [List.mem_cons, List.not_mem_nil, or_false] at hi
   subst hi
   ·
    refine any_op (by rfl) ?_
    refine s_call en154 ?_
    try simp only [opv, n1, n2, n3, n4, Value.cells, List.map_toArray, List.map_cons, List.map_nil, List.append_toArray, List.cons_append, List.nil_append, Array.append_empty]
    refine CallR.mono (c_frUnless _ _ _ _) ?_
    rintro _ w34 ⟨a1, b1, rfl, hC34⟩
    replace hS := hS.call hC34
    simp only [List.cons_append, List.nil_append] at hS
    try simp only [opv, n1, n2, n3, n4, Value.cells]
    refine x_nil ?_
    refine any_step [7] (by kernel_rfl) (by decide) (fun w35 hE => ⟨fun _ => (hS.ext hE).sel (by repeat (first | exact Sel.nil | (refine Sel.cons (by repeat (first | exact Del.head | apply Del.tail)) ?_))), ?_⟩)
    replace hS := hS.ext hE
    intro i hi
    simp only [List.mem_cons, List.not_mem_nil, or_false] at hi
    subst hi
    ·
     refine any_op (by rfl) ?_
     refine m_buildRow (cells := #[_, _, _, _]) Try.underlying247 ti54 (hc := by simp only [List.map_toArray, List.map_cons, List.map_nil, opv, n1, n2, n3, n4, Value.cells, List.toList_toArray]; (repeat (refine fill_cons rfl rfl (Nat.le_of_ble_eq_true rfl) ?_)); rfl) (hS := hS) (h := fun w36 g36 hS => ?_)
     try simp only [opv, n1, n2, n3, n4, Value.cells, Array.toArray_toList] at hS ⊢
     replace hS := hS.obj_rd (sz := 1) (n := 4) rfl .head
     refine x_nil ?_
     refine any_step [8] (by kernel_rfl) (by decide) (fun w37 hE => ⟨fun _ => (hS.ext hE).sel (by repeat (first | exact Sel.nil | (refine Sel.cons (by repeat (first | exact Del.head | apply Del.tail)) ?_))), ?_⟩)
     replace hS := hS.ext hE
     intro i hi
     simp only [List.mem_cons, List.not_mem_nil, or_false] at hi
     subst hi
     ·
      refine any_op (by rfl) ?_
      refine s_call en153 ?_
      try simp only [opv, n1, n2, n3, n4, Value.cells, List.map_toArray, List.map_cons, List.map_nil, List.append_toArray, List.cons_append, List.nil_append, Array.append_empty]
      refine CallR.mono (c_frFirst _ _ 4 _ [⟨35, #[.pointer (some ⟨q, 0, none⟩)], #[], (frSt d).s9.1⟩, ⟨230, #[], #[.pointer (some ⟨a1, 0, none⟩), .pointer (some ⟨b1, 0, none⟩)], if decide (valB (frSt d).s7 ≤ 1) = true then 0 else 3⟩, ⟨37, #[.pointer (some ⟨q, 0, none⟩)], #[], if 0 < (frSt d).s9.2.length then 3 else (frSt d).s9.1⟩, ⟨156, #[], #[.pointer (some ⟨g9, 0, none⟩)], checkF (frRaw d)⟩] (hS.hasRd (by repeat (exact Has.head))) rfl (by decide) (by intro x hx; simp only [List.mem_cons, List.not_mem_nil, or_false] at hx; rcases hx with rfl | rfl | rfl | rfl <;> first | exact en35 | exact en230 | exact en37 | exact en156) (by intro x hx; simp only [List.mem_cons, List.not_mem_nil, or_false] at hx; rcases hx with rfl | rfl | rfl | rfl <;> first | exact fun w hE => c_cErrR w q _ _ _ _ ((hS.objRd (g := q) (cs := #[.int .i64 (frSt d).s9.1, .slice Ac9 (frSt d).s9.2.length cc9]) (by repeat (first | exact Has.head | apply Has.tail))).ext' hE) | exact cl_unless en155 (hS.objRd (g := a1) (cs := #[.func (.func 155) #[] #[.pointer (some ⟨g10, 0, none⟩)]]) (by repeat (first | exact Has.head | apply Has.tail))) (hS.objRd (g := b1) (cs := #[.int .i64 3]) (by repeat (first | exact Has.head | apply Has.tail))) (fun w hE => c_frDec2 _ g10 _ ((hS.objRd (g := g10) (cs := #[.int .u8 (valB (frSt d).s7)]) (by repeat (first | exact Has.head | apply Has.tail))).ext' hE)) | exact fun w hE => c_cDoneR w q _ _ _ _ ((hS.objRd (g := q) (cs := #[.int .i64 (frSt d).s9.1, .slice Ac9 (frSt d).s9.2.length cc9]) (by repeat (first | exact Has.head | apply Has.tail))).ext' hE) | exact fun w hE => c_frDec3 w g9 _ _ _ ((hS.objRd (g := g9) (cs := FA (frRaw d) B9 k9) (by repeat (first | exact Has.head | apply Has.tail))).ext' hE))) ?_
      rintro _ w38 ⟨rfl, hE38⟩
      replace hS := hS.ext hE38
      try simp only [opv, n1, n2, n3, n4, Value.cells]
      refine x_nil ?_
      refine any_go (i := 9) (by rfl) (by decide +kernel) (by decide +kernel) noLate_nil (go_yields w_none (fun w hS => s_assign)) ?_
      try simp only [opv, n1, n2, n3, n4, Value.cells]
      refine any_nil (by kernel_rfl) (fun w39 hE => ?_)
      replace hS := hS.ext hE
      refine ⟨fun _ => hS.sel (by repeat (first | exact Sel.nil | (refine Sel.cons (by repeat (first | exact Del.head | apply Del.tail)) ?_))), ?_⟩
      refine mix_leaf (by simp only [clob, List.foldl, n1, n2, n3, n4]) ?_
      try simp only [n1, n2]
      exact ⟨congrArg (Value.int .i64) (fr_first d), hS.sel (by repeat (first | exact Sel.nil | (refine Sel.cons (by repeat (first | exact Del.head | apply Del.tail)) ?_)))⟩
  intro fm2 w40 hM
  obtain ⟨h5, hS⟩ := hM
  simp only [clob, List.foldl, n3, n4, h5]
  refine hK14 _ _ ?_
  refine x_seq fun K15 hK15 => ?_
  refine x_seq fun K16 hK16 => ?_
  refine x_region ?_
  refine s_go (s_move) ?_
  try simp only [opv, n1, n2, n3, n4, Value.cells]
  refine s_go (s_neq) ?_
  try simp only [opv, n1, n2, n3, n4, Value.cells]
  refine x_nil ?_
  refine hK16 _ _ ?_
  refine x_cond (ht := fun hc2 => ?_) (hf := fun hc2 => ?_)
  ·
   try simp only [decide_eq_true_eq, decide_eq_false_iff_not, Bool.not_eq_true', Bool.not_eq_false', Int.not_lt, Int.not_le, ne_eq, Decidable.not_not, bne_iff_ne, beq_iff_eq, not_true_eq_false, not_false_eq_true] at hc2
   have hfe : ¬ frE d = 0 := hc2
   have hdE := hE1
   have hdF : decF l = fm0 := by rw [hF1, frF, if_neg hfe]
   refine x_seq fun K17 hK17 => ?_
   refine x_region ?_
   refine s_go (s_build_struct (cells := #[.int .u8 0, .int .u8 0, .int .u8 0, .int .u32 0, .int .u32 0, .int .u8 0, .int .u32 0, .bool false, .slice none 0 0]) Try.underlying90 ti90 bp90 (hc := by simp only [List.map_toArray, List.map_cons, List.map_nil, opv, n1, n2, n3, n4, Value.cells, List.toList_toArray]; (repeat (refine fill_cons rfl rfl (Nat.le_of_ble_eq_true rfl) ?_)); rfl)) ?_
   try simp only [opv, n1, n2, n3, n4, Value.cells]
   refine s_go (s_move) ?_
   try simp only [opv, n1, n2, n3, n4, Value.cells]
   refine m_store_obj ti90 (hS := hS) (h := fun w41 hS => ?_)
   try simp only [opv, n1, n2, n3, n4, Value.cells, Array.toArray_toList] at hS ⊢
   refine s_go (s_assign) ?_
   try simp only [opv, n1, n2, n3, n4, Value.cells]
   refine x_nil ?_
   refine hK17 _ _ ?_
   refine x_ret ?_
   refine r_cell_tmp_agg rfl Try.underlying90 ti90 (hS := hS) (hR := ?_)
   replace hS := hS.nil_vec 5 1
   exact ⟨none, 0, by rw [hdE, hdF]; rfl, by rw [hdF]; exact hS.sel (by repeat (first | exact Sel.nil | (refine Sel.cons (by repeat (exact Del.head)) ?_)))⟩
  ·
   try simp only [decide_eq_true_eq, decide_eq_false_iff_not, Bool.not_eq_true', Bool.not_eq_false', Int.not_lt, Int.not_le, ne_eq, Decidable.not_not, bne_iff_ne, beq_iff_eq, not_true_eq_false, not_false_eq_true] at hc2
   have hfe : frE d = 0 := hc2
   have hdF : decF l = frRaw d := by rw [hF1, frF, if_pos hfe]
   have hdE : decE l = 0 := hE1.trans hfe
   refine x_skip ?_
   refine hK15 _ _ ?_
   refine x_seq fun K18 hK18 => ?_
   refine x_region ?_
   refine s_go (m_load_row Try.underlying90 (hi := ti90) (hS := hS)) ?_
   try simp only [opv, n1, n2, n3, n4, Value.cells, List.getElem_toArray, List.getElem_cons_zero, List.getElem_cons_succ]
   refine m_store_obj ti90 (hS := hS) (h1 := by simp [opv, Value.cells, FA, fmL, Value.oneCell']) (hc := by exact splice_whole rfl) (h := fun w42 hS => ?_)
   try simp only [opv, n1, n2, n3, n4, Value.cells, Array.toArray_toList] at hS ⊢
   refine s_go (s_assign) ?_
   try simp only [opv, n1, n2, n3, n4, Value.cells]
   refine x_nil ?_
   refine hK18 _ _ ?_
   refine x_ret ?_
   refine r_cell_tmp_agg rfl Try.underlying90 ti90 (hS := hS) (hR := ?_)
   exact ⟨B9, k9, by rw [hdE, hdF]; rfl, by rw [hdF]; exact hS.sel (by repeat (first | exact Sel.nil | (refine Sel.cons (by repeat (first | exact Del.head | apply Del.tail)) ?_)))⟩
end Go.Proofs.Ytpjpaipkkcengaa
set_option linter.unusedSimpArgs false
set_option linter.unusedVariables false
set_option maxHeartbeats 2000000
set_option maxRecDepth 100000
namespace Go.Proofs.Ytpjpaipkkcengaa
open Go.RowKit

theorem open_back {l : List Int} (hb : Byt l) (h : openE l = 0) : sealed (openD l) = l := by
  have h2 : ¬ l.length < 2 := fun h2 => by rw [openE_short h2] at h; cases h
  have hd := openD_ok h
  have hs : crcM 65535 (l.take (l.length - 2)) = bt l (l.length - 2) * 256 + bt l (l.length - 1) := by
    by_cases e : crcM 65535 (l.take (l.length - 2)) = bt l (l.length - 2) * 256 + bt l (l.length - 1)
    · exact e
    · rw [openE_bad h2 e] at h; cases h
  have h1 := (hb.bt (l.length - 1)).2
  have e2 : seal2 (openD l) = [(bt l (l.length - 2) : Int), (bt l (l.length - 1) : Int)] := by
    rw [hd, seal2, hs, show (bt l (l.length - 2) * 256 + bt l (l.length - 1)) / 256 = bt l (l.length - 2) by omega, show (bt l (l.length - 2) * 256 + bt l (l.length - 1)) % 256 = bt l (l.length - 1) by omega]
  have e : l.drop (l.length - 2) = [(bt l (l.length - 2) : Int), (bt l (l.length - 1) : Int)] := by
    rw [bt_int hb (by omega), show l.length - 2 + 1 = l.length - 1 by omega, bt_int hb (by omega), List.drop_eq_nil_of_le (by omega)]
  rw [sealed, e2, ← e, hd, List.take_append_drop]
theorem dec_code {l : List Int} (hb : Byt l) (h : decE l = 0) : checkF (decF l) = 0 ∧ encF (decF l) = l := by
  by_cases hO : openE l = 0
  · rw [decE, if_pos hO] at h
    obtain ⟨h1, h2⟩ := fr_code (openD_byt hb) h
    have hF : decF l = frF (openD l) := by rw [decF, if_pos hO]
    rw [hF]
    exact ⟨h1, by rw [encF_yes h1, h2, open_back hb hO]⟩
  · rw [decE, if_neg hO] at h; exact absurd h hO
theorem dec_enc {f : Fm} (hf : FmOk f) (h : checkF f = 0) : decE (encF f) = 0 ∧ decF (encF f) = f := by
  obtain ⟨h1, h2⟩ := fr_back hf h
  obtain ⟨h3, h4⟩ := open_sealed (fmBody_byt hf)
  rw [encF_yes h]
  exact ⟨by rw [decE, if_pos h3, h4, h1], by rw [decF, if_pos h3, h4, h2]⟩
theorem decF_ok {l : List Int} (hb : Byt l) : FmOk (decF l) := by
  unfold decF; split
  · exact frF_ok (openD_byt hb)
  · exact ⟨by decide, by decide, by decide, by decide, by decide, by decide, by decide, by intro y hy; cases hy⟩
theorem decF_len (l : List Int) : (decF l).d.length ≤ 65536 := by
  unfold decF; split
  · exact frF_len _
  · simp [fm0]
theorem encF_len {f : Fm} (hf : FmOk f) (h : f.d.length ≤ 100000) : (encF f).length ≤ f.d.length + 26 := by
  have h1 := fmBody_len hf (by omega)
  have h2 := sealed_len (fmBody f)
  unfold encF; split
  · omega
  · simp
theorem encF_byt {f : Fm} (hf : FmOk f) : Byt (encF f) := by
  unfold encF; split
  · exact sealed_byt (fmBody_byt hf)
  · intro y hy; cases hy
def f1m : Fm := ⟨1, 0, 1, 0, 0, 0, 0, false, [120]⟩
theorem f1_ok : FmOk f1m := ⟨by decide, by decide, by decide, by decide, by decide, by decide, by decide, by unfold Byt; decide⟩
theorem f1_chk : checkF f1m = 0 := by decide
theorem fm_open {w : World} {cs : List Value} (h : AllOk w fmKs cs) : ∃ f A cp, cs = fmL f A cp ∧ FmOk f ∧ Rd w A 1 f.d.length (f.d.map (Value.int .u8)) ∧ f.d.length ≤ cp := by
  obtain ⟨_, _, rfl, ⟨k, rfl, hk⟩, h_1⟩ := h.inv
  obtain ⟨_, _, rfl, ⟨a, rfl, ha⟩, h_2⟩ := h_1.inv
  obtain ⟨_, _, rfl, ⟨b, rfl, hb⟩, h_3⟩ := h_2.inv
  obtain ⟨_, _, rfl, ⟨s, rfl, hs⟩, h_4⟩ := h_3.inv
  obtain ⟨_, _, rfl, ⟨q, rfl, hq⟩, h_5⟩ := h_4.inv
  obtain ⟨_, _, rfl, ⟨p, rfl, hp⟩, h_6⟩ := h_5.inv
  obtain ⟨_, _, rfl, ⟨o, rfl, ho⟩, h_7⟩ := h_6.inv
  obtain ⟨_, _, rfl, ⟨t, rfl⟩, h_8⟩ := h_7.inv
  obtain ⟨_, _, rfl, hd, h_9⟩ := h_8.inv
  obtain rfl := h_9.nil_inv
  obtain ⟨A, m, cap, l, rfl, hmc, hcm, hr, rfl, hw⟩ := sl_ints hd
  have k1 := wf_u8 hk
  have a1 := wf_u8 ha
  have b1 := wf_u8 hb
  have s1 := wf_u32 hs
  have q1 := wf_u32 hq
  have p1 := wf_u8 hp
  have o1 := wf_u32 ho
  refine ⟨⟨k.toNat, a.toNat, b.toNat, s.toNat, q.toNat, p.toNat, o.toNat, t, l⟩, A, cap, ?_, ⟨k1.2, a1.2, b1.2, s1.2, q1.2, p1.2, o1.2, byt_of_wf hw⟩, hr, hmc⟩
  show _ = ([.int .u8 ((k.toNat : Nat) : Int), .int .u8 ((a.toNat : Nat) : Int), .int .u8 ((b.toNat : Nat) : Int), .int .u32 ((s.toNat : Nat) : Int), .int .u32 ((q.toNat : Nat) : Int), .int .u8 ((p.toNat : Nat) : Int), .int .u32 ((o.toNat : Nat) : Int), .bool t, .slice A l.length cap] : List Value)
  rw [← k1.1, ← a1.1, ← b1.1, ← s1.1, ← q1.1, ← p1.1, ← o1.1]

theorem c_law27alive  (w0 : World) :
    CallR Try.prog 59 #[] w0 fun v w' => v = .bool true ∧ Ext w0 w' := by
 have hS : St NoB w0 w0 [] := St.start w0
 have hc1 := f1_chk
 obtain ⟨hde, hdf⟩ := dec_enc f1_ok f1_chk
 have hel := encF_len f1_ok (by decide)
 replace hel : (encF f1m).length ≤ 27 := hel
 refine c_enter (l := [undef, undef, undef, undef, undef, undef, undef, undef, undef, undef, undef, undef, undef, undef, undef, undef, undef, undef, undef, undef, undef, undef, undef, undef, undef, undef, undef, undef, undef, undef, undef, undef, undef, undef, undef, undef, undef, undef, undef, undef, undef, undef]) Try.func59 rfl (by simp only [Try.ntmps59, List.size_toArray, List.length_cons, List.length_nil, Nat.reduceAdd, Nat.reduceSub, Array.replicate_succ, Array.replicate_zero, List.push_toArray, List.append_toArray, List.nil_append, List.cons_append]) ?_
 refine x_seq fun K1 hK1 => ?_
 refine x_region ?_
 refine s_go (s_assign) ?_
 try simp only [opv, n1, n2, n3, n4, Value.cells]
 refine x_nil ?_
 refine hK1 _ _ ?_
 refine x_seq fun K2 hK2 => ?_
 refine x_region ?_
 refine m_buildRow (cells := #[_]) Try.underlying43 ti5 (hc := by simp only [List.map_toArray, List.map_cons, List.map_nil, opv, n1, n2, n3, n4, Value.cells, List.toList_toArray]; (repeat (refine fill_cons rfl rfl (Nat.le_of_ble_eq_true rfl) ?_)); rfl) (hS := hS) (h := fun w1 g1 hS => ?_)
 try simp only [opv, n1, n2, n3, n4, Value.cells, Array.toArray_toList] at hS ⊢
 refine m_mark Try.underlying43 Try.underlying5 (hS := hS) (h := fun w2 hS => ?_)
 try simp only [opv, n1, n2, n3, n4, Value.cells, Array.toArray_toList] at hS ⊢
 refine s_go (s_build_struct (cells := #[_, .int .u8 0, _, .int .u32 0, .int .u32 0, .int .u8 0, .int .u32 0, .bool false, _]) Try.underlying90 ti90 bp90 (hc := by simp only [List.map_toArray, List.map_cons, List.map_nil, opv, n1, n2, n3, n4, Value.cells, List.toList_toArray]; (repeat (refine fill_cons rfl rfl (Nat.le_of_ble_eq_true rfl) ?_)); rfl)) ?_
 try simp only [opv, n1, n2, n3, n4, Value.cells]
 refine s_call en63 ?_
 try simp only [opv, n1, n2, n3, n4, Value.cells, List.map_toArray, List.map_cons, List.map_nil, List.append_toArray, List.cons_append, List.nil_append, Array.append_empty]
 refine CallR.mono (c_frEncode _ f1m f1_ok _ 1 (hS.hasRd (by repeat (exact Has.head))) (by decide)) ?_
 rintro _ w3 ⟨B1, k1, rfl, hkB1, hC3⟩
 replace hS := hS.call hC3
 simp only [List.cons_append, List.nil_append] at hS
 rw [f1_chk]
 try simp only [opv, n1, n2, n3, n4, Value.cells]
 refine s_go (s_move) ?_
 try simp only [opv, n1, n2, n3, n4, Value.cells]
 refine s_go (s_extract (hv := rfl)) ?_
 try simp only [List.getElem_toArray, List.getElem_cons_zero, List.getElem_cons_succ]
 try simp only [opv, n1, n2, n3, n4, Value.cells]
 refine s_go (s_extract (hv := rfl)) ?_
 try simp only [List.getElem_toArray, List.getElem_cons_zero, List.getElem_cons_succ]
 try simp only [opv, n1, n2, n3, n4, Value.cells]
 refine s_go (s_assign) ?_
 try simp only [opv, n1, n2, n3, n4, Value.cells]
 refine s_go (s_assign) ?_
 try simp only [opv, n1, n2, n3, n4, Value.cells]
 refine x_nil ?_
 refine hK2 _ _ ?_
 refine x_seq fun K3 hK3 => ?_
 refine x_region ?_
 refine s_go (s_move) ?_
 try simp only [opv, n1, n2, n3, n4, Value.cells]
 refine s_call en60 ?_
 try simp only [opv, n1, n2, n3, n4, Value.cells, List.map_toArray, List.map_cons, List.map_nil, List.append_toArray, List.cons_append, List.nil_append, Array.append_empty]
 refine CallR.mono (c_frDecode _ B1 _ k1 (encF f1m) (hS.vecRd (by repeat (exact Has.head))) rfl (encF_byt f1_ok) (by omega) hkB1) ?_
 rintro _ w4 ⟨B2, k2, rfl, hC4⟩
 replace hS := hS.call hC4
 simp only [List.cons_append, List.nil_append] at hS
 rw [hdf] at hS
 rw [hde, hdf]
 try simp only [opv, n1, n2, n3, n4, Value.cells]
 refine s_go (s_move) ?_
 try simp only [opv, n1, n2, n3, n4, Value.cells]
 refine s_go (s_extract (hv := rfl)) ?_
 try simp only [List.getElem_toArray, List.getElem_cons_zero, List.getElem_cons_succ]
 try simp only [opv, n1, n2, n3, n4, Value.cells]
 refine s_go (s_extract (hv := rfl)) ?_
 try simp only [List.getElem_toArray, List.getElem_cons_zero, List.getElem_cons_succ]
 try simp only [opv, n1, n2, n3, n4, Value.cells]
 refine m_alloc ti90 hS (fun w5 g5 hS => ?_)
 try simp only [opv, n1, n2, n3, n4, Value.cells, Array.toArray_toList] at hS ⊢
 refine m_store_obj ti90 (hS := hS) (h1 := by simp [opv, Value.cells, FA, fmL, Value.oneCell']) (h := fun w6 hS => ?_)
 try simp only [opv, n1, n2, n3, n4, Value.cells, Array.toArray_toList] at hS ⊢
 refine s_go (s_assign) ?_
 try simp only [opv, n1, n2, n3, n4, Value.cells]
 refine x_nil ?_
 refine hK3 _ _ ?_
 refine x_seq fun K4 hK4 => ?_
 refine x_region ?_
 refine s_call en69 ?_
 try simp only [opv, n1, n2, n3, n4, Value.cells, List.map_toArray, List.map_cons, List.map_nil, List.append_toArray, List.cons_append, List.nil_append, Array.append_empty]
 refine CallR.mono (c_frRoom _ (by omega) _) ?_
 rintro _ w7 ⟨rfl, hE7⟩
 replace hS := hS.ext hE7
 try simp only [opv, n1, n2, n3, n4, Value.cells]
 rw [show (if (32 : Int) < 32 then (0 : Int) else 32 - 26) = 6 from rfl]
 refine s_go (s_eql) ?_
 try simp only [opv, n1, n2, n3, n4, Value.cells]
 try simp only [eq_self, decide_true, beq_self_eq_true, Bool.and_self]
 refine s_go (s_move) ?_
 try simp only [opv, n1, n2, n3, n4, Value.cells]
 refine g_on (yi (t := 19) rfl rfl) ?_
 refine s_call en69 ?_
 try simp only [opv, n1, n2, n3, n4, Value.cells, List.map_toArray, List.map_cons, List.map_nil, List.append_toArray, List.cons_append, List.nil_append, Array.append_empty]
 refine CallR.mono (c_frRoom _ (by omega) _) ?_
 rintro _ w8 ⟨rfl, hE8⟩
 replace hS := hS.ext hE8
 try simp only [opv, n1, n2, n3, n4, Value.cells]
 rw [show (if (31 : Int) < 32 then (0 : Int) else 31 - 26) = 0 from rfl]
 refine g_on (yi (t := 19) rfl rfl) ?_
 refine s_go (s_eql) ?_
 try simp only [opv, n1, n2, n3, n4, Value.cells]
 try simp only [eq_self, decide_true, beq_self_eq_true, Bool.and_self]
 refine s_go (s_pick_t) ?_
 try simp only [opv, n1, n2, n3, n4, Value.cells]
 refine s_go (s_move) ?_
 try simp only [opv, n1, n2, n3, n4, Value.cells]
 refine g_on (yi (t := 23) rfl rfl) ?_
 refine s_go (s_move) ?_
 try simp only [opv, n1, n2, n3, n4, Value.cells]
 refine g_on (yi (t := 23) rfl rfl) ?_
 refine s_go (s_eql) ?_
 try simp only [opv, n1, n2, n3, n4, Value.cells]
 try simp only [eq_self, decide_true, beq_self_eq_true, Bool.and_self]
 refine s_go (s_pick_t) ?_
 try simp only [opv, n1, n2, n3, n4, Value.cells]
 refine s_go (s_move) ?_
 try simp only [opv, n1, n2, n3, n4, Value.cells]
 refine g_on (yi (t := 27) rfl rfl) ?_
 refine s_go (s_move) ?_
 try simp only [opv, n1, n2, n3, n4, Value.cells]
 refine g_on (yi (t := 27) rfl rfl) ?_
 refine s_go (s_eql) ?_
 try simp only [opv, n1, n2, n3, n4, Value.cells]
 try simp only [eq_self, decide_true, beq_self_eq_true, Bool.and_self]
 refine s_go (s_pick_t) ?_
 try simp only [opv, n1, n2, n3, n4, Value.cells]
 refine s_go (s_move) ?_
 try simp only [opv, n1, n2, n3, n4, Value.cells]
 refine g_on (yi (t := 31) rfl rfl) ?_
 refine s_go (m_fieldAddr Try.underlying90 (hi := ti5)) ?_
 try simp only [opv, n1, n2, n3, n4, Value.cells, Nat.zero_add, Nat.add_zero, List.getElem_toArray, List.getElem_cons_zero, List.getElem_cons_succ]
 refine g_on (yi (t := 31) rfl rfl) ?_
 refine s_go (m_load_obj Try.underlying5 (hS := hS)) ?_
 try simp only [opv, n1, n2, n3, n4, Value.cells, List.getElem_toArray, List.getElem_cons_zero, List.getElem_cons_succ]
 refine g_on (yi (t := 31) rfl rfl) ?_
 refine s_go (s_eql) ?_
 try simp only [opv, n1, n2, n3, n4, Value.cells]
 rw [show decide (((f1m.to : Nat) : Int) = 1) = true from rfl]
 try simp only [eq_self, decide_true, beq_self_eq_true, Bool.and_self]
 refine s_go (s_pick_t) ?_
 try simp only [opv, n1, n2, n3, n4, Value.cells]
 refine s_go (s_move) ?_
 try simp only [opv, n1, n2, n3, n4, Value.cells]
 refine g_on (yi (t := 36) rfl rfl) ?_
 refine s_go (m_fieldAddr Try.underlying90 (hi := ti43)) ?_
 try simp only [opv, n1, n2, n3, n4, Value.cells, Nat.zero_add, Nat.add_zero, List.getElem_toArray, List.getElem_cons_zero, List.getElem_cons_succ]
 refine g_on (yi (t := 36) rfl rfl) ?_
 refine s_go (m_load_obj Try.underlying43 (hS := hS)) ?_
 try simp only [opv, n1, n2, n3, n4, Value.cells, List.getElem_toArray, List.getElem_cons_zero, List.getElem_cons_succ]
 refine g_on (yi (t := 36) rfl rfl) ?_
 refine s_go (s_len_sl Try.underlying43) ?_
 try simp only [opv, n1, n2, n3, n4, Value.cells]
 refine g_on (yi (t := 36) rfl rfl) ?_
 refine s_go (s_eql) ?_
 try simp only [opv, n1, n2, n3, n4, Value.cells]
 rw [show decide (((f1m.d.length : Nat) : Int) = 1) = true from rfl]
 try simp only [eq_self, decide_true, beq_self_eq_true, Bool.and_self]
 refine s_go (s_pick_t) ?_
 try simp only [opv, n1, n2, n3, n4, Value.cells]
 refine s_go (s_assign) ?_
 try simp only [opv, n1, n2, n3, n4, Value.cells]
 refine x_nil ?_
 refine hK4 _ _ ?_
 refine x_ret ?_
 refine r_tmp rfl ?_
 exact ⟨rfl, hS.ext_of⟩
theorem c_FrameBack (w0 : World) (fm : Fm) (hf : FmOk fm) (A : Option Addr) (cp : Nat) (hA : Rd w0 A 1 fm.d.length (fm.d.map (Value.int .u8))) (E : Option Addr) (n c : Nat) (l : List Int) (hr : Rd w0 E 1 n (l.map (Value.int .u8))) (hl : l.length = n) (hw : Byt l) (hn : n ≤ 9000000000000000) (hc : n ≤ c) :
    CallR Try.prog 11 #[.agg (FA fm A cp), .slice E n c] w0 fun v w' => v = .bool true ∧ Ext w0 w' := by
 have hS := St.rd2 (S := NoB) hA hr
 refine c_enter (l := [.agg (FA fm A cp), .slice E n c, undef, undef, undef, undef, undef, undef, undef, undef, undef, undef, undef, undef, undef, undef, undef, undef, undef, undef, undef, undef, undef, undef, undef, undef, undef, undef, undef, undef, undef, undef, undef, undef, undef, undef, undef, undef, undef, undef, undef, undef, undef, undef, undef, undef, undef, undef, undef, undef, undef, undef, undef, undef, undef, undef, undef, undef, undef, undef, undef, undef, undef, undef, undef, undef, undef, undef, undef, undef, undef, undef, undef, undef, undef, undef, undef, undef, undef, undef]) Try.func11 rfl (by simp only [Try.ntmps11, List.size_toArray, List.length_cons, List.length_nil, Nat.reduceAdd, Nat.reduceSub, Array.replicate_succ, Array.replicate_zero, List.push_toArray, List.append_toArray, List.nil_append, List.cons_append]) ?_
 refine x_seq fun K1 hK1 => ?_
 refine x_region ?_
 refine m_box hS (fun w1 g1 hS => ?_)
 try simp only [opv, n1, n2, n3, n4, Value.cells, Array.toArray_toList] at hS ⊢
 refine s_go (s_assign) ?_
 try simp only [opv, n1, n2, n3, n4, Value.cells]
 refine x_nil ?_
 refine hK1 _ _ ?_
 refine x_seq fun K2 hK2 => ?_
 refine x_seq fun K3 hK3 => ?_
 refine x_region ?_
 refine s_go (m_fieldAddr Try.underlying90 (hi := ti43)) ?_
 try simp only [opv, n1, n2, n3, n4, Value.cells, Nat.zero_add, Nat.add_zero, List.getElem_toArray, List.getElem_cons_zero, List.getElem_cons_succ]
 refine s_go (m_load_obj Try.underlying43 (hS := hS)) ?_
 try simp only [opv, n1, n2, n3, n4, Value.cells, List.getElem_toArray, List.getElem_cons_zero, List.getElem_cons_succ]
 refine s_go (s_len_sl Try.underlying43) ?_
 try simp only [opv, n1, n2, n3, n4, Value.cells]
 refine s_go (s_gtr) ?_
 try simp only [opv, n1, n2, n3, n4, Value.cells]
 refine s_go (s_move) ?_
 try simp only [opv, n1, n2, n3, n4, Value.cells]
 refine s_part 17 rfl (fun hp1 => ?_) (fun hp1 => ?_)
 ·
  try simp only [n3, n4]
  try simp only [decide_eq_true_eq, decide_eq_false_iff_not, Bool.not_eq_true', Bool.not_eq_false', Int.not_lt, Int.not_le, ne_eq, Decidable.not_not] at hp1
  refine g_off (yi (t := 17) rfl rfl) ?_
  try simp only [opv, n1, n2, n3, n4, Value.cells]
  refine g_off (yi (t := 17) rfl rfl) ?_
  try simp only [opv, n1, n2, n3, n4, Value.cells]
  refine g_off (yi (t := 17) rfl rfl) ?_
  try simp only [opv, n1, n2, n3, n4, Value.cells]
  refine s_go (s_pick_t) ?_
  try simp only [opv, n1, n2, n3, n4, Value.cells]
  refine x_nil ?_
  refine hK3 _ _ ?_
  refine x_cond_t (h := ?_)
  refine x_seq fun K4 hK4 => ?_
  refine x_region ?_
  refine s_call en59 ?_
  try simp only [opv, n1, n2, n3, n4, Value.cells, List.map_toArray, List.map_cons, List.map_nil, List.append_toArray, List.cons_append, List.nil_append, Array.append_empty]
  refine CallR.mono (c_law27alive _) ?_
  rintro _ w2 ⟨rfl, hE2⟩
  replace hS := hS.ext hE2
  try simp only [opv, n1, n2, n3, n4, Value.cells]
  refine s_go (s_assign) ?_
  try simp only [opv, n1, n2, n3, n4, Value.cells]
  refine x_nil ?_
  refine hK4 _ _ ?_
  refine x_ret ?_
  refine r_tmp rfl ?_
  exact ⟨rfl, hS.ext_of⟩
 ·
  try simp only [n3, n4]
  try simp only [decide_eq_true_eq, decide_eq_false_iff_not, Bool.not_eq_true', Bool.not_eq_false', Int.not_lt, Int.not_le, ne_eq, Decidable.not_not] at hp1
  have hf2 : fm.d.length ≤ 200 := by omega
  refine g_on (yi (t := 17) rfl rfl) ?_
  refine s_go (s_move) ?_
  try simp only [opv, n1, n2, n3, n4, Value.cells]
  refine g_on (yi (t := 17) rfl rfl) ?_
  refine s_go (s_len_sl Try.underlying43) ?_
  try simp only [opv, n1, n2, n3, n4, Value.cells]
  refine g_on (yi (t := 17) rfl rfl) ?_
  refine s_go (s_gtr) ?_
  try simp only [opv, n1, n2, n3, n4, Value.cells]
  refine s_go (s_pick_f) ?_
  try simp only [opv, n1, n2, n3, n4, Value.cells]
  refine x_nil ?_
  refine hK3 _ _ ?_
  refine x_cond (ht := fun hc2 => ?_) (hf := fun hc2 => ?_)
  ·
   try simp only [decide_eq_true_eq, decide_eq_false_iff_not, Bool.not_eq_true', Bool.not_eq_false', Int.not_lt, Int.not_le, ne_eq, Decidable.not_not, bne_iff_ne, beq_iff_eq, not_true_eq_false, not_false_eq_true] at hc2
   refine x_seq fun K5 hK5 => ?_
   refine x_region ?_
   refine s_call en59 ?_
   try simp only [opv, n1, n2, n3, n4, Value.cells, List.map_toArray, List.map_cons, List.map_nil, List.append_toArray, List.cons_append, List.nil_append, Array.append_empty]
   refine CallR.mono (c_law27alive _) ?_
   rintro _ w3 ⟨rfl, hE3⟩
   replace hS := hS.ext hE3
   try simp only [opv, n1, n2, n3, n4, Value.cells]
   refine s_go (s_assign) ?_
   try simp only [opv, n1, n2, n3, n4, Value.cells]
   refine x_nil ?_
   refine hK5 _ _ ?_
   refine x_ret ?_
   refine r_tmp rfl ?_
   exact ⟨rfl, hS.ext_of⟩
  ·
   try simp only [decide_eq_true_eq, decide_eq_false_iff_not, Bool.not_eq_true', Bool.not_eq_false', Int.not_lt, Int.not_le, ne_eq, Decidable.not_not, bne_iff_ne, beq_iff_eq, not_true_eq_false, not_false_eq_true] at hc2
   have hn5 : n ≤ 500 := by omega
   have hdo := decF_ok hw
   have hdl := decF_len l
   have hel := encF_len hf (by omega)
   refine x_skip ?_
   refine hK2 _ _ ?_
   refine x_seq_j [4, 5, 6, 7, 8, 23, 24, 25, 26, 27, 28, 29, 30, 31, 32, 33, 34, 35, 36, 37, 38, 39, 40, 41, 42] (fun f w => St NoB w0 w [.obj g1 (.cells (FA fm A cp) 90 (0, 0)), .rd A 1 fm.d.length (fm.d.map (Value.int .u8)), .rd E 1 n (l.map (Value.int .u8))]) ?jx1 ?jy1
   case jx1 =>
    refine x_seq fun K6 hK6 => ?_
    refine x_region ?_
    refine s_go (s_move) ?_
    try simp only [opv, n1, n2, n3, n4, Value.cells]
    refine s_call en60 ?_
    try simp only [opv, n1, n2, n3, n4, Value.cells, List.map_toArray, List.map_cons, List.map_nil, List.append_toArray, List.cons_append, List.nil_append, Array.append_empty]
    refine CallR.mono (c_frDecode _ E n c l (hS.hasRd (by repeat (first | exact Has.head | apply Has.tail))) hl hw (by omega) hc) ?_
    rintro _ w4 ⟨B1, k1, rfl, hC4⟩
    replace hS := hS.call hC4
    simp only [List.cons_append, List.nil_append] at hS
    try simp only [opv, n1, n2, n3, n4, Value.cells]
    refine s_go (s_move) ?_
    try simp only [opv, n1, n2, n3, n4, Value.cells]
    refine s_go (s_extract (hv := rfl)) ?_
    try simp only [List.getElem_toArray, List.getElem_cons_zero, List.getElem_cons_succ]
    try simp only [opv, n1, n2, n3, n4, Value.cells]
    refine s_go (s_extract (hv := rfl)) ?_
    try simp only [List.getElem_toArray, List.getElem_cons_zero, List.getElem_cons_succ]
    try simp only [opv, n1, n2, n3, n4, Value.cells]
    refine m_alloc ti90 hS (fun w5 g5 hS => ?_)
    try simp only [opv, n1, n2, n3, n4, Value.cells, Array.toArray_toList] at hS ⊢
    refine m_store_obj ti90 (hS := hS) (h1 := by simp [opv, Value.cells, FA, fmL, Value.oneCell']) (h := fun w6 hS => ?_)
    try simp only [opv, n1, n2, n3, n4, Value.cells, Array.toArray_toList] at hS ⊢
    refine s_go (s_assign) ?_
    try simp only [opv, n1, n2, n3, n4, Value.cells]
    refine x_nil ?_
    refine hK6 _ _ ?_
    refine x_seq fun K7 hK7 => ?_
    refine x_region ?_
    refine s_go (s_move) ?_
    try simp only [opv, n1, n2, n3, n4, Value.cells]
    refine s_go (s_eql) ?_
    try simp only [opv, n1, n2, n3, n4, Value.cells]
    refine x_nil ?_
    refine hK7 _ _ ?_
    refine x_cond (ht := fun hc3 => ?_) (hf := fun hc3 => ?_)
    ·
     try simp only [decide_eq_true_eq, decide_eq_false_iff_not, Bool.not_eq_true', Bool.not_eq_false', Int.not_lt, Int.not_le, ne_eq, Decidable.not_not, bne_iff_ne, beq_iff_eq, not_true_eq_false, not_false_eq_true] at hc3
     have hE0 : decE l = 0 := hc3
     obtain ⟨hck, hcl⟩ := dec_code hw hE0
     refine x_seq fun K8 hK8 => ?_
     refine x_region ?_
     refine s_go (m_load_row Try.underlying90 (hi := ti90) (hS := hS)) ?_
     try simp only [opv, n1, n2, n3, n4, Value.cells, List.getElem_toArray, List.getElem_cons_zero, List.getElem_cons_succ]
     refine s_call en63 ?_
     try simp only [opv, n1, n2, n3, n4, Value.cells, List.map_toArray, List.map_cons, List.map_nil, List.append_toArray, List.cons_append, List.nil_append, Array.append_empty]
     refine CallR.mono (c_frEncode _ (decF l) hdo B1 k1 (hS.vecRd (by repeat (first | exact Has.head | apply Has.tail))) (by omega)) ?_
     rintro _ w7 ⟨B2, k2, rfl, hkB2, hC7⟩
     replace hS := hS.call hC7
     simp only [List.cons_append, List.nil_append] at hS
     rw [hcl] at hS
     rw [hck, hcl]
     try simp only [opv, n1, n2, n3, n4, Value.cells]
     refine s_go (s_move) ?_
     try simp only [opv, n1, n2, n3, n4, Value.cells]
     refine s_go (s_extract (hv := rfl)) ?_
     try simp only [List.getElem_toArray, List.getElem_cons_zero, List.getElem_cons_succ]
     try simp only [opv, n1, n2, n3, n4, Value.cells]
     refine s_go (s_extract (hv := rfl)) ?_
     try simp only [List.getElem_toArray, List.getElem_cons_zero, List.getElem_cons_succ]
     try simp only [opv, n1, n2, n3, n4, Value.cells]
     refine s_go (s_assign) ?_
     try simp only [opv, n1, n2, n3, n4, Value.cells]
     refine s_go (s_assign) ?_
     try simp only [opv, n1, n2, n3, n4, Value.cells]
     refine x_nil ?_
     refine hK8 _ _ ?_
     refine x_seq fun K9 hK9 => ?_
     refine x_region ?_
     refine s_go (s_move) ?_
     try simp only [opv, n1, n2, n3, n4, Value.cells]
     refine s_go (s_neq) ?_
     try simp only [opv, n1, n2, n3, n4, Value.cells]
     try simp only [ne_eq, not_true_eq_false, decide_false, eq_self, decide_true]
     refine s_go (s_move) ?_
     try simp only [opv, n1, n2, n3, n4, Value.cells]
     refine g_on (yi (t := 37) rfl rfl) ?_
     refine s_go (s_move) ?_
     try simp only [opv, n1, n2, n3, n4, Value.cells]
     refine g_on (yi (t := 37) rfl rfl) ?_
     refine s_go (s_move) ?_
     try simp only [opv, n1, n2, n3, n4, Value.cells]
     refine g_on (yi (t := 37) rfl rfl) ?_
     refine s_call en34 ?_
     try simp only [opv, n1, n2, n3, n4, Value.cells, List.map_toArray, List.map_cons, List.map_nil, List.append_toArray, List.cons_append, List.nil_append, Array.append_empty]
     refine CallR.mono (c_ref03Same _ _ _ _ _ _ _ _ _ (hS.vecRd (by repeat (exact Has.head))) (hS.hasRd (by repeat (first | exact Has.head | apply Has.tail))) (rfl) (by omega) (by omega)) ?_
     rintro _ w8 ⟨rfl, hE8⟩
     replace hS := hS.ext hE8
     try simp only [opv, n1, n2, n3, n4, Value.cells]
     try simp only [eq_self, decide_true, beq_self_eq_true, Bool.and_self]
     refine g_on (yi (t := 37) rfl rfl) ?_
     refine s_go (s_not) ?_
     try simp only [opv, n1, n2, n3, n4, Value.cells]
     simp only [Bool.not_true]
     refine s_go (s_pick_f) ?_
     try simp only [opv, n1, n2, n3, n4, Value.cells]
     refine x_nil ?_
     refine hK9 _ _ ?_
     refine x_cond_f (h := ?_)
     refine x_skip ?_
     refine mix_leaf (by simp only [clob, List.foldl, n1, n2, n3, n4]) ?_
     try simp only [n1, n2]
     exact hS.sel (by repeat (first | exact Sel.nil | (refine Sel.cons (by repeat (first | exact Del.head | apply Del.tail)) ?_)))
    ·
     try simp only [decide_eq_true_eq, decide_eq_false_iff_not, Bool.not_eq_true', Bool.not_eq_false', Int.not_lt, Int.not_le, ne_eq, Decidable.not_not, bne_iff_ne, beq_iff_eq, not_true_eq_false, not_false_eq_true] at hc3
     refine x_skip ?_
     refine mix_leaf (by simp only [clob, List.foldl, n1, n2, n3, n4]) ?_
     try simp only [n1, n2]
     exact hS.sel (by repeat (first | exact Sel.nil | (refine Sel.cons (by repeat (first | exact Del.head | apply Del.tail)) ?_)))
   intro fm1 w9 hM
   simp only [clob, List.foldl, n3, n4]
   have hS := hM
   refine x_seq fun K10 hK10 => ?_
   refine x_region ?_
   refine s_go (m_load_row Try.underlying90 (hi := ti90) (hS := hS)) ?_
   try simp only [opv, n1, n2, n3, n4, Value.cells, List.getElem_toArray, List.getElem_cons_zero, List.getElem_cons_succ]
   refine s_call en63 ?_
   try simp only [opv, n1, n2, n3, n4, Value.cells, List.map_toArray, List.map_cons, List.map_nil, List.append_toArray, List.cons_append, List.nil_append, Array.append_empty]
   refine CallR.mono (c_frEncode _ fm hf A cp (hS.hasRd (by repeat (first | exact Has.head | apply Has.tail))) (by omega)) ?_
   rintro _ w10 ⟨B3, k3, rfl, hkB3, hC10⟩
   replace hS := hS.call hC10
   simp only [List.cons_append, List.nil_append] at hS
   try simp only [opv, n1, n2, n3, n4, Value.cells]
   refine s_go (s_move) ?_
   try simp only [opv, n1, n2, n3, n4, Value.cells]
   refine s_go (s_extract (hv := rfl)) ?_
   try simp only [List.getElem_toArray, List.getElem_cons_zero, List.getElem_cons_succ]
   try simp only [opv, n1, n2, n3, n4, Value.cells]
   refine s_go (s_extract (hv := rfl)) ?_
   try simp only [List.getElem_toArray, List.getElem_cons_zero, List.getElem_cons_succ]
   try simp only [opv, n1, n2, n3, n4, Value.cells]
   refine s_go (s_assign) ?_
   try simp only [opv, n1, n2, n3, n4, Value.cells]
   refine s_go (s_assign) ?_
   try simp only [opv, n1, n2, n3, n4, Value.cells]
   refine x_nil ?_
   refine hK10 _ _ ?_
   refine x_seq fun K11 hK11 => ?_
   refine x_seq fun K12 hK12 => ?_
   refine x_region ?_
   refine s_go (s_move) ?_
   try simp only [opv, n1, n2, n3, n4, Value.cells]
   refine s_go (s_neq) ?_
   try simp only [opv, n1, n2, n3, n4, Value.cells]
   refine x_nil ?_
   refine hK12 _ _ ?_
   refine x_cond (ht := fun hc5 => ?_) (hf := fun hc5 => ?_)
   ·
    try simp only [decide_eq_true_eq, decide_eq_false_iff_not, Bool.not_eq_true', Bool.not_eq_false', Int.not_lt, Int.not_le, ne_eq, Decidable.not_not, bne_iff_ne, beq_iff_eq, not_true_eq_false, not_false_eq_true] at hc5
    have hC : ¬ checkF fm = 0 := hc5
    rw [encF_no hC] at hS
    refine x_seq fun K13 hK13 => ?_
    refine x_region ?_
    refine s_go (s_move) ?_
    try simp only [opv, n1, n2, n3, n4, Value.cells]
    refine s_go (s_len_sl Try.underlying43) ?_
    try simp only [opv, n1, n2, n3, n4, Value.cells]
    rw [encF_no hC]
    refine s_go (s_eql) ?_
    try simp only [opv, n1, n2, n3, n4, Value.cells]
    rw [show decide (((([] : List Int).length : Nat) : Int) = 0) = true from rfl]
    refine s_go (s_move) ?_
    try simp only [opv, n1, n2, n3, n4, Value.cells]
    refine g_on (yi (t := 53) rfl rfl) ?_
    refine s_call en59 ?_
    try simp only [opv, n1, n2, n3, n4, Value.cells, List.map_toArray, List.map_cons, List.map_nil, List.append_toArray, List.cons_append, List.nil_append, Array.append_empty]
    refine CallR.mono (c_law27alive _) ?_
    rintro _ w11 ⟨rfl, hE11⟩
    replace hS := hS.ext hE11
    try simp only [opv, n1, n2, n3, n4, Value.cells]
    refine s_go (s_pick_t) ?_
    try simp only [opv, n1, n2, n3, n4, Value.cells]
    refine s_go (s_assign) ?_
    try simp only [opv, n1, n2, n3, n4, Value.cells]
    refine x_nil ?_
    refine hK13 _ _ ?_
    refine x_ret ?_
    refine r_tmp rfl ?_
    exact ⟨rfl, hS.ext_of⟩
   ·
    try simp only [decide_eq_true_eq, decide_eq_false_iff_not, Bool.not_eq_true', Bool.not_eq_false', Int.not_lt, Int.not_le, ne_eq, Decidable.not_not, bne_iff_ne, beq_iff_eq, not_true_eq_false, not_false_eq_true] at hc5
    have hC : checkF fm = 0 := by simpa using hc5
    obtain ⟨hde, hdf⟩ := dec_enc hf hC
    refine x_skip ?_
    refine hK11 _ _ ?_
    refine x_seq fun K14 hK14 => ?_
    refine x_region ?_
    refine s_go (s_move) ?_
    try simp only [opv, n1, n2, n3, n4, Value.cells]
    refine s_call en60 ?_
    try simp only [opv, n1, n2, n3, n4, Value.cells, List.map_toArray, List.map_cons, List.map_nil, List.append_toArray, List.cons_append, List.nil_append, Array.append_empty]
    refine CallR.mono (c_frDecode _ B3 _ k3 (encF fm) (hS.vecRd (by repeat (exact Has.head))) rfl (encF_byt hf) (by omega) hkB3) ?_
    rintro _ w12 ⟨B4, k4, rfl, hC12⟩
    replace hS := hS.call hC12
    simp only [List.cons_append, List.nil_append] at hS
    rw [hdf] at hS
    rw [hde, hdf]
    try simp only [opv, n1, n2, n3, n4, Value.cells]
    refine s_go (s_move) ?_
    try simp only [opv, n1, n2, n3, n4, Value.cells]
    refine s_go (s_extract (hv := rfl)) ?_
    try simp only [List.getElem_toArray, List.getElem_cons_zero, List.getElem_cons_succ]
    try simp only [opv, n1, n2, n3, n4, Value.cells]
    refine s_go (s_extract (hv := rfl)) ?_
    try simp only [List.getElem_toArray, List.getElem_cons_zero, List.getElem_cons_succ]
    try simp only [opv, n1, n2, n3, n4, Value.cells]
    refine m_alloc ti90 hS (fun w13 g13 hS => ?_)
    try simp only [opv, n1, n2, n3, n4, Value.cells, Array.toArray_toList] at hS ⊢
    refine m_store_obj ti90 (hS := hS) (h1 := by simp [opv, Value.cells, FA, fmL, Value.oneCell']) (h := fun w14 hS => ?_)
    try simp only [opv, n1, n2, n3, n4, Value.cells, Array.toArray_toList] at hS ⊢
    refine s_go (s_assign) ?_
    try simp only [opv, n1, n2, n3, n4, Value.cells]
    refine x_nil ?_
    refine hK14 _ _ ?_
    refine x_seq fun K15 hK15 => ?_
    refine x_region ?_
    refine s_go (s_move) ?_
    try simp only [opv, n1, n2, n3, n4, Value.cells]
    refine s_go (s_eql) ?_
    try simp only [opv, n1, n2, n3, n4, Value.cells]
    try simp only [eq_self, decide_true, beq_self_eq_true, Bool.and_self]
    refine s_go (s_move) ?_
    try simp only [opv, n1, n2, n3, n4, Value.cells]
    refine g_on (yi (t := 63) rfl rfl) ?_
    refine s_go (m_load_row Try.underlying90 (hi := ti90) (hS := hS)) ?_
    try simp only [opv, n1, n2, n3, n4, Value.cells, List.getElem_toArray, List.getElem_cons_zero, List.getElem_cons_succ]
    refine g_on (yi (t := 63) rfl rfl) ?_
    refine s_go (m_load_row Try.underlying90 (hi := ti90) (hS := hS)) ?_
    try simp only [opv, n1, n2, n3, n4, Value.cells, List.getElem_toArray, List.getElem_cons_zero, List.getElem_cons_succ]
    refine g_on (yi (t := 63) rfl rfl) ?_
    refine s_call en64 ?_
    try simp only [opv, n1, n2, n3, n4, Value.cells, List.map_toArray, List.map_cons, List.map_nil, List.append_toArray, List.cons_append, List.nil_append, Array.append_empty]
    refine CallR.mono (c_frSame _ fm fm A B4 cp k4 (hS.hasRd (by repeat (first | exact Has.head | apply Has.tail))) (hS.vecRd (by repeat (first | exact Has.head | apply Has.tail))) hf.d hf.d (by omega)) ?_
    rintro _ w15 ⟨rfl, hE15⟩
    replace hS := hS.ext hE15
    try simp only [opv, n1, n2, n3, n4, Value.cells]
    try simp only [eq_self, decide_true, beq_self_eq_true, Bool.and_self]
    refine s_go (s_pick_t) ?_
    try simp only [opv, n1, n2, n3, n4, Value.cells]
    refine s_go (s_move) ?_
    try simp only [opv, n1, n2, n3, n4, Value.cells]
    refine g_on (yi (t := 68) rfl rfl) ?_
    refine s_go (s_move) ?_
    try simp only [opv, n1, n2, n3, n4, Value.cells]
    refine g_on (yi (t := 68) rfl rfl) ?_
    refine s_go (s_len_sl Try.underlying43) ?_
    try simp only [opv, n1, n2, n3, n4, Value.cells]
    refine g_on (yi (t := 68) rfl rfl) ?_
    refine s_go (m_fieldAddr Try.underlying90 (hi := ti43)) ?_
    try simp only [opv, n1, n2, n3, n4, Value.cells, Nat.zero_add, Nat.add_zero, List.getElem_toArray, List.getElem_cons_zero, List.getElem_cons_succ]
    refine g_on (yi (t := 68) rfl rfl) ?_
    refine s_go (m_load_obj Try.underlying43 (hS := hS)) ?_
    try simp only [opv, n1, n2, n3, n4, Value.cells, List.getElem_toArray, List.getElem_cons_zero, List.getElem_cons_succ]
    refine g_on (yi (t := 68) rfl rfl) ?_
    refine s_go (s_len_sl Try.underlying43) ?_
    try simp only [opv, n1, n2, n3, n4, Value.cells]
    refine g_on (yi (t := 68) rfl rfl) ?_
    refine s_go (s_add (hc := by exact wr_i64 (by omega) (by omega))) ?_
    try simp only [opv, n1, n2, n3, n4, Value.cells]
    refine g_on (yi (t := 68) rfl rfl) ?_
    refine s_go (s_leq) ?_
    try simp only [opv, n1, n2, n3, n4, Value.cells]
    rw [decide_eq_true (show ((encF fm).length : Int) ≤ (fm.d.length : Int) + 26 by omega)]
    refine s_go (s_pick_t) ?_
    try simp only [opv, n1, n2, n3, n4, Value.cells]
    refine s_go (s_move) ?_
    try simp only [opv, n1, n2, n3, n4, Value.cells]
    refine g_on (yi (t := 77) rfl rfl) ?_
    refine s_call en59 ?_
    try simp only [opv, n1, n2, n3, n4, Value.cells, List.map_toArray, List.map_cons, List.map_nil, List.append_toArray, List.cons_append, List.nil_append, Array.append_empty]
    refine CallR.mono (c_law27alive _) ?_
    rintro _ w16 ⟨rfl, hE16⟩
    replace hS := hS.ext hE16
    try simp only [opv, n1, n2, n3, n4, Value.cells]
    refine s_go (s_pick_t) ?_
    try simp only [opv, n1, n2, n3, n4, Value.cells]
    refine s_go (s_assign) ?_
    try simp only [opv, n1, n2, n3, n4, Value.cells]
    refine x_nil ?_
    refine hK15 _ _ ?_
    refine x_ret ?_
    refine r_tmp rfl ?_
    exact ⟨rfl, hS.ext_of⟩
end Go.Proofs.Ytpjpaipkkcengaa
namespace Go.Proofs.Ytpjpaipkkcengaa
open Go.ChangeShapes Go.WideShapes Go.ChangeAt Go.RowKit
theorem own0 : ownKnob Try.prog.godebug = none := by kernel_rfl
theorem laidOut0 : laidOutB Try.prog = true := by kernel_rfl
theorem fl5 : Flat Try.prog 5 [LK.int .u8] := flat_int Try.underlying5
theorem fl25 : Flat Try.prog 25 [LK.int .u32] := flat_int Try.underlying25
theorem fl43 : Flat Try.prog 43 [LK.sl 1 [LK.int .u8]] := flat_slice Try.underlying43 fl5 rfl (by kernel_rfl) (by decide)
theorem fl4 : Flat Try.prog 4 [LK.bool] := flat_bool Try.underlying4
theorem fl90 : Flat Try.prog 90 ([LK.int .u8] ++ ([LK.int .u8] ++ ([LK.int .u8] ++ ([LK.int .u32] ++ ([LK.int .u32] ++ ([LK.int .u8] ++ ([LK.int .u32] ++ ([LK.bool] ++ ([LK.sl 1 [LK.int .u8]] ++ ([])))))))))) := flat_struct Try.underlying90 (.cons rfl fl5 rfl (by kernel_rfl) (.cons rfl fl5 rfl (by kernel_rfl) (.cons rfl fl5 rfl (by kernel_rfl) (.cons rfl fl25 rfl (by kernel_rfl) (.cons rfl fl25 rfl (by kernel_rfl) (.cons rfl fl5 rfl (by kernel_rfl) (.cons rfl fl25 rfl (by kernel_rfl) (.cons rfl fl4 rfl (by kernel_rfl) (.cons rfl fl43 rfl (by kernel_rfl) (.nil)))))))))) (by kernel_rfl)
end Go.Proofs.Ytpjpaipkkcengaa
namespace Go.Proofs.Ytpjpaipkkcengaa
theorem ws_cons {c : Char} (h : c ≠ Char.ofNat 32) (x : List Char) : wordsSigns (c :: x) = (match wordsSigns x with | w :: ws => (c :: w) :: ws | [] => [[c]]) := by
  conv => lhs; unfold wordsSigns
  split
  · simp_all
  · next h1 => exact absurd (by simpa using (List.cons.inj h1).1) h
  · next h1 => obtain ⟨rfl, rfl⟩ := List.cons.inj h1; rfl
theorem ws_app (b : List Char) : ∀ (a : List Char), (∀ c ∈ a, c ≠ Char.ofNat 32) → wordsSigns (a ++ Char.ofNat 32 :: b) = a :: wordsSigns b
  | [], _ => rfl
  | c :: r, h => by
    rw [List.cons_append, ws_cons (h c (by simp)), ws_app b r (fun x hx => h x (by simp [hx]))]
/-- the head's words: harness, a sum, cut -/
theorem head_words {P : Program} {s b : List Char} (he : P.initOrder = String.ofList ("harness".toList ++ Char.ofNat 32 :: (s ++ Char.ofNat 32 :: ("cut".toList ++ Char.ofNat 32 :: b)))) (hs : isSumSigns s = true) (hb : ∀ c ∈ s, c ≠ Char.ofNat 32) :
    ∃ R, behindMainWord (wordsSigns P.initOrder.toList) = "cut".toList :: R := by
  refine ⟨wordsSigns b, ?_⟩
  rw [he, String.toList_ofList, ws_app _ _ (by decide), ws_app _ _ hb, ws_app _ _ (by decide)]
  simp only [behindMainWord, hs, beq_self_eq_true, Bool.true_or, Bool.and_self, if_true]
theorem e_gc : ("cut".toList == "gc".toList) = false := by decide
theorem e_spec : ("cut".toList == "spec".toList) = false := by decide
theorem e_car : ("cut".toList == "carried".toList) = false := by decide
theorem e_sl (R : List (List Char)) : stripLifts liftWords ("cut".toList :: R) = ([], "cut".toList :: R) := by
  have h : ∀ (l : List String), (∀ o ∈ l, ("cut".toList == o.toList) = false) → stripLifts l ("cut".toList :: R) = ([], "cut".toList :: R) := by
    intro l
    induction l with
    | nil => intro _; rfl
    | cons o os ih => intro hl; rw [stripLifts, hl o (by simp)]; simp only [Bool.false_eq_true, if_false]; exact ih fun x hx => hl x (by simp [hx])
  exact h liftWords (by decide)
section
variable {P : Program} (h : ∃ R, behindMainWord (wordsSigns P.initOrder.toList) = "cut".toList :: R)
include h
theorem make_of : P.make = some .cut := by
  obtain ⟨R, h⟩ := h
  unfold Program.make
  rw [h]
  simp only [e_gc, e_spec, beq_self_eq_true, Bool.or_self, Bool.true_or, Bool.false_eq_true, if_false, if_true]
theorem lifts_of : P.liftsFinal = false := by
  obtain ⟨R, h⟩ := h
  unfold Program.liftsFinal Program.headLifts
  rw [h, e_sl]
  show (_ || _) = false
  rfl
theorem enter_of (hl : P.laysLater = false) (hr : P.bearsReflect = false) (hd : P.doorFits [] = true) : P.mayEnter = true := by
  obtain ⟨R, h⟩ := h
  unfold Program.mayEnter
  rw [h]
  dsimp only
  rw [e_sl, hl, hr]
  simp only [hd, e_gc, e_spec, e_car, beq_self_eq_true, Bool.or_self, Bool.false_and, Bool.not_false, Bool.or_true, Bool.and_true, List.head?_cons, List.contains_nil]
end
theorem closed_of {P : Program} {f : FuncId} {fn : Func} {s : ChangeSpec} {c : OpenClaim} (hm : P.make = some .cut) (hl : P.liftsFinal = false) (he : P.mayEnter = true) (h2 : laidOutB P = true) (h3 : mapsRowed P = true) (hst : (P.stops == []) = true) (hk : (P.stopKnobs == []) = true)
    (hp : P.plainKeys = c.plainKeys) (hh : P.stopsHeard = true) (i1 : P.inPlace f = c.inPlace) (i2 : P.unfollowed f = c.unfollowed) (i3 : P.recurses f = c.recurses) (i4 : P.varsNamed f = c.named)
    (rest : (c.wf (OpenSpec.ofChange s) && fn.params.all (P.readableRec ·) && namedTie P c.named s.vars && (c.stops == []) && (c.knobs == []) &&
      (c.maps == (fn.params.toList ++ s.plain.varTypes P).any (P.mapsRec ·)) && (c.ifaces == (fn.params.toList ++ s.plain.varTypes P).any (P.ifacesRec ·)) && (c.mapsOut == P.mapsAmong fn.resultTypes.toList) &&
      (c.loops == (fn.params.toList ++ s.plain.varTypes P).any (P.loopsFrom ·)) && (c.wideKeys == (fn.params.toList ++ s.plain.varTypes P ++ fn.resultTypes.toList).any (P.wideKeysFrom ·)) &&
      s.vars.all (P.varReadable ·) && fn.resultTypes.all (fun t => P.readableRec t && decide (t < P.types.size)) && (c.ifacesOut == fn.resultTypes.toList.any (P.ifacesRec ·)) && (c.loopsOut == fn.resultTypes.toList.any (P.loopsFrom ·)) && c.shortTexts.isNone && (c.lifted == false) && (some Make.cut == some c.make) &&
      (c.kinds == (if c.domain.isEmpty then [] else fn.params.toList.map fun t => match P.underlying t with | some (.int k) => some k | _ => none)) && (c.pinned == c.pinnedBy) &&
      (c.veiled == (fn.params.toList ++ s.plain.varTypes P ++ fn.resultTypes.toList).any (P.veiledRec ·)) && c.veiledFits P fn.params.toList (fn.params.toList ++ s.plain.varTypes P ++ fn.resultTypes.toList)) = true) : joinedFacts P f fn s c = true := by
  simp only [Bool.and_eq_true] at rest
  unfold joinedFacts
  rw [hm, hl, he, h2, h3, hst, hk, hp, hh, i1, i2, i3, i4]
  simp only [beq_self_eq_true, Bool.and_eq_true, Bool.and_true]
  have hkd := rest.1.1.1.2
  simp only [rest, and_self]
  exact ⟨⟨⟨⟨trivial, hkd⟩, trivial⟩, trivial⟩, trivial⟩
end Go.Proofs.Ytpjpaipkkcengaa
namespace Go.Proofs.Ytpjpaipkkcengaa
def ioS : List Nat := [100, 48, 57, 50, 100, 97, 48, 97, 54, 97, 55, 100, 53, 57, 52, 54, 49, 55, 55, 54, 97, 100, 97, 57, 51, 55, 57, 99, 56, 99, 48, 52, 48, 49, 53, 50, 101, 49, 49, 53, 100, 53, 101, 56, 49, 97, 53, 50, 100, 101, 51, 52, 101, 102, 50, 102, 52, 51, 97, 56, 49, 98, 97, 56]
def ioB : List Nat := [97, 116, 32, 104, 97, 110, 100, 99, 97, 114, 116, 47, 104, 97, 110, 100, 99, 97, 114, 116, 108, 97, 119, 49, 50, 46, 86, 101, 99, 67, 111, 117, 110, 116, 115, 32, 104, 97, 110, 100, 99, 97, 114, 116, 47, 104, 97, 110, 100, 99, 97, 114, 116, 108, 97, 119, 48, 55, 46, 87, 105, 114, 101, 66, 97, 99, 107, 32, 104, 97, 110, 100, 99, 97, 114, 116, 47, 104, 97, 110, 100, 99, 97, 114, 116, 108, 97, 119, 48, 56, 46, 75, 101, 121, 82, 101, 97, 100, 115, 32, 104, 97, 110, 100, 99, 97, 114, 116, 47, 104, 97, 110, 100, 99, 97, 114, 116, 108, 97, 119, 48, 56, 46, 75, 101, 121, 66, 97, 99, 107, 32, 104, 97, 110, 100, 99, 97, 114, 116, 47, 104, 97, 110, 100, 99, 97, 114, 116, 108, 97, 119, 48, 57, 46, 65, 116, 111, 109, 66, 97, 99, 107, 32, 104, 97, 110, 100, 99, 97, 114, 116, 47, 104, 97, 110, 100, 99, 97, 114, 116, 108, 97, 119, 51, 52, 46, 66, 111, 117, 110, 100, 65, 116, 111, 109, 115, 32, 104, 97, 110, 100, 99, 97, 114, 116, 47, 104, 97, 110, 100, 99, 97, 114, 116, 108, 97, 119, 50, 55, 46, 70, 114, 97, 109, 101, 82, 101, 97, 100, 115, 32, 104, 97, 110, 100, 99, 97, 114, 116, 47, 104, 97, 110, 100, 99, 97, 114, 116, 108, 97, 119, 50, 55, 46, 70, 114, 97, 109, 101, 84, 117, 114, 110, 101, 100, 32, 104, 97, 110, 100, 99, 97, 114, 116, 47, 104, 97, 110, 100, 99, 97, 114, 116, 108, 97, 119, 50, 55, 46, 70, 114, 97, 109, 101, 66, 97, 99, 107, 32, 104, 97, 110, 100, 99, 97, 114, 116, 47, 104, 97, 110, 100, 99, 97, 114, 116, 108, 97, 119, 50, 55, 46, 70, 114, 97, 109, 101, 67, 111, 100, 101, 115, 32, 104, 97, 110, 100, 99, 97, 114, 116, 47, 104, 97, 110, 100, 99, 97, 114, 116, 108, 97, 119, 49, 51, 46, 68, 111, 116, 115, 65, 100, 100, 115, 32, 104, 97, 110, 100, 99, 97, 114, 116, 47, 104, 97, 110, 100, 99, 97, 114, 116, 108, 97, 119, 49, 51, 46, 68, 111, 116, 115, 65, 108, 111, 110, 101, 32, 104, 97, 110, 100, 99, 97, 114, 116, 47, 104, 97, 110, 100, 99, 97, 114, 116, 108, 97, 119, 49, 51, 46, 68, 111, 116, 115, 74, 111, 105, 110, 115, 32, 104, 97, 110, 100, 99, 97, 114, 116, 47, 104, 97, 110, 100, 99, 97, 114, 116, 108, 97, 119, 49, 48, 46, 76, 97, 116, 65, 108, 108, 32, 104, 97, 110, 100, 99, 97, 114, 116, 47, 104, 97, 110, 100, 99, 97, 114, 116, 108, 97, 119, 49, 48, 46, 76, 97, 116, 78, 111, 114, 109, 115, 32, 104, 97, 110, 100, 99, 97, 114, 116, 47, 104, 97, 110, 100, 99, 97, 114, 116, 108, 97, 119, 49, 48, 46, 76, 97, 116, 74, 111, 105, 110, 115, 32, 104, 97, 110, 100, 99, 97, 114, 116, 47, 104, 97, 110, 100, 99, 97, 114, 116, 108, 97, 119, 49, 48, 46, 76, 97, 116, 76, 101, 97, 115, 116]
theorem io_eq : Try.prog.initOrder = String.ofList ("harness".toList ++ Char.ofNat 32 :: (ioS.map Char.ofNat ++ Char.ofNat 32 :: ("cut".toList ++ Char.ofNat 32 :: ioB.map Char.ofNat))) := by kernel_rfl
theorem io_sum : isSumSigns (ioS.map Char.ofNat) = true := by kernel_rfl
theorem io_hd : ∃ R, behindMainWord (wordsSigns Try.prog.initOrder.toList) = "cut".toList :: R := head_words io_eq io_sum (by decide)
theorem p_make : Try.prog.make = some .cut := make_of io_hd
theorem p_lifts : Try.prog.liftsFinal = false := lifts_of io_hd
theorem p_ll : Try.prog.laysLater = false := by kernel_rfl
theorem p_br : Try.prog.bearsReflect = false := by kernel_rfl
theorem p_df : Try.prog.doorFits [] = true := by kernel_rfl
theorem p_enter : Try.prog.mayEnter = true := enter_of io_hd p_ll p_br p_df
theorem p_rowed : mapsRowed Try.prog = true := by kernel_rfl
theorem p_stops : (Try.prog.stops == []) = true := by kernel_rfl
theorem p_knobs : (Try.prog.stopKnobs == []) = true := by kernel_rfl
theorem p_keys : Try.prog.plainKeys = false := by kernel_rfl
theorem p_heard : Try.prog.stopsHeard = true := by kernel_rfl
end Go.Proofs.Ytpjpaipkkcengaa
