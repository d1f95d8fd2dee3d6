/- Rules, plain words and walks that the claim leans on: Re, Cv, Rf, Rg, Rh, Lzopen5, Tb, Vj, Tc. -/
import Derived.Test.YtffmanidnlbjjaaZDotsAdds2
set_option linter.unusedSimpArgs false
set_option linter.unusedVariables false
set_option linter.unusedSimpArgs false
set_option linter.unusedVariables false
set_option maxHeartbeats 2000000
set_option maxRecDepth 100000
namespace Go.Proofs.Ytffmanidnlbjjaa
open Go.RowKit

/-- what a call hands back to be read: new, or what it was handed -/
structure UBack (w0 w' : World) (A : Option Addr) (l : List Int) (B : Option Addr) (s : List Int) : Prop where
  ext : Ext w0 w'
  rd : Rd w' B 1 s.length (List.map (Value.int .u64) s)
  wh : ∀ b, (Res.rd B 1 s.length (List.map (Value.int .u64) s)).reads = some b → w0.heap.size ≤ b ∨ (Res.rd A 1 l.length (List.map (Value.int .u64) l)).reads = some b
theorem St.uback {S : Nat → Prop} {w0 w w' : World} {L : List Res} {A B : Option Addr} {l s : List Int} (h : St S w0 w L) (k : UBack w w' A l B s) (hm : Has L (.rd A 1 l.length (List.map (Value.int .u64) l)) := by repeat (first | exact Has.head | apply Has.tail)) : St S w0 w' (.rd B 1 s.length (List.map (Value.int .u64) s) :: L) := by
  refine (h.ext k.ext).add_rd k.rd fun r hr g hg e => ?_
  rcases k.wh g e with h1 | h1
  · have := own_lt (h.holds r hr) hg; omega
  · exact pair_apart hg rfl h1 h.apart hr hm.mem
theorem uback_self {w0 w' : World} {A : Option Addr} {l s : List Int} (hE : Ext w0 w') (hR : Rd w' A 1 l.length (List.map (Value.int .u64) l)) (e : s = l) : UBack w0 w' A l A s := by subst e; exact ⟨hE, hR, fun b hb => .inr hb⟩
theorem uback_vec {w0 w' : World} {A B : Option Addr} {c : Nat} {e : TypeId} {l s : List Int} {L : List Res} (h : St NoB w0 w' L) (hm : Has L (.vec B c e 1 s.length (List.map (Value.int .u64) s))) : UBack w0 w' A l B s :=
  ⟨h.ext_of, h.vecRd hm, fun b hb => .inl (by
    have : (Res.vec B c e 1 s.length (List.map (Value.int .u64) s)).own = some b := by
      simp only [Res.reads] at hb
      split at hb
      · cases hb
      · exact hb
    exact (h.own _ hm.mem b this).resolve_left (fun f => f))⟩
def insB (d : Int) : List Int → List Int
  | [] => [d]
  | x :: l => if d < x then d :: x :: l else x :: insB d l
def pI (d : Int) (p : List Int × Bool) (x : Int) : List Int × Bool := if p.2 = false ∧ d < x then ((p.1 ++ [d]) ++ [x], true) else (p.1 ++ [x], p.2)
theorem pI_true (d : Int) : ∀ (l o : List Int), l.foldl (pI d) (o, true) = (o ++ l, true)
  | [], o => by simp
  | x :: l, o => by rw [List.foldl_cons, pI, if_neg (by simp), pI_true d l]; simp
theorem pI_ins (d : Int) : ∀ (l o : List Int), (if (l.foldl (pI d) (o, false)).2 = true then (l.foldl (pI d) (o, false)).1 else (l.foldl (pI d) (o, false)).1 ++ [d]) = o ++ insB d l
  | [], o => by simp [insB]
  | x :: l, o => by
    rw [List.foldl_cons, insB]
    by_cases h : d < x
    · have e : pI d (o, false) x = ((o ++ [d]) ++ [x], true) := if_pos ⟨rfl, h⟩
      rw [e, pI_true, if_pos h]; simp
    · have e : pI d (o, false) x = (o ++ [x], false) := if_neg (fun q => h q.2)
      rw [e, if_neg h, pI_ins d l (o ++ [x])]; simp
theorem ins_filter {d : Int} : ∀ {cl : List Int}, cl.Pairwise (· < ·) → d ∉ cl → cl.filter (fun x => decide (x < d)) ++ d :: cl.filter (fun x => !decide (x < d)) = insB d cl
  | [], _, _ => rfl
  | x :: l, h, hd => by
    obtain ⟨h1, h2⟩ := List.pairwise_cons.1 h
    rw [List.mem_cons, not_or] at hd
    rw [insB]
    by_cases e : d < x
    · have e1 : (x :: l).filter (fun x => decide (x < d)) = [] := List.filter_eq_nil_iff.2 fun y hy => by
        rcases List.mem_cons.1 hy with rfl | hy
        · simp; omega
        · have := h1 y hy; simp; omega
      have e2 : (x :: l).filter (fun x => !decide (x < d)) = x :: l := List.filter_eq_self.2 fun y hy => by
        rcases List.mem_cons.1 hy with rfl | hy
        · simp; omega
        · have := h1 y hy; simp; omega
      rw [if_pos e, e1, e2]; rfl
    · have e3 : x < d := by omega
      rw [if_neg e, List.filter_cons_of_pos (by simpa using e3), List.filter_cons_of_neg (by simpa using e3), ← ins_filter h2 hd.2]; rfl
theorem put_yes {v cl : List Int} {d : Int} (h : PreS v cl) (hm : MayD d) (hn : ¬ HasD v cl d) : putC v cl d = insB d cl := by
  rw [putC, if_pos ⟨hm, hn⟩, ins_filter h.srt (fun q => hn ⟨hm, .inr q⟩)]
theorem put_no {v cl : List Int} {d : Int} (h : ¬ (MayD d ∧ ¬ HasD v cl d)) : putC v cl d = cl := if_neg h
theorem insB_len (d : Int) : ∀ l : List Int, (insB d l).length = l.length + 1
  | [] => rfl
  | x :: l => by rw [insB]; split <;> simp [insB_len d l]
theorem putC_len (v cl : List Int) (d : Int) (h : PreS v cl) : (putC v cl d).length ≤ cl.length + 1 := by
  by_cases q : MayD d ∧ ¬ HasD v cl d
  · rw [put_yes h q.1 q.2, insB_len]; omega
  · rw [put_no q]; omega
theorem puts_len {v : List Int} : ∀ {l cl : List Int}, PreS v cl → (l.foldl (putC v) cl).length ≤ cl.length + l.length
  | [], cl, h => Nat.le_refl _
  | d :: l, cl, h => by
    have h1 := puts_len (l := l) (putC_pre (d := d) h).1
    have h2 := putC_len v cl d h
    rw [List.foldl_cons, List.length_cons]; omega
theorem pre_nil {v : List Int} (hv : VOk v) : PreS v [] := ⟨hv, .nil, fun d h => by cases h⟩
theorem settle_end {v cl : List Int} (hv : VOk v) {v2 cl2 : List Int} (h : PreS v2 cl2) (hh : ∀ x, HasD v2 cl2 x ↔ HasD v cl x) (hl : (cl2.foldl setD (v2, [])).2.length = cl2.length) : cl2.foldl setD (v2, []) = addS v cl := by
  obtain ⟨h1, h2⟩ := set_end h hl
  rw [h1]
  exact (show Nrm (HasD v2 cl2) (v2, cl2) from ⟨h2, fun d => Iff.rfl⟩).uniq (add_nrm hv cl) hh
theorem refadd_end {v l : List Int} (hv : VOk v) : addS v (l.foldl (putC v) []) = addS v l := by
  obtain ⟨h1, h2⟩ := puts_pre (l := l) (pre_nil hv)
  refine (add_nrm hv _).uniq (add_nrm hv l) fun x => (h2 x).trans ?_
  unfold HasD
  constructor
  · rintro (⟨a, b | b⟩ | ⟨a, b⟩)
    · exact ⟨a, .inl b⟩
    · cases b
    · exact ⟨a, .inr b⟩
  · rintro ⟨a, b | b⟩
    · exact .inl ⟨a, .inl b⟩
    · exact .inr ⟨a, b⟩
theorem setD_vok : ∀ {l : List Int} {p : List Int × List Int}, VOk p.1 → (∀ d ∈ l, MayD d) → VOk (l.foldl setD p).1
  | [], _, h, _ => h
  | d :: l, p, h, hm => by
    refine setD_vok (l := l) ?_ fun x hx => hm x (by simp [hx])
    unfold setD
    split
    · exact h
    · split
      · exact h.set (by have := (hm d (by simp)).2.2; omega) (by omega)
      · exact h
theorem pre_u64 {v cl : List Int} (h : PreS v cl) : U64s cl := fun x hx => may_u64 (h.may x hx)
theorem foldl_take {α : Type} {f : α → Int → α} {l : List Int} {k : Nat} {a : α} (hk : k < l.length) : (l.take (k + 1)).foldl f a = f ((l.take k).foldl f a) (l.getD k 0) := by
  rw [List.take_succ_eq_append_getElem hk, List.foldl_append, ← getD_ltz hk]; rfl

theorem c_ref13Has (w0 : World) (x : List Int) (hx : VOk x) (A : Option Addr) (c : Nat) (cl : List Int) (hr : Rd w0 A 1 cl.length (List.map (Value.int .u64) cl)) (hu : U64s cl) (hn : cl.length ≤ 4000000000) (q : Nat) (hq : q < 18446744073709551616)  :
    CallR Try.prog 41 #[.agg (SetC x (.slice A cl.length c)), .int .u64 (q : Int)] w0 fun v w' => v = .bool (decide (HasD x cl (q : Int))) ∧ Ext w0 w' := by
 have hS := St.rd1 (S := NoB) hr
 have hxl := hx.len
 obtain ⟨r, hr0⟩ : ∃ r, r = q / 4294967296 := ⟨_, rfl⟩
 obtain ⟨s, hs0⟩ : ∃ s, s = q % 4294967296 := ⟨_, rfl⟩
 have hqs : (q : Int) % 4294967296 = (s : Int) := by omega
 have hfq : flo x (q : Int) = x.getD r 0 := by rw [flo, dR_nat, hr0]
 refine c_enter (l := [.agg (SetC x (.slice A cl.length c)), .int .u64 (q : Int), undef, undef, undef, undef, undef, undef, undef, undef, undef, undef, undef, undef, undef, undef, undef, undef, undef, undef, undef, undef, undef, undef, undef, undef, undef, undef, undef, undef, undef, undef]) Try.func41 rfl (by simp only [Try.ntmps41, List.size_toArray, List.length_cons, List.length_nil, Nat.reduceAdd, Nat.reduceSub, Array.replicate_succ, Array.replicate_zero, List.push_toArray, List.append_toArray, List.nil_append, List.cons_append]) ?_
 refine x_seq fun K1 hK1 => ?_
 refine x_region ?_
 refine m_box hS (fun w1 g1 hS => ?_)
 try simp only [opv, n1, n2, n3, n4, Value.cells, Array.toArray_toList] at hS ⊢
 obtain ⟨gba, hgba⟩ : ∃ z, z = g1 := ⟨_, rfl⟩
 rw [← hgba] at hS ⊢
 refine s_go (s_assign) ?_
 try simp only [opv, n1, n2, n3, n4, Value.cells]
 refine x_nil ?_
 refine hK1 _ _ ?_
 refine x_seq fun K2 hK2 => ?_
 refine x_seq fun K3 hK3 => ?_
 refine x_region ?_
 refine s_go (s_move) ?_
 try simp only [opv, n1, n2, n3, n4, Value.cells]
 refine s_call en45 ?_
 try simp only [opv, n1, n2, n3, n4, Value.cells, List.map_toArray, List.map_cons, List.map_nil, List.append_toArray, List.cons_append, List.nil_append, Array.append_empty]
 refine CallR.mono (c_ref13May q hq _) ?_
 rintro _ w2 ⟨rfl, hE2⟩
 replace hS := hS.ext hE2
 try simp only [opv, n1, n2, n3, n4, Value.cells]
 refine s_go (s_not) ?_
 try simp only [opv, n1, n2, n3, n4, Value.cells]
 refine x_nil ?_
 refine hK3 _ _ ?_
 refine x_cond (ht := fun hc1 => ?_) (hf := fun hc1 => ?_)
 ·
  try simp only [decide_eq_true_eq, decide_eq_false_iff_not, Bool.not_eq_true', Bool.not_eq_false', Int.not_lt, Int.not_le, ne_eq, Decidable.not_not, bne_iff_ne, beq_iff_eq, not_true_eq_false, not_false_eq_true] at hc1
  have hE : decide (HasD x cl (q : Int)) = false := decide_eq_false (fun h => by have h1 := h.1; first | exact hc1 h1 | (simp at hc1; exact hc1 h1) | (rw [decide_eq_true h1] at hc1; cases hc1))
  refine x_seq fun K4 hK4 => ?_
  refine x_region ?_
  refine s_go (s_assign) ?_
  try simp only [opv, n1, n2, n3, n4, Value.cells]
  refine x_nil ?_
  refine hK4 _ _ ?_
  refine x_ret ?_
  refine r_tmp rfl ?_
  exact ⟨by rw [hE]; rfl, hS.ext_of⟩
 ·
  try simp only [decide_eq_true_eq, decide_eq_false_iff_not, Bool.not_eq_true', Bool.not_eq_false', Int.not_lt, Int.not_le, ne_eq, Decidable.not_not, bne_iff_ne, beq_iff_eq, not_true_eq_false, not_false_eq_true] at hc1
  have hM : MayD (q : Int) := by simpa using hc1
  have hdn := may_nat.1 hM
  rw [← hr0, ← hs0] at hdn
  have hxr := hx.nat r
  refine x_skip ?_
  refine hK2 _ _ ?_
  refine x_seq fun K5 hK5 => ?_
  refine x_seq fun K6 hK6 => ?_
  refine x_region ?_
  refine s_go (s_move) ?_
  try simp only [opv, n1, n2, n3, n4, Value.cells]
  refine s_go (s_quo (hc := quo_u64 (p := 4294967296) (by omega))) ?_
  try simp only [opv, n1, n2, n3, n4, Value.cells]
  rw [← hr0]
  first | refine s_go (m_fieldAddr Try.underlying67 (hi := ti64)) ?_ | refine s_go (m_fieldAddr_rd Try.underlying67 (hi := ti64) (hS := hS)) ?_ | refine s_go (m_fieldAddr_vec Try.underlying67 (hi := ti64) (hS := hS)) ?_
  try simp only [opv, n1, n2, n3, n4, Value.cells, Nat.zero_add, Nat.add_zero, List.getElem_toArray, List.getElem_cons_zero, List.getElem_cons_succ]
  refine s_go (m_indexAddr_arr Try.underlying64 ti29) ?_
  try simp only [opv, n1, n2, n3, n4, Value.cells, Nat.mul_one, Nat.zero_add, Int.toNat_natCast, Int.reduceToNat]
  refine s_go (m_load_obj Try.underlying29 (hS := hS) (hv := set_at hxl _ (by omega))) ?_
  try simp only [opv, n1, n2, n3, n4, Value.cells, List.getElem_toArray, List.getElem_cons_zero, List.getElem_cons_succ]
  refine s_go (s_conv Try.underlying29 Try.underlying48 (hc := wr_u64 (by omega) (by omega))) ?_
  try simp only [opv, n1, n2, n3, n4, Value.cells]
  refine s_go (s_move) ?_
  try simp only [opv, n1, n2, n3, n4, Value.cells]
  refine s_go (s_rem (hc := rem_nat (p := 4294967296))) ?_
  try simp only [opv, n1, n2, n3, n4, Value.cells]
  rw [← hs0]
  refine s_go (s_geq) ?_
  try simp only [opv, n1, n2, n3, n4, Value.cells]
  refine x_nil ?_
  refine hK6 _ _ ?_
  refine x_cond (ht := fun hc2 => ?_) (hf := fun hc2 => ?_)
  ·
   try simp only [decide_eq_true_eq, decide_eq_false_iff_not, Bool.not_eq_true', Bool.not_eq_false', Int.not_lt, Int.not_le, ne_eq, Decidable.not_not, bne_iff_ne, beq_iff_eq, not_true_eq_false, not_false_eq_true] at hc2
   have hE : decide (HasD x cl (q : Int)) = true := decide_eq_true ⟨hM, .inl (by omega)⟩
   refine x_seq fun K7 hK7 => ?_
   refine x_region ?_
   refine s_go (s_assign) ?_
   try simp only [opv, n1, n2, n3, n4, Value.cells]
   refine x_nil ?_
   refine hK7 _ _ ?_
   refine x_ret ?_
   refine r_tmp rfl ?_
   exact ⟨by rw [hE]; rfl, hS.ext_of⟩
  ·
   try simp only [decide_eq_true_eq, decide_eq_false_iff_not, Bool.not_eq_true', Bool.not_eq_false', Int.not_lt, Int.not_le, ne_eq, Decidable.not_not, bne_iff_ne, beq_iff_eq, not_true_eq_false, not_false_eq_true] at hc2
   have hnf : ¬ (s : Int) ≤ x.getD r 0 := by simpa using hc2
   refine x_skip ?_
   refine hK5 _ _ ?_
   refine x_seq fun K8 hK8 => ?_
   refine x_seq fun K9 hK9 => ?_
   refine x_region ?_
   refine s_go (s_assign) ?_
   try simp only [opv, n1, n2, n3, n4, Value.cells]
   refine x_nil ?_
   refine hK9 _ _ ?_
   refine x_block ?_
   refine x_loop [4, 5, 18, 19, 20, 21, 22, 23, 24, 25, 26, 27, 28, 29, 30, 31] (fun m f w => ∃ k : Nat, k ≤ cl.length ∧ m = cl.length - k ∧ f 5 = .int .i64 (k : Int) ∧ (q : Int) ∉ cl.take k ∧ St NoB w0 w [.obj gba (.cells (SetC x (.slice A cl.length c)) 67 (0, 0)), .rd A 1 cl.length (List.map (Value.int .u64) cl)]) (cl.length) ?init1 (fun m1 f1 wl1 hI => ?_)
   case init1 =>
    try simp only [opv, n1, n2, n3, n4, Value.cells]
    exact ⟨0, by omega, rfl, rfl, (by simp), hS⟩
   obtain ⟨k, hk, hm, h5, hnx, hS⟩ := hI
   simp only [clob, List.foldl, n3, n4, h5]
   refine x_seq fun K10 hK10 => ?_
   refine x_seq fun K11 hK11 => ?_
   refine x_region ?_
   refine s_go (s_move) ?_
   try simp only [opv, n1, n2, n3, n4, Value.cells]
   first | refine s_go (m_fieldAddr Try.underlying67 (hi := ti65)) ?_ | refine s_go (m_fieldAddr_rd Try.underlying67 (hi := ti65) (hS := hS)) ?_ | refine s_go (m_fieldAddr_vec Try.underlying67 (hi := ti65) (hS := hS)) ?_
   try simp only [opv, n1, n2, n3, n4, Value.cells, Nat.zero_add, Nat.add_zero, List.getElem_toArray, List.getElem_cons_zero, List.getElem_cons_succ]
   refine s_go (m_load_obj Try.underlying65 (hS := hS) (hv := set_sl (by assumption) _)) ?_
   try simp only [opv, n1, n2, n3, n4, Value.cells, List.getElem_toArray, List.getElem_cons_zero, List.getElem_cons_succ]
   refine s_go (s_len_sl Try.underlying65) ?_
   try simp only [opv, n1, n2, n3, n4, Value.cells]
   refine s_go (s_lss) ?_
   try simp only [opv, n1, n2, n3, n4, Value.cells]
   refine x_nil ?_
   refine hK11 _ _ ?_
   refine x_cond (ht := fun hc3 => ?_) (hf := fun hc3 => ?_)
   ·
    try simp only [decide_eq_true_eq, decide_eq_false_iff_not, Bool.not_eq_true', Bool.not_eq_false', Int.not_lt, Int.not_le, ne_eq, Decidable.not_not, bne_iff_ne, beq_iff_eq, not_true_eq_false, not_false_eq_true] at hc3
    refine x_skip ?_
    refine hK10 _ _ ?_
    refine x_seq fun K12 hK12 => ?_
    refine x_block ?_
    refine x_seq fun K13 hK13 => ?_
    refine x_region ?_
    first | refine s_go (m_fieldAddr Try.underlying67 (hi := ti65)) ?_ | refine s_go (m_fieldAddr_rd Try.underlying67 (hi := ti65) (hS := hS)) ?_ | refine s_go (m_fieldAddr_vec Try.underlying67 (hi := ti65) (hS := hS)) ?_
    try simp only [opv, n1, n2, n3, n4, Value.cells, Nat.zero_add, Nat.add_zero, List.getElem_toArray, List.getElem_cons_zero, List.getElem_cons_succ]
    refine s_go (m_load_obj Try.underlying65 (hS := hS) (hv := set_sl (by assumption) _)) ?_
    try simp only [opv, n1, n2, n3, n4, Value.cells, List.getElem_toArray, List.getElem_cons_zero, List.getElem_cons_succ]
    refine s_go (s_move) ?_
    try simp only [opv, n1, n2, n3, n4, Value.cells]
    first | refine s_go (m_indexAddr_rd Try.underlying65 ti48 (hS := hS)) ?_ | refine s_go (m_indexAddr_vec Try.underlying65 ti48 (hS := hS)) ?_
    try simp only [opv, n1, n2, n3, n4, Value.cells, Nat.mul_one, Nat.zero_add, Int.toNat_natCast, Int.reduceToNat]
    first | refine s_go (m_load_obj Try.underlying48 (hS := hS)) ?_ | refine s_go (m_load_bx Try.underlying48 (hS := hS)) ?_ | refine s_go (m_load_rd Try.underlying48 (hS := hS)) ?_ | refine s_go (m_load_vec Try.underlying48 (hS := hS)) ?_
    try simp only [opv, n1, n2, n3, n4, Value.cells, List.getElem_toArray, List.getElem_cons_zero, List.getElem_cons_succ]
    refine s_go (s_move) ?_
    try simp only [opv, n1, n2, n3, n4, Value.cells]
    refine s_go (s_eql) ?_
    try simp only [opv, n1, n2, n3, n4, Value.cells]
    refine x_nil ?_
    refine hK13 _ _ ?_
    refine x_cond (ht := fun hc4 => ?_) (hf := fun hc4 => ?_)
    ·
     try simp only [decide_eq_true_eq, decide_eq_false_iff_not, Bool.not_eq_true', Bool.not_eq_false', Int.not_lt, Int.not_le, ne_eq, Decidable.not_not, bne_iff_ne, beq_iff_eq, not_true_eq_false, not_false_eq_true] at hc4
     have hE : decide (HasD x cl (q : Int)) = true := decide_eq_true ⟨hM, .inr (by rw [← hc4]; exact getD_mem' (by omega))⟩
     refine x_seq fun K14 hK14 => ?_
     refine x_region ?_
     refine s_go (s_assign) ?_
     try simp only [opv, n1, n2, n3, n4, Value.cells]
     refine x_nil ?_
     refine hK14 _ _ ?_
     refine x_ret ?_
     refine r_tmp rfl ?_
     exact ⟨by rw [hE]; rfl, hS.ext_of⟩
    ·
     try simp only [decide_eq_true_eq, decide_eq_false_iff_not, Bool.not_eq_true', Bool.not_eq_false', Int.not_lt, Int.not_le, ne_eq, Decidable.not_not, bne_iff_ne, beq_iff_eq, not_true_eq_false, not_false_eq_true] at hc4
     have hne : ¬ cl.getD k 0 = (q : Int) := hc4
     refine x_skip ?_
     refine hK12 _ _ ?_
     refine x_region ?_
     refine s_go (s_move) ?_
     try simp only [opv, n1, n2, n3, n4, Value.cells]
     refine s_go (s_add (hc := by first | exact wr_i64 (by omega) (by omega) | rfl)) ?_
     try simp only [opv, n1, n2, n3, n4, Value.cells]
     refine s_go (s_assign) ?_
     try simp only [opv, n1, n2, n3, n4, Value.cells]
     refine x_nil ?_
     refine loop_back (m' := cl.length - (k + 1)) (by simp only [clob, List.foldl, n1, n2, n3, n4]) ?_ ?_
     · try simp only [opv, n1, n2, n3, n4, Value.cells]
       exact ⟨k + 1, by omega, by omega, by rfl, (fun h => by rw [List.take_succ_eq_append_getElem (by omega)] at h; rcases List.mem_append.1 h with h | h; exact hnx h; rw [List.mem_singleton, ← getD_ltz (by omega)] at h; exact hne h.symm), hS⟩
     · omega
   ·
    try simp only [decide_eq_true_eq, decide_eq_false_iff_not, Bool.not_eq_true', Bool.not_eq_false', Int.not_lt, Int.not_le, ne_eq, Decidable.not_not, bne_iff_ne, beq_iff_eq, not_true_eq_false, not_false_eq_true] at hc3
    obtain rfl : k = cl.length := by omega
    rw [List.take_of_length_le (Nat.le_refl _)] at hnx
    have hE : decide (HasD x cl (q : Int)) = false := decide_eq_false (fun h => h.2.elim (fun a => by omega) hnx)
    refine x_exit (look_here ?_)
    refine hK8 _ _ ?_
    refine x_seq fun K15 hK15 => ?_
    refine x_region ?_
    refine s_go (s_assign) ?_
    try simp only [opv, n1, n2, n3, n4, Value.cells]
    refine x_nil ?_
    refine hK15 _ _ ?_
    refine x_ret ?_
    refine r_tmp rfl ?_
    exact ⟨by rw [hE]; rfl, hS.ext_of⟩
theorem c_ref13put (w0 : World) (x : List Int) (hx : VOk x) (A : Option Addr) (c : Nat) (cl : List Int) (hr : Rd w0 A 1 cl.length (List.map (Value.int .u64) cl)) (hu : U64s cl) (hn : cl.length ≤ 4000000000) (q : Nat) (hq : q < 18446744073709551616) (hP : PreS x cl)  :
    CallR Try.prog 76 #[.agg (SetC x (.slice A cl.length c)), .int .u64 (q : Int)] w0 fun v w' => ∃ (D : Option Addr) (e : Nat), v = .agg (SetC x (.slice D (putC x cl (q : Int)).length e)) ∧ UBack w0 w' A cl D (putC x cl (q : Int)) := by
 have hS := St.rd1 (S := NoB) hr
 have hxl := hx.len
 have h0l : (List.replicate 16 (0 : Int)).length = 16 := rfl
 refine c_enter (l := [.agg (SetC x (.slice A cl.length c)), .int .u64 (q : Int), undef, undef, undef, undef, undef, undef, undef, undef, undef, undef, undef, undef, undef, undef, undef, undef, undef, undef, undef, undef, undef, undef, undef, undef, undef, undef, undef, undef, undef, undef, undef, undef, undef, undef, undef, undef, undef, undef, undef, undef, undef, undef, undef, undef, undef, undef, undef, undef, undef, undef, undef, undef, undef, undef, undef, undef, undef, undef, undef, undef, undef]) Try.func76 rfl (by simp only [Try.ntmps76, List.size_toArray, List.length_cons, List.length_nil, Nat.reduceAdd, Nat.reduceSub, Array.replicate_succ, Array.replicate_zero, List.push_toArray, List.append_toArray, List.nil_append, List.cons_append]) ?_
 refine x_seq fun K1 hK1 => ?_
 refine x_region ?_
 refine m_box hS (fun w1 g1 hS => ?_)
 try simp only [opv, n1, n2, n3, n4, Value.cells, Array.toArray_toList] at hS ⊢
 obtain ⟨gba, hgba⟩ : ∃ z, z = g1 := ⟨_, rfl⟩
 rw [← hgba] at hS ⊢
 refine m_alloc ti67 hS (fun w2 g2 hS => ?_)
 try simp only [opv, n1, n2, n3, n4, Value.cells, Array.toArray_toList] at hS ⊢
 replace hS : St NoB w0 w2 (.obj g2 (.cells (SetC (List.replicate 16 0) (.slice none 0 0)) 67 (0, 0)) :: _) := hS
 obtain ⟨gbr, hgbr⟩ : ∃ z, z = g2 := ⟨_, rfl⟩
 rw [← hgbr] at hS ⊢
 refine x_nil ?_
 refine hK1 _ _ ?_
 refine x_seq fun K2 hK2 => ?_
 refine x_seq fun K3 hK3 => ?_
 refine x_region ?_
 refine s_go (s_move) ?_
 try simp only [opv, n1, n2, n3, n4, Value.cells]
 refine s_call en45 ?_
 try simp only [opv, n1, n2, n3, n4, Value.cells, List.map_toArray, List.map_cons, List.map_nil, List.append_toArray, List.cons_append, List.nil_append, Array.append_empty]
 refine CallR.mono (c_ref13May q hq _) ?_
 rintro _ w3 ⟨rfl, hE3⟩
 replace hS := hS.ext hE3
 try simp only [opv, n1, n2, n3, n4, Value.cells]
 refine s_go (s_not) ?_
 try simp only [opv, n1, n2, n3, n4, Value.cells]
 refine s_go (s_move) ?_
 try simp only [opv, n1, n2, n3, n4, Value.cells]
 refine s_part 11 rfl (fun hp1 => ?_) (fun hp1 => ?_)
 ·
  try simp only [n3, n4]
  try simp only [decide_eq_true_eq, decide_eq_false_iff_not, Bool.not_eq_true', Bool.not_eq_false', Int.not_lt, Int.not_le, ne_eq, Decidable.not_not] at hp1
  have hM : ¬ MayD (q : Int) := by simpa using hp1
  have hpe : putC x cl (q : Int) = cl := put_no (fun h => hM h.1)
  refine g_off (yi (t := 11) rfl rfl) ?_
  try simp only [opv, n1, n2, n3, n4, Value.cells]
  refine g_off (yi (t := 11) rfl rfl) ?_
  try simp only [opv, n1, n2, n3, n4, Value.cells]
  refine g_off (yi (t := 11) rfl rfl) ?_
  try simp only [opv, n1, n2, n3, n4, Value.cells]
  first | refine s_go (s_pick_t) ?_ | refine s_go (s_pick_f) ?_
  try simp only [opv, n1, n2, n3, n4, Value.cells]
  refine x_nil ?_
  refine hK3 _ _ ?_
  refine x_cond_t (h := ?_)
  try have hpe : putC x cl (q : Int) = cl := put_no (fun h => h.2 (by simpa using @c))
  refine x_seq fun K4 hK4 => ?_
  refine x_region ?_
  refine s_go (m_load_row Try.underlying67 (hi := ti67) (hS := hS) (hfit := by rw [setC_size (by assumption)])) ?_
  try simp only [opv, n1, n2, n3, n4, Value.cells, List.getElem_toArray, List.getElem_cons_zero, List.getElem_cons_succ]
  refine m_store_obj ti67 (hS := hS) (hv := setC_size (by assumption) _) (h1 := set_one _ _ _ _) (hfit := by rw [setC_size (by assumption)]; omega) (hc := set_whole (by assumption) (by assumption) _ _) (h := fun w4 hS => ?_)
  try simp only [opv, n1, n2, n3, n4, Value.cells, Array.toArray_toList] at hS ⊢
  refine x_nil ?_
  refine hK4 _ _ ?_
  refine x_ret ?_
  refine r_cell_agg rfl Try.underlying67 ti67 (hS := hS) (hfit := by rw [setC_size (by assumption)]) (hR := ?_)
  first
  | (rw [hpe]; exact ⟨_, _, rfl, uback_self hS.ext_of (hS.hasRd (by repeat (first | exact Has.head | apply Has.tail))) rfl⟩)
  | (rw [hpe, ← hpi, if_neg (by decide), show o.length + 1 = (o ++ [(q : Int)]).length by rw [List.length_append]; rfl]; rw [show o.length + 1 = (o ++ [(q : Int)]).length by rw [List.length_append]; rfl] at hS; exact ⟨_, _, rfl, uback_vec hS (by repeat (first | exact Has.head | apply Has.tail))⟩)
  | (rw [hpe, ← hpi, if_pos rfl]; exact ⟨_, _, rfl, uback_vec hS (by repeat (first | exact Has.head | apply Has.tail))⟩)
 ·
  try simp only [n3, n4]
  try simp only [decide_eq_true_eq, decide_eq_false_iff_not, Bool.not_eq_true', Bool.not_eq_false', Int.not_lt, Int.not_le, ne_eq, Decidable.not_not] at hp1
  have hM : MayD (q : Int) := by simpa using hp1
  refine g_on (yi (t := 11) rfl rfl) ?_
  refine s_go (m_load_row Try.underlying67 (hi := ti67) (hS := hS) (hfit := by rw [setC_size (by assumption)])) ?_
  try simp only [opv, n1, n2, n3, n4, Value.cells, List.getElem_toArray, List.getElem_cons_zero, List.getElem_cons_succ]
  refine g_on (yi (t := 11) rfl rfl) ?_
  refine s_go (s_move) ?_
  try simp only [opv, n1, n2, n3, n4, Value.cells]
  refine g_on (yi (t := 11) rfl rfl) ?_
  refine s_call en41 ?_
  try simp only [opv, n1, n2, n3, n4, Value.cells, List.map_toArray, List.map_cons, List.map_nil, List.append_toArray, List.cons_append, List.nil_append, Array.append_empty]
  refine CallR.mono (c_ref13Has _ x hx A c cl (hS.hasRd (by repeat (first | exact Has.head | apply Has.tail))) hu hn q hq) ?_
  rintro _ w5 ⟨rfl, hE5⟩
  replace hS := hS.ext hE5
  try simp only [opv, n1, n2, n3, n4, Value.cells]
  first | refine s_go (s_pick_t) ?_ | refine s_go (s_pick_f) ?_
  try simp only [opv, n1, n2, n3, n4, Value.cells]
  refine x_nil ?_
  refine hK3 _ _ ?_
  refine x_cond (ht := fun hc2 => ?_) (hf := fun hc2 => ?_)
  ·
   try simp only [decide_eq_true_eq, decide_eq_false_iff_not, Bool.not_eq_true', Bool.not_eq_false', Int.not_lt, Int.not_le, ne_eq, Decidable.not_not, bne_iff_ne, beq_iff_eq, not_true_eq_false, not_false_eq_true] at hc2
   try have hpe : putC x cl (q : Int) = cl := put_no (fun h => h.2 (by simpa using hc2))
   refine x_seq fun K5 hK5 => ?_
   refine x_region ?_
   refine s_go (m_load_row Try.underlying67 (hi := ti67) (hS := hS) (hfit := by rw [setC_size (by assumption)])) ?_
   try simp only [opv, n1, n2, n3, n4, Value.cells, List.getElem_toArray, List.getElem_cons_zero, List.getElem_cons_succ]
   refine m_store_obj ti67 (hS := hS) (hv := setC_size (by assumption) _) (h1 := set_one _ _ _ _) (hfit := by rw [setC_size (by assumption)]; omega) (hc := set_whole (by assumption) (by assumption) _ _) (h := fun w6 hS => ?_)
   try simp only [opv, n1, n2, n3, n4, Value.cells, Array.toArray_toList] at hS ⊢
   refine x_nil ?_
   refine hK5 _ _ ?_
   refine x_ret ?_
   refine r_cell_agg rfl Try.underlying67 ti67 (hS := hS) (hfit := by rw [setC_size (by assumption)]) (hR := ?_)
   first
   | (rw [hpe]; exact ⟨_, _, rfl, uback_self hS.ext_of (hS.hasRd (by repeat (first | exact Has.head | apply Has.tail))) rfl⟩)
   | (rw [hpe, ← hpi, if_neg (by decide), show o.length + 1 = (o ++ [(q : Int)]).length by rw [List.length_append]; rfl]; rw [show o.length + 1 = (o ++ [(q : Int)]).length by rw [List.length_append]; rfl] at hS; exact ⟨_, _, rfl, uback_vec hS (by repeat (first | exact Has.head | apply Has.tail))⟩)
   | (rw [hpe, ← hpi, if_pos rfl]; exact ⟨_, _, rfl, uback_vec hS (by repeat (first | exact Has.head | apply Has.tail))⟩)
  ·
   try simp only [decide_eq_true_eq, decide_eq_false_iff_not, Bool.not_eq_true', Bool.not_eq_false', Int.not_lt, Int.not_le, ne_eq, Decidable.not_not, bne_iff_ne, beq_iff_eq, not_true_eq_false, not_false_eq_true] at hc2
   have hpe := put_yes hP hM (by simpa using hc2)
   refine x_skip ?_
   refine hK2 _ _ ?_
   refine x_seq fun K6 hK6 => ?_
   refine x_region ?_
   first | refine s_go (m_fieldAddr Try.underlying67 (hi := ti64)) ?_ | refine s_go (m_fieldAddr_rd Try.underlying67 (hi := ti64) (hS := hS)) ?_ | refine s_go (m_fieldAddr_vec Try.underlying67 (hi := ti64) (hS := hS)) ?_
   try simp only [opv, n1, n2, n3, n4, Value.cells, Nat.zero_add, Nat.add_zero, List.getElem_toArray, List.getElem_cons_zero, List.getElem_cons_succ]
   refine s_go (m_loada_obj Try.underlying64 (hi := ti64) (hS := hS) (hfit := by rw [setC_size (by assumption)]; decide)) ?_
   try simp only [opv, n1, n2, n3, n4, Value.cells, List.getElem_toArray, List.getElem_cons_zero, List.getElem_cons_succ]
   rw [set_flo (by assumption)]
   refine s_go (s_build_struct (cells := (SetC x (.slice none 0 0))) Try.underlying67 ti67 bp67 (hc := by simp only [List.map_toArray, List.map_cons, List.map_nil, opv, n1, n2, n3, n4, Value.cells, List.toList_toArray]; exact fill_set (by rfl) hxl)) ?_
   try simp only [opv, n1, n2, n3, n4, Value.cells]
   refine m_alloc ti67 hS (fun w7 g7 hS => ?_)
   try simp only [opv, n1, n2, n3, n4, Value.cells, Array.toArray_toList] at hS ⊢
   replace hS : St NoB w0 w7 (.obj g7 (.cells (SetC (List.replicate 16 0) (.slice none 0 0)) 67 (0, 0)) :: _) := hS
   obtain ⟨gbo, hgbo⟩ : ∃ z, z = g7 := ⟨_, rfl⟩
   rw [← hgbo] at hS ⊢
   refine m_store_obj ti67 (hS := hS) (hv := setC_size (by assumption) _) (h1 := set_one _ _ _ _) (hfit := by rw [setC_size (by assumption)]; omega) (hc := set_whole (by assumption) (by assumption) _ _) (h := fun w8 hS => ?_)
   try simp only [opv, n1, n2, n3, n4, Value.cells, Array.toArray_toList] at hS ⊢
   refine x_nil ?_
   refine hK6 _ _ ?_
   refine x_seq fun K7 hK7 => ?_
   refine x_region ?_
   refine s_go (s_assign) ?_
   try simp only [opv, n1, n2, n3, n4, Value.cells]
   refine x_nil ?_
   refine hK7 _ _ ?_
   refine x_seq fun K8 hK8 => ?_
   refine x_seq fun K9 hK9 => ?_
   refine x_region ?_
   refine s_go (s_assign) ?_
   try simp only [opv, n1, n2, n3, n4, Value.cells]
   refine x_nil ?_
   refine hK9 _ _ ?_
   refine x_block ?_
   refine x_loop [6, 7, 20, 21, 22, 23, 24, 25, 26, 27, 28, 29, 30, 31, 32, 33, 34, 35, 36, 37, 38, 39, 40, 41, 42, 43, 44, 45, 46, 47, 48, 49, 50, 51, 52, 53] (fun m f w => ∃ (k : Nat) (E : Option Addr) (ec : Nat) (o : List Int) (dn : Bool), k ≤ cl.length ∧ m = cl.length - k ∧ f 7 = .int .i64 (k : Int) ∧ f 6 = .bool dn ∧ ((cl.take k).foldl (pI (q : Int)) ([], false)) = (o, dn) ∧ o.length ≤ 2 * k ∧ St NoB w0 w [.obj gbo (.cells (SetC x (.slice E o.length ec)) 67 (0, 0)), .vec E ec 48 1 o.length (List.map (Value.int .u64) o), .obj gbr (.cells (SetC (List.replicate 16 0) (.slice none 0 0)) 67 (0, 0)), .obj gba (.cells (SetC x (.slice A cl.length c)) 67 (0, 0)), .rd A 1 cl.length (List.map (Value.int .u64) cl)]) (cl.length) ?init1 (fun m1 f1 wl1 hI => ?_)
   case init1 =>
    try simp only [opv, n1, n2, n3, n4, Value.cells]
    replace hS := hS.nil_vec 48 1
    exact ⟨0, none, 0, [], false, by omega, rfl, rfl, rfl, rfl, by simp, hS.sel (by repeat (first | exact Sel.nil | (refine Sel.cons (by repeat (first | exact Del.head | apply Del.tail)) ?_)))⟩
   obtain ⟨k, E, ec, o, dn, hk, hm, h7, h6, hpo, hol, hS⟩ := hI
   simp only [clob, List.foldl, n3, n4, h7, h6]
   refine x_seq fun K10 hK10 => ?_
   refine x_seq fun K11 hK11 => ?_
   refine x_region ?_
   refine s_go (s_move) ?_
   try simp only [opv, n1, n2, n3, n4, Value.cells]
   first | refine s_go (m_fieldAddr Try.underlying67 (hi := ti65)) ?_ | refine s_go (m_fieldAddr_rd Try.underlying67 (hi := ti65) (hS := hS)) ?_ | refine s_go (m_fieldAddr_vec Try.underlying67 (hi := ti65) (hS := hS)) ?_
   try simp only [opv, n1, n2, n3, n4, Value.cells, Nat.zero_add, Nat.add_zero, List.getElem_toArray, List.getElem_cons_zero, List.getElem_cons_succ]
   refine s_go (m_load_obj Try.underlying65 (hS := hS) (hv := set_sl (by assumption) _)) ?_
   try simp only [opv, n1, n2, n3, n4, Value.cells, List.getElem_toArray, List.getElem_cons_zero, List.getElem_cons_succ]
   refine s_go (s_len_sl Try.underlying65) ?_
   try simp only [opv, n1, n2, n3, n4, Value.cells]
   refine s_go (s_lss) ?_
   try simp only [opv, n1, n2, n3, n4, Value.cells]
   refine x_nil ?_
   refine hK11 _ _ ?_
   refine x_cond (ht := fun hc3 => ?_) (hf := fun hc3 => ?_)
   ·
    try simp only [decide_eq_true_eq, decide_eq_false_iff_not, Bool.not_eq_true', Bool.not_eq_false', Int.not_lt, Int.not_le, ne_eq, Decidable.not_not, bne_iff_ne, beq_iff_eq, not_true_eq_false, not_false_eq_true] at hc3
    have hps := foldl_take (f := pI (q : Int)) (a := (([] : List Int), false)) (l := cl) (k := k) (by omega)
    rw [hpo] at hps
    obtain ⟨y, hy⟩ : ∃ y, cl.getD k 0 = y := ⟨_, rfl⟩
    rw [hy] at hps
    refine x_skip ?_
    refine hK10 _ _ ?_
    refine x_seq fun K12 hK12 => ?_
    refine x_block ?_
    refine x_seq fun K13 hK13 => ?_
    refine x_seq fun K14 hK14 => ?_
    refine x_region ?_
    refine s_go (s_move) ?_
    try simp only [opv, n1, n2, n3, n4, Value.cells]
    refine s_go (s_not) ?_
    try simp only [opv, n1, n2, n3, n4, Value.cells]
    refine s_go (s_move) ?_
    try simp only [opv, n1, n2, n3, n4, Value.cells]
    refine s_part 29 rfl (fun hp2 => ?_) (fun hp2 => ?_)
    ·
     try simp only [n3, n4]
     try simp only [decide_eq_true_eq, decide_eq_false_iff_not, Bool.not_eq_true', Bool.not_eq_false', Int.not_lt, Int.not_le, ne_eq, Decidable.not_not] at hp2
     obtain rfl : dn = false := by simpa using hp2
     refine g_on (yi (t := 29) rfl rfl) ?_
     refine s_go (s_move) ?_
     try simp only [opv, n1, n2, n3, n4, Value.cells]
     refine g_on (yi (t := 29) rfl rfl) ?_
     first | refine s_go (m_fieldAddr Try.underlying67 (hi := ti65)) ?_ | refine s_go (m_fieldAddr_rd Try.underlying67 (hi := ti65) (hS := hS)) ?_ | refine s_go (m_fieldAddr_vec Try.underlying67 (hi := ti65) (hS := hS)) ?_
     try simp only [opv, n1, n2, n3, n4, Value.cells, Nat.zero_add, Nat.add_zero, List.getElem_toArray, List.getElem_cons_zero, List.getElem_cons_succ]
     refine g_on (yi (t := 29) rfl rfl) ?_
     refine s_go (m_load_obj Try.underlying65 (hS := hS) (hv := set_sl (by assumption) _)) ?_
     try simp only [opv, n1, n2, n3, n4, Value.cells, List.getElem_toArray, List.getElem_cons_zero, List.getElem_cons_succ]
     refine g_on (yi (t := 29) rfl rfl) ?_
     refine s_go (s_move) ?_
     try simp only [opv, n1, n2, n3, n4, Value.cells]
     refine g_on (yi (t := 29) rfl rfl) ?_
     first | refine s_go (m_indexAddr_rd Try.underlying65 ti48 (hS := hS)) ?_ | refine s_go (m_indexAddr_vec Try.underlying65 ti48 (hS := hS)) ?_
     try simp only [opv, n1, n2, n3, n4, Value.cells, Nat.mul_one, Nat.zero_add, Int.toNat_natCast, Int.reduceToNat]
     refine g_on (yi (t := 29) rfl rfl) ?_
     first | refine s_go (m_load_obj Try.underlying48 (hS := hS)) ?_ | refine s_go (m_load_bx Try.underlying48 (hS := hS)) ?_ | refine s_go (m_load_rd Try.underlying48 (hS := hS)) ?_ | refine s_go (m_load_vec Try.underlying48 (hS := hS)) ?_
     try simp only [opv, n1, n2, n3, n4, Value.cells, List.getElem_toArray, List.getElem_cons_zero, List.getElem_cons_succ]
     rw [hy]
     refine g_on (yi (t := 29) rfl rfl) ?_
     refine s_go (s_lss) ?_
     try simp only [opv, n1, n2, n3, n4, Value.cells]
     first | refine s_go (s_pick_t) ?_ | refine s_go (s_pick_f) ?_
     try simp only [opv, n1, n2, n3, n4, Value.cells]
     refine x_nil ?_
     refine hK14 _ _ ?_
     refine x_cond (ht := fun hc4 => ?_) (hf := fun hc4 => ?_)
     ·
      try simp only [decide_eq_true_eq, decide_eq_false_iff_not, Bool.not_eq_true', Bool.not_eq_false', Int.not_lt, Int.not_le, ne_eq, Decidable.not_not, bne_iff_ne, beq_iff_eq, not_true_eq_false, not_false_eq_true] at hc4
      have hst2 := hps.trans (if_pos ⟨rfl, hc4⟩)
      obtain ⟨o2, ho2⟩ : ∃ z, z = o ++ [(q : Int)] := ⟨_, rfl⟩
      rw [← ho2] at hst2
      have hol2 : o2.length ≤ 2 * k + 1 := by rw [ho2, List.length_append]; simp only [List.length_cons, List.length_nil]; omega
      refine x_seq fun K15 hK15 => ?_
      refine x_region ?_
      first | refine s_go (m_fieldAddr Try.underlying67 (hi := ti65)) ?_ | refine s_go (m_fieldAddr_rd Try.underlying67 (hi := ti65) (hS := hS)) ?_ | refine s_go (m_fieldAddr_vec Try.underlying67 (hi := ti65) (hS := hS)) ?_
      try simp only [opv, n1, n2, n3, n4, Value.cells, Nat.zero_add, Nat.add_zero, List.getElem_toArray, List.getElem_cons_zero, List.getElem_cons_succ]
      refine s_go (m_load_obj Try.underlying65 (hS := hS) (hv := set_sl (by assumption) _)) ?_
      try simp only [opv, n1, n2, n3, n4, Value.cells, List.getElem_toArray, List.getElem_cons_zero, List.getElem_cons_succ]
      refine s_go (s_move) ?_
      try simp only [opv, n1, n2, n3, n4, Value.cells]
      refine m_buildRow (cells := #[_]) Try.underlying65 ti48 (hc := by simp only [List.map_toArray, List.map_cons, List.map_nil, opv, n1, n2, n3, n4, Value.cells, List.toList_toArray]; (repeat (refine fill_cons rfl rfl (Nat.le_of_ble_eq_true rfl) ?_)); rfl) (hS := hS) (h := fun w9 g9 hS => ?_)
      try simp only [opv, n1, n2, n3, n4, Value.cells, Array.toArray_toList] at hS ⊢
      replace hS := hS.obj_rd (sz := 1) (n := 1) rfl .head
      refine m_append Try.underlying65 ti48 (hS := hS) (news := [(q : Int)].map (Value.int .u64)) (h := fun w10 A10 C10 hS => ?_)
      try simp only [← List.map_append, ← List.map_drop, ← List.map_take, Nat.mul_one, Nat.zero_mul, Nat.sub_zero, List.drop_zero, List.nil_append, Nat.zero_add] at hS ⊢
      try simp only [opv, n1, n2, n3, n4, Value.cells, Array.toArray_toList] at hS ⊢
      obtain ⟨E9, hE9⟩ : ∃ z, z = A10 := ⟨_, rfl⟩
      obtain ⟨ec9, hec9⟩ : ∃ z, z = C10 := ⟨_, rfl⟩
      rw [← hE9, ← hec9] at hS ⊢
      first | refine s_go (m_fieldAddr Try.underlying67 (hi := ti65)) ?_ | refine s_go (m_fieldAddr_rd Try.underlying67 (hi := ti65) (hS := hS)) ?_ | refine s_go (m_fieldAddr_vec Try.underlying67 (hi := ti65) (hS := hS)) ?_
      try simp only [opv, n1, n2, n3, n4, Value.cells, Nat.zero_add, Nat.add_zero, List.getElem_toArray, List.getElem_cons_zero, List.getElem_cons_succ]
      refine m_store_obj ti65 (hS := hS) (hfit := by rw [setC_size (by assumption)]; omega) (hc := set_put16 (by assumption) _ _) (h := fun w11 hS => ?_)
      try simp only [opv, n1, n2, n3, n4, Value.cells, Array.toArray_toList] at hS ⊢
      try simp only [← List.map_append] at hS
      rw [← ho2, show o.length + 1 = o2.length by rw [ho2, List.length_append]; rfl] at hS
      refine x_nil ?_
      refine hK15 _ _ ?_
      refine x_region ?_
      refine s_go (s_assign) ?_
      try simp only [opv, n1, n2, n3, n4, Value.cells]
      refine x_nil ?_
      refine hK13 _ _ ?_
      refine x_mixed_c (Lc := [.obj gbo (.cells (SetC x (.slice E9 o2.length ec9)) 67 (0, 0)), .obj gbr (.cells (SetC (List.replicate 16 0) (.slice none 0 0)) 67 (0, 0)), .obj gba (.cells (SetC x (.slice A cl.length c)) 67 (0, 0)), .rd A 1 cl.length (List.map (Value.int .u64) cl)]) [10] 0 [44, 45, 46, 47, 48, 49, 50, 51, 52, 53] (fun f w => ∃ (E2 : Option Addr) (ec2 : Nat), St NoB w0 w [.obj gbo (.cells (SetC x (.slice E2 (o2 ++ [y]).length ec2)) 67 (0, 0)), .vec E2 ec2 48 1 (o2 ++ [y]).length (List.map (Value.int .u64) (o2 ++ [y])), .obj gbr (.cells (SetC (List.replicate 16 0) (.slice none 0 0)) 67 (0, 0)), .obj gba (.cells (SetC x (.slice A cl.length c)) 67 (0, 0)), .rd A 1 cl.length (List.map (Value.int .u64) cl)]) (by kernel_rfl) (by kernel_rfl) (by kernel_rfl) (by decide) hS (fun w12 hS => ?mixpre1101) ?mixrest1101
      case mixpre1101 =>
       refine p_nil ?_
       simp only [List.length_cons, List.length_nil, Nat.reduceAdd, Nat.reduceSub]
       first | refine any_go (i := 0) (by rfl) (by decide +kernel) (by decide +kernel) (by unfold noLate; decide) (go_yields w_none (fun w hS => m_fieldAddr Try.underlying67 (hi := ti65))) ?_ | refine any_go (i := 0) (by rfl) (by decide +kernel) (by decide +kernel) (by unfold noLate; decide) (go_yields w_none (fun w hS => m_fieldAddr_rd Try.underlying67 (hi := ti65) (hS := hS))) ?_ | refine any_go (i := 0) (by rfl) (by decide +kernel) (by decide +kernel) (by unfold noLate; decide) (go_yields w_none (fun w hS => m_fieldAddr_vec Try.underlying67 (hi := ti65) (hS := hS))) ?_
       try simp only [opv, n1, n2, n3, n4, Value.cells, Nat.zero_add, Nat.add_zero, List.getElem_toArray, List.getElem_cons_zero, List.getElem_cons_succ]
       refine any_go (i := 1) (by rfl) (by decide +kernel) (by decide +kernel) (by unfold noLate; decide) (go_yields w_none (fun w hS => m_load_obj Try.underlying65 (hS := hS) (hv := set_sl (by assumption) _))) ?_
       try simp only [opv, n1, n2, n3, n4, Value.cells, List.getElem_toArray, List.getElem_cons_zero, List.getElem_cons_succ]
       first | refine any_go (i := 2) (by rfl) (by decide +kernel) (by decide +kernel) (by unfold noLate; decide) (go_yields w_none (fun w hS => m_fieldAddr Try.underlying67 (hi := ti65))) ?_ | refine any_go (i := 2) (by rfl) (by decide +kernel) (by decide +kernel) (by unfold noLate; decide) (go_yields w_none (fun w hS => m_fieldAddr_rd Try.underlying67 (hi := ti65) (hS := hS))) ?_ | refine any_go (i := 2) (by rfl) (by decide +kernel) (by decide +kernel) (by unfold noLate; decide) (go_yields w_none (fun w hS => m_fieldAddr_vec Try.underlying67 (hi := ti65) (hS := hS))) ?_
       try simp only [opv, n1, n2, n3, n4, Value.cells, Nat.zero_add, Nat.add_zero, List.getElem_toArray, List.getElem_cons_zero, List.getElem_cons_succ]
       refine any_go (i := 3) (by rfl) (by decide +kernel) (by decide +kernel) (by unfold noLate; decide) (go_yields w_none (fun w hS => m_load_obj Try.underlying65 (hS := hS) (hv := set_sl (by assumption) _))) ?_
       try simp only [opv, n1, n2, n3, n4, Value.cells, List.getElem_toArray, List.getElem_cons_zero, List.getElem_cons_succ]
       refine any_go (i := 4) (by rfl) (by decide +kernel) (by decide +kernel) (by unfold noLate; decide) (go_yields w_none (fun w hS => s_move)) ?_
       try simp only [opv, n1, n2, n3, n4, Value.cells]
       first | refine any_go (i := 5) (by rfl) (by decide +kernel) (by decide +kernel) (by unfold noLate; decide) (go_yields w_none (fun w hS => m_indexAddr_rd Try.underlying65 ti48 (hS := hS))) ?_ | refine any_go (i := 5) (by rfl) (by decide +kernel) (by decide +kernel) (by unfold noLate; decide) (go_yields w_none (fun w hS => m_indexAddr_vec Try.underlying65 ti48 (hS := hS))) ?_
       try simp only [opv, n1, n2, n3, n4, Value.cells, Nat.mul_one, Nat.zero_add, Int.toNat_natCast, Int.reduceToNat]
       first | refine any_go (i := 6) (by rfl) (by decide +kernel) (by decide +kernel) (by unfold noLate; decide) (go_yields w_none (fun w hS => m_load_obj Try.underlying48 (hS := hS))) ?_ | refine any_go (i := 6) (by rfl) (by decide +kernel) (by decide +kernel) (by unfold noLate; decide) (go_yields w_none (fun w hS => m_load_bx Try.underlying48 (hS := hS))) ?_ | refine any_go (i := 6) (by rfl) (by decide +kernel) (by decide +kernel) (by unfold noLate; decide) (go_yields w_none (fun w hS => m_load_rd Try.underlying48 (hS := hS))) ?_ | refine any_go (i := 6) (by rfl) (by decide +kernel) (by decide +kernel) (by unfold noLate; decide) (go_yields w_none (fun w hS => m_load_vec Try.underlying48 (hS := hS))) ?_
       try simp only [opv, n1, n2, n3, n4, Value.cells, List.getElem_toArray, List.getElem_cons_zero, List.getElem_cons_succ]
       rw [hy]
       refine any_step [7] (by kernel_rfl) (by decide) (fun w13 hE => ⟨fun _ => (hS.ext hE).sel (by repeat (first | exact Sel.nil | (refine Sel.cons (by repeat (first | exact Del.head | apply Del.tail)) ?_))), ?_⟩)
       replace hS := hS.ext hE
       intro i hi
       simp only [List.mem_cons, List.not_mem_nil, or_false] at hi
       subst hi
       ·
        refine any_op (by rfl) ?_
        refine m_buildRow (cells := #[_]) Try.underlying65 ti48 (hc := by simp only [List.map_toArray, List.map_cons, List.map_nil, opv, n1, n2, n3, n4, Value.cells, List.toList_toArray]; (repeat (refine fill_cons rfl rfl (Nat.le_of_ble_eq_true rfl) ?_)); rfl) (hS := hS) (h := fun w14 g14 hS => ?_)
        try simp only [opv, n1, n2, n3, n4, Value.cells, Array.toArray_toList] at hS ⊢
        replace hS := hS.obj_rd (sz := 1) (n := 1) rfl .head
        refine x_nil ?_
        refine any_step [8] (by kernel_rfl) (by decide) (fun w15 hE => ⟨fun _ => (hS.ext hE).sel (by repeat (first | exact Sel.nil | (refine Sel.cons (by repeat (first | exact Del.head | apply Del.tail)) ?_))), ?_⟩)
        replace hS := hS.ext hE
        intro i hi
        simp only [List.mem_cons, List.not_mem_nil, or_false] at hi
        subst hi
        ·
         refine any_op (by rfl) ?_
         refine m_append Try.underlying65 ti48 (hS := hS) (news := [y].map (Value.int .u64)) (h := fun w16 A16 C16 hS => ?_)
         try simp only [← List.map_append, ← List.map_drop, ← List.map_take, Nat.mul_one, Nat.zero_mul, Nat.sub_zero, List.drop_zero, List.nil_append, Nat.zero_add] at hS ⊢
         try simp only [opv, n1, n2, n3, n4, Value.cells, Array.toArray_toList] at hS ⊢
         refine x_nil ?_
         first | refine any_go (i := 9) (by rfl) (by decide +kernel) (by decide +kernel) (by unfold noLate; decide) (go_yields w_none (fun w hS => m_fieldAddr Try.underlying67 (hi := ti65))) ?_ | refine any_go (i := 9) (by rfl) (by decide +kernel) (by decide +kernel) (by unfold noLate; decide) (go_yields w_none (fun w hS => m_fieldAddr_rd Try.underlying67 (hi := ti65) (hS := hS))) ?_ | refine any_go (i := 9) (by rfl) (by decide +kernel) (by decide +kernel) (by unfold noLate; decide) (go_yields w_none (fun w hS => m_fieldAddr_vec Try.underlying67 (hi := ti65) (hS := hS))) ?_
         try simp only [opv, n1, n2, n3, n4, Value.cells, Nat.zero_add, Nat.add_zero, List.getElem_toArray, List.getElem_cons_zero, List.getElem_cons_succ]
         refine any_step [10] (by kernel_rfl) (by decide) (fun w17 hE => ⟨fun _ => (hS.ext hE).sel (by repeat (first | exact Sel.nil | (refine Sel.cons (by repeat (first | exact Del.head | apply Del.tail)) ?_))), ?_⟩)
         replace hS := hS.ext hE
         intro i hi
         simp only [List.mem_cons, List.not_mem_nil, or_false] at hi
         subst hi
         ·
          refine any_op (by rfl) ?_
          refine m_store_obj ti65 (hS := hS) (hfit := by rw [setC_size (by assumption)]; omega) (hc := set_put16 (by assumption) _ _) (h := fun w18 hS => ?_)
          try simp only [opv, n1, n2, n3, n4, Value.cells, Array.toArray_toList] at hS ⊢
          refine x_nil ?_
          refine any_nil (by kernel_rfl) (fun w19 hE => ?_)
          replace hS := hS.ext hE
          refine ⟨fun hl => absurd (hl 10 (by decide)) (by decide +kernel), ?_⟩
          refine mix_leaf (by simp only [clob, List.foldl, n1, n2, n3, n4]) ?_
          try simp only [n1, n2]
          rw [show o2.length + 1 = (o2 ++ [y]).length by rw [List.length_append]; rfl] at hS
          exact ⟨_, _, hS.sel (by repeat (first | exact Sel.nil | (refine Sel.cons (by repeat (first | exact Del.head | apply Del.tail)) ?_)))⟩
      intro fm1 w20 hM
      obtain ⟨E2, ec2, hS⟩ := hM
      simp only [clob, List.foldl, n3, n4]
      refine hK12 _ _ ?_
      refine x_region ?_
      refine s_go (s_move) ?_
      try simp only [opv, n1, n2, n3, n4, Value.cells]
      refine s_go (s_add (hc := by first | exact wr_i64 (by omega) (by omega) | rfl)) ?_
      try simp only [opv, n1, n2, n3, n4, Value.cells]
      refine s_go (s_assign) ?_
      try simp only [opv, n1, n2, n3, n4, Value.cells]
      refine x_nil ?_
      refine loop_back (m' := cl.length - (k + 1)) (by simp only [clob, List.foldl, n1, n2, n3, n4]) ?_ ?_
      · try simp only [opv, n1, n2, n3, n4, Value.cells]
        exact ⟨k + 1, _, _, o2 ++ [y], _, by omega, by omega, by rfl, by rfl, hst2, by simp only [List.length_append, List.length_cons, List.length_nil]; omega, hS.sel (by repeat (first | exact Sel.nil | (refine Sel.cons (by repeat (first | exact Del.head | apply Del.tail)) ?_)))⟩
      · omega
     ·
      try simp only [decide_eq_true_eq, decide_eq_false_iff_not, Bool.not_eq_true', Bool.not_eq_false', Int.not_lt, Int.not_le, ne_eq, Decidable.not_not, bne_iff_ne, beq_iff_eq, not_true_eq_false, not_false_eq_true] at hc4
      try have hst2 := hps.trans (if_neg (fun h => by have := h.2; omega))
      obtain ⟨o2, ho2⟩ : ∃ z, z = o := ⟨_, rfl⟩
      rw [← ho2] at hst2 hS
      have hol2 : o2.length ≤ 2 * k + 1 := by rw [ho2]; omega
      obtain ⟨E9, hE9⟩ : ∃ z, z = E := ⟨_, rfl⟩
      obtain ⟨ec9, hec9⟩ : ∃ z, z = ec := ⟨_, rfl⟩
      rw [← hE9, ← hec9] at hS
      refine x_skip ?_
      refine hK13 _ _ ?_
      refine x_mixed_c (Lc := [.obj gbo (.cells (SetC x (.slice E9 o2.length ec9)) 67 (0, 0)), .obj gbr (.cells (SetC (List.replicate 16 0) (.slice none 0 0)) 67 (0, 0)), .obj gba (.cells (SetC x (.slice A cl.length c)) 67 (0, 0)), .rd A 1 cl.length (List.map (Value.int .u64) cl)]) [10] 0 [44, 45, 46, 47, 48, 49, 50, 51, 52, 53] (fun f w => ∃ (E2 : Option Addr) (ec2 : Nat), St NoB w0 w [.obj gbo (.cells (SetC x (.slice E2 (o2 ++ [y]).length ec2)) 67 (0, 0)), .vec E2 ec2 48 1 (o2 ++ [y]).length (List.map (Value.int .u64) (o2 ++ [y])), .obj gbr (.cells (SetC (List.replicate 16 0) (.slice none 0 0)) 67 (0, 0)), .obj gba (.cells (SetC x (.slice A cl.length c)) 67 (0, 0)), .rd A 1 cl.length (List.map (Value.int .u64) cl)]) (by kernel_rfl) (by kernel_rfl) (by kernel_rfl) (by decide) hS (fun w21 hS => ?mixpre1102) ?mixrest1102
      case mixpre1102 =>
       refine p_nil ?_
       simp only [List.length_cons, List.length_nil, Nat.reduceAdd, Nat.reduceSub]
       first | refine any_go (i := 0) (by rfl) (by decide +kernel) (by decide +kernel) (by unfold noLate; decide) (go_yields w_none (fun w hS => m_fieldAddr Try.underlying67 (hi := ti65))) ?_ | refine any_go (i := 0) (by rfl) (by decide +kernel) (by decide +kernel) (by unfold noLate; decide) (go_yields w_none (fun w hS => m_fieldAddr_rd Try.underlying67 (hi := ti65) (hS := hS))) ?_ | refine any_go (i := 0) (by rfl) (by decide +kernel) (by decide +kernel) (by unfold noLate; decide) (go_yields w_none (fun w hS => m_fieldAddr_vec Try.underlying67 (hi := ti65) (hS := hS))) ?_
       try simp only [opv, n1, n2, n3, n4, Value.cells, Nat.zero_add, Nat.add_zero, List.getElem_toArray, List.getElem_cons_zero, List.getElem_cons_succ]
       refine any_go (i := 1) (by rfl) (by decide +kernel) (by decide +kernel) (by unfold noLate; decide) (go_yields w_none (fun w hS => m_load_obj Try.underlying65 (hS := hS) (hv := set_sl (by assumption) _))) ?_
       try simp only [opv, n1, n2, n3, n4, Value.cells, List.getElem_toArray, List.getElem_cons_zero, List.getElem_cons_succ]
       first | refine any_go (i := 2) (by rfl) (by decide +kernel) (by decide +kernel) (by unfold noLate; decide) (go_yields w_none (fun w hS => m_fieldAddr Try.underlying67 (hi := ti65))) ?_ | refine any_go (i := 2) (by rfl) (by decide +kernel) (by decide +kernel) (by unfold noLate; decide) (go_yields w_none (fun w hS => m_fieldAddr_rd Try.underlying67 (hi := ti65) (hS := hS))) ?_ | refine any_go (i := 2) (by rfl) (by decide +kernel) (by decide +kernel) (by unfold noLate; decide) (go_yields w_none (fun w hS => m_fieldAddr_vec Try.underlying67 (hi := ti65) (hS := hS))) ?_
       try simp only [opv, n1, n2, n3, n4, Value.cells, Nat.zero_add, Nat.add_zero, List.getElem_toArray, List.getElem_cons_zero, List.getElem_cons_succ]
       refine any_go (i := 3) (by rfl) (by decide +kernel) (by decide +kernel) (by unfold noLate; decide) (go_yields w_none (fun w hS => m_load_obj Try.underlying65 (hS := hS) (hv := set_sl (by assumption) _))) ?_
       try simp only [opv, n1, n2, n3, n4, Value.cells, List.getElem_toArray, List.getElem_cons_zero, List.getElem_cons_succ]
       refine any_go (i := 4) (by rfl) (by decide +kernel) (by decide +kernel) (by unfold noLate; decide) (go_yields w_none (fun w hS => s_move)) ?_
       try simp only [opv, n1, n2, n3, n4, Value.cells]
       first | refine any_go (i := 5) (by rfl) (by decide +kernel) (by decide +kernel) (by unfold noLate; decide) (go_yields w_none (fun w hS => m_indexAddr_rd Try.underlying65 ti48 (hS := hS))) ?_ | refine any_go (i := 5) (by rfl) (by decide +kernel) (by decide +kernel) (by unfold noLate; decide) (go_yields w_none (fun w hS => m_indexAddr_vec Try.underlying65 ti48 (hS := hS))) ?_
       try simp only [opv, n1, n2, n3, n4, Value.cells, Nat.mul_one, Nat.zero_add, Int.toNat_natCast, Int.reduceToNat]
       first | refine any_go (i := 6) (by rfl) (by decide +kernel) (by decide +kernel) (by unfold noLate; decide) (go_yields w_none (fun w hS => m_load_obj Try.underlying48 (hS := hS))) ?_ | refine any_go (i := 6) (by rfl) (by decide +kernel) (by decide +kernel) (by unfold noLate; decide) (go_yields w_none (fun w hS => m_load_bx Try.underlying48 (hS := hS))) ?_ | refine any_go (i := 6) (by rfl) (by decide +kernel) (by decide +kernel) (by unfold noLate; decide) (go_yields w_none (fun w hS => m_load_rd Try.underlying48 (hS := hS))) ?_ | refine any_go (i := 6) (by rfl) (by decide +kernel) (by decide +kernel) (by unfold noLate; decide) (go_yields w_none (fun w hS => m_load_vec Try.underlying48 (hS := hS))) ?_
       try simp only [opv, n1, n2, n3, n4, Value.cells, List.getElem_toArray, List.getElem_cons_zero, List.getElem_cons_succ]
       rw [hy]
       refine any_step [7] (by kernel_rfl) (by decide) (fun w22 hE => ⟨fun _ => (hS.ext hE).sel (by repeat (first | exact Sel.nil | (refine Sel.cons (by repeat (first | exact Del.head | apply Del.tail)) ?_))), ?_⟩)
       replace hS := hS.ext hE
       intro i hi
       simp only [List.mem_cons, List.not_mem_nil, or_false] at hi
       subst hi
       ·
        refine any_op (by rfl) ?_
        refine m_buildRow (cells := #[_]) Try.underlying65 ti48 (hc := by simp only [List.map_toArray, List.map_cons, List.map_nil, opv, n1, n2, n3, n4, Value.cells, List.toList_toArray]; (repeat (refine fill_cons rfl rfl (Nat.le_of_ble_eq_true rfl) ?_)); rfl) (hS := hS) (h := fun w23 g23 hS => ?_)
        try simp only [opv, n1, n2, n3, n4, Value.cells, Array.toArray_toList] at hS ⊢
        replace hS := hS.obj_rd (sz := 1) (n := 1) rfl .head
        refine x_nil ?_
        refine any_step [8] (by kernel_rfl) (by decide) (fun w24 hE => ⟨fun _ => (hS.ext hE).sel (by repeat (first | exact Sel.nil | (refine Sel.cons (by repeat (first | exact Del.head | apply Del.tail)) ?_))), ?_⟩)
        replace hS := hS.ext hE
        intro i hi
        simp only [List.mem_cons, List.not_mem_nil, or_false] at hi
        subst hi
        ·
         refine any_op (by rfl) ?_
         refine m_append Try.underlying65 ti48 (hS := hS) (news := [y].map (Value.int .u64)) (h := fun w25 A25 C25 hS => ?_)
         try simp only [← List.map_append, ← List.map_drop, ← List.map_take, Nat.mul_one, Nat.zero_mul, Nat.sub_zero, List.drop_zero, List.nil_append, Nat.zero_add] at hS ⊢
         try simp only [opv, n1, n2, n3, n4, Value.cells, Array.toArray_toList] at hS ⊢
         refine x_nil ?_
         first | refine any_go (i := 9) (by rfl) (by decide +kernel) (by decide +kernel) (by unfold noLate; decide) (go_yields w_none (fun w hS => m_fieldAddr Try.underlying67 (hi := ti65))) ?_ | refine any_go (i := 9) (by rfl) (by decide +kernel) (by decide +kernel) (by unfold noLate; decide) (go_yields w_none (fun w hS => m_fieldAddr_rd Try.underlying67 (hi := ti65) (hS := hS))) ?_ | refine any_go (i := 9) (by rfl) (by decide +kernel) (by decide +kernel) (by unfold noLate; decide) (go_yields w_none (fun w hS => m_fieldAddr_vec Try.underlying67 (hi := ti65) (hS := hS))) ?_
         try simp only [opv, n1, n2, n3, n4, Value.cells, Nat.zero_add, Nat.add_zero, List.getElem_toArray, List.getElem_cons_zero, List.getElem_cons_succ]
         refine any_step [10] (by kernel_rfl) (by decide) (fun w26 hE => ⟨fun _ => (hS.ext hE).sel (by repeat (first | exact Sel.nil | (refine Sel.cons (by repeat (first | exact Del.head | apply Del.tail)) ?_))), ?_⟩)
         replace hS := hS.ext hE
         intro i hi
         simp only [List.mem_cons, List.not_mem_nil, or_false] at hi
         subst hi
         ·
          refine any_op (by rfl) ?_
          refine m_store_obj ti65 (hS := hS) (hfit := by rw [setC_size (by assumption)]; omega) (hc := set_put16 (by assumption) _ _) (h := fun w27 hS => ?_)
          try simp only [opv, n1, n2, n3, n4, Value.cells, Array.toArray_toList] at hS ⊢
          refine x_nil ?_
          refine any_nil (by kernel_rfl) (fun w28 hE => ?_)
          replace hS := hS.ext hE
          refine ⟨fun hl => absurd (hl 10 (by decide)) (by decide +kernel), ?_⟩
          refine mix_leaf (by simp only [clob, List.foldl, n1, n2, n3, n4]) ?_
          try simp only [n1, n2]
          rw [show o2.length + 1 = (o2 ++ [y]).length by rw [List.length_append]; rfl] at hS
          exact ⟨_, _, hS.sel (by repeat (first | exact Sel.nil | (refine Sel.cons (by repeat (first | exact Del.head | apply Del.tail)) ?_)))⟩
      intro fm2 w29 hM
      obtain ⟨E2, ec2, hS⟩ := hM
      simp only [clob, List.foldl, n3, n4]
      refine hK12 _ _ ?_
      refine x_region ?_
      refine s_go (s_move) ?_
      try simp only [opv, n1, n2, n3, n4, Value.cells]
      refine s_go (s_add (hc := by first | exact wr_i64 (by omega) (by omega) | rfl)) ?_
      try simp only [opv, n1, n2, n3, n4, Value.cells]
      refine s_go (s_assign) ?_
      try simp only [opv, n1, n2, n3, n4, Value.cells]
      refine x_nil ?_
      refine loop_back (m' := cl.length - (k + 1)) (by simp only [clob, List.foldl, n1, n2, n3, n4]) ?_ ?_
      · try simp only [opv, n1, n2, n3, n4, Value.cells]
        exact ⟨k + 1, _, _, o2 ++ [y], _, by omega, by omega, by rfl, by rfl, hst2, by simp only [List.length_append, List.length_cons, List.length_nil]; omega, hS.sel (by repeat (first | exact Sel.nil | (refine Sel.cons (by repeat (first | exact Del.head | apply Del.tail)) ?_)))⟩
      · omega
    ·
     try simp only [n3, n4]
     try simp only [decide_eq_true_eq, decide_eq_false_iff_not, Bool.not_eq_true', Bool.not_eq_false', Int.not_lt, Int.not_le, ne_eq, Decidable.not_not] at hp2
     obtain rfl : dn = true := by simpa using hp2
     have hst2 := hps.trans (if_neg (by simp))
     refine g_off (yi (t := 29) rfl rfl) ?_
     try simp only [opv, n1, n2, n3, n4, Value.cells]
     refine g_off (yi (t := 29) rfl rfl) ?_
     try simp only [opv, n1, n2, n3, n4, Value.cells]
     refine g_off (yi (t := 29) rfl rfl) ?_
     try simp only [opv, n1, n2, n3, n4, Value.cells]
     refine g_off (yi (t := 29) rfl rfl) ?_
     try simp only [opv, n1, n2, n3, n4, Value.cells]
     refine g_off (yi (t := 29) rfl rfl) ?_
     try simp only [opv, n1, n2, n3, n4, Value.cells]
     refine g_off (yi (t := 29) rfl rfl) ?_
     try simp only [opv, n1, n2, n3, n4, Value.cells]
     refine g_off (yi (t := 29) rfl rfl) ?_
     try simp only [opv, n1, n2, n3, n4, Value.cells]
     first | refine s_go (s_pick_t) ?_ | refine s_go (s_pick_f) ?_
     try simp only [opv, n1, n2, n3, n4, Value.cells]
     refine x_nil ?_
     refine hK14 _ _ ?_
     refine x_cond_f (h := ?_)
     try have hst2 := hps.trans (if_neg (fun h => by have := h.2; omega))
     obtain ⟨o2, ho2⟩ : ∃ z, z = o := ⟨_, rfl⟩
     rw [← ho2] at hst2 hS
     have hol2 : o2.length ≤ 2 * k + 1 := by rw [ho2]; omega
     obtain ⟨E9, hE9⟩ : ∃ z, z = E := ⟨_, rfl⟩
     obtain ⟨ec9, hec9⟩ : ∃ z, z = ec := ⟨_, rfl⟩
     rw [← hE9, ← hec9] at hS
     refine x_skip ?_
     refine hK13 _ _ ?_
     refine x_mixed_c (Lc := [.obj gbo (.cells (SetC x (.slice E9 o2.length ec9)) 67 (0, 0)), .obj gbr (.cells (SetC (List.replicate 16 0) (.slice none 0 0)) 67 (0, 0)), .obj gba (.cells (SetC x (.slice A cl.length c)) 67 (0, 0)), .rd A 1 cl.length (List.map (Value.int .u64) cl)]) [10] 0 [44, 45, 46, 47, 48, 49, 50, 51, 52, 53] (fun f w => ∃ (E2 : Option Addr) (ec2 : Nat), St NoB w0 w [.obj gbo (.cells (SetC x (.slice E2 (o2 ++ [y]).length ec2)) 67 (0, 0)), .vec E2 ec2 48 1 (o2 ++ [y]).length (List.map (Value.int .u64) (o2 ++ [y])), .obj gbr (.cells (SetC (List.replicate 16 0) (.slice none 0 0)) 67 (0, 0)), .obj gba (.cells (SetC x (.slice A cl.length c)) 67 (0, 0)), .rd A 1 cl.length (List.map (Value.int .u64) cl)]) (by kernel_rfl) (by kernel_rfl) (by kernel_rfl) (by decide) hS (fun w30 hS => ?mixpre1103) ?mixrest1103
     case mixpre1103 =>
      refine p_nil ?_
      simp only [List.length_cons, List.length_nil, Nat.reduceAdd, Nat.reduceSub]
      first | refine any_go (i := 0) (by rfl) (by decide +kernel) (by decide +kernel) (by unfold noLate; decide) (go_yields w_none (fun w hS => m_fieldAddr Try.underlying67 (hi := ti65))) ?_ | refine any_go (i := 0) (by rfl) (by decide +kernel) (by decide +kernel) (by unfold noLate; decide) (go_yields w_none (fun w hS => m_fieldAddr_rd Try.underlying67 (hi := ti65) (hS := hS))) ?_ | refine any_go (i := 0) (by rfl) (by decide +kernel) (by decide +kernel) (by unfold noLate; decide) (go_yields w_none (fun w hS => m_fieldAddr_vec Try.underlying67 (hi := ti65) (hS := hS))) ?_
      try simp only [opv, n1, n2, n3, n4, Value.cells, Nat.zero_add, Nat.add_zero, List.getElem_toArray, List.getElem_cons_zero, List.getElem_cons_succ]
      refine any_go (i := 1) (by rfl) (by decide +kernel) (by decide +kernel) (by unfold noLate; decide) (go_yields w_none (fun w hS => m_load_obj Try.underlying65 (hS := hS) (hv := set_sl (by assumption) _))) ?_
      try simp only [opv, n1, n2, n3, n4, Value.cells, List.getElem_toArray, List.getElem_cons_zero, List.getElem_cons_succ]
      first | refine any_go (i := 2) (by rfl) (by decide +kernel) (by decide +kernel) (by unfold noLate; decide) (go_yields w_none (fun w hS => m_fieldAddr Try.underlying67 (hi := ti65))) ?_ | refine any_go (i := 2) (by rfl) (by decide +kernel) (by decide +kernel) (by unfold noLate; decide) (go_yields w_none (fun w hS => m_fieldAddr_rd Try.underlying67 (hi := ti65) (hS := hS))) ?_ | refine any_go (i := 2) (by rfl) (by decide +kernel) (by decide +kernel) (by unfold noLate; decide) (go_yields w_none (fun w hS => m_fieldAddr_vec Try.underlying67 (hi := ti65) (hS := hS))) ?_
      try simp only [opv, n1, n2, n3, n4, Value.cells, Nat.zero_add, Nat.add_zero, List.getElem_toArray, List.getElem_cons_zero, List.getElem_cons_succ]
      refine any_go (i := 3) (by rfl) (by decide +kernel) (by decide +kernel) (by unfold noLate; decide) (go_yields w_none (fun w hS => m_load_obj Try.underlying65 (hS := hS) (hv := set_sl (by assumption) _))) ?_
      try simp only [opv, n1, n2, n3, n4, Value.cells, List.getElem_toArray, List.getElem_cons_zero, List.getElem_cons_succ]
      refine any_go (i := 4) (by rfl) (by decide +kernel) (by decide +kernel) (by unfold noLate; decide) (go_yields w_none (fun w hS => s_move)) ?_
      try simp only [opv, n1, n2, n3, n4, Value.cells]
      first | refine any_go (i := 5) (by rfl) (by decide +kernel) (by decide +kernel) (by unfold noLate; decide) (go_yields w_none (fun w hS => m_indexAddr_rd Try.underlying65 ti48 (hS := hS))) ?_ | refine any_go (i := 5) (by rfl) (by decide +kernel) (by decide +kernel) (by unfold noLate; decide) (go_yields w_none (fun w hS => m_indexAddr_vec Try.underlying65 ti48 (hS := hS))) ?_
      try simp only [opv, n1, n2, n3, n4, Value.cells, Nat.mul_one, Nat.zero_add, Int.toNat_natCast, Int.reduceToNat]
      first | refine any_go (i := 6) (by rfl) (by decide +kernel) (by decide +kernel) (by unfold noLate; decide) (go_yields w_none (fun w hS => m_load_obj Try.underlying48 (hS := hS))) ?_ | refine any_go (i := 6) (by rfl) (by decide +kernel) (by decide +kernel) (by unfold noLate; decide) (go_yields w_none (fun w hS => m_load_bx Try.underlying48 (hS := hS))) ?_ | refine any_go (i := 6) (by rfl) (by decide +kernel) (by decide +kernel) (by unfold noLate; decide) (go_yields w_none (fun w hS => m_load_rd Try.underlying48 (hS := hS))) ?_ | refine any_go (i := 6) (by rfl) (by decide +kernel) (by decide +kernel) (by unfold noLate; decide) (go_yields w_none (fun w hS => m_load_vec Try.underlying48 (hS := hS))) ?_
      try simp only [opv, n1, n2, n3, n4, Value.cells, List.getElem_toArray, List.getElem_cons_zero, List.getElem_cons_succ]
      rw [hy]
      refine any_step [7] (by kernel_rfl) (by decide) (fun w31 hE => ⟨fun _ => (hS.ext hE).sel (by repeat (first | exact Sel.nil | (refine Sel.cons (by repeat (first | exact Del.head | apply Del.tail)) ?_))), ?_⟩)
      replace hS := hS.ext hE
      intro i hi
      simp only [List.mem_cons, List.not_mem_nil, or_false] at hi
      subst hi
      ·
       refine any_op (by rfl) ?_
       refine m_buildRow (cells := #[_]) Try.underlying65 ti48 (hc := by simp only [List.map_toArray, List.map_cons, List.map_nil, opv, n1, n2, n3, n4, Value.cells, List.toList_toArray]; (repeat (refine fill_cons rfl rfl (Nat.le_of_ble_eq_true rfl) ?_)); rfl) (hS := hS) (h := fun w32 g32 hS => ?_)
       try simp only [opv, n1, n2, n3, n4, Value.cells, Array.toArray_toList] at hS ⊢
       replace hS := hS.obj_rd (sz := 1) (n := 1) rfl .head
       refine x_nil ?_
       refine any_step [8] (by kernel_rfl) (by decide) (fun w33 hE => ⟨fun _ => (hS.ext hE).sel (by repeat (first | exact Sel.nil | (refine Sel.cons (by repeat (first | exact Del.head | apply Del.tail)) ?_))), ?_⟩)
       replace hS := hS.ext hE
       intro i hi
       simp only [List.mem_cons, List.not_mem_nil, or_false] at hi
       subst hi
       ·
        refine any_op (by rfl) ?_
        refine m_append Try.underlying65 ti48 (hS := hS) (news := [y].map (Value.int .u64)) (h := fun w34 A34 C34 hS => ?_)
        try simp only [← List.map_append, ← List.map_drop, ← List.map_take, Nat.mul_one, Nat.zero_mul, Nat.sub_zero, List.drop_zero, List.nil_append, Nat.zero_add] at hS ⊢
        try simp only [opv, n1, n2, n3, n4, Value.cells, Array.toArray_toList] at hS ⊢
        refine x_nil ?_
        first | refine any_go (i := 9) (by rfl) (by decide +kernel) (by decide +kernel) (by unfold noLate; decide) (go_yields w_none (fun w hS => m_fieldAddr Try.underlying67 (hi := ti65))) ?_ | refine any_go (i := 9) (by rfl) (by decide +kernel) (by decide +kernel) (by unfold noLate; decide) (go_yields w_none (fun w hS => m_fieldAddr_rd Try.underlying67 (hi := ti65) (hS := hS))) ?_ | refine any_go (i := 9) (by rfl) (by decide +kernel) (by decide +kernel) (by unfold noLate; decide) (go_yields w_none (fun w hS => m_fieldAddr_vec Try.underlying67 (hi := ti65) (hS := hS))) ?_
        try simp only [opv, n1, n2, n3, n4, Value.cells, Nat.zero_add, Nat.add_zero, List.getElem_toArray, List.getElem_cons_zero, List.getElem_cons_succ]
        refine any_step [10] (by kernel_rfl) (by decide) (fun w35 hE => ⟨fun _ => (hS.ext hE).sel (by repeat (first | exact Sel.nil | (refine Sel.cons (by repeat (first | exact Del.head | apply Del.tail)) ?_))), ?_⟩)
        replace hS := hS.ext hE
        intro i hi
        simp only [List.mem_cons, List.not_mem_nil, or_false] at hi
        subst hi
        ·
         refine any_op (by rfl) ?_
         refine m_store_obj ti65 (hS := hS) (hfit := by rw [setC_size (by assumption)]; omega) (hc := set_put16 (by assumption) _ _) (h := fun w36 hS => ?_)
         try simp only [opv, n1, n2, n3, n4, Value.cells, Array.toArray_toList] at hS ⊢
         refine x_nil ?_
         refine any_nil (by kernel_rfl) (fun w37 hE => ?_)
         replace hS := hS.ext hE
         refine ⟨fun hl => absurd (hl 10 (by decide)) (by decide +kernel), ?_⟩
         refine mix_leaf (by simp only [clob, List.foldl, n1, n2, n3, n4]) ?_
         try simp only [n1, n2]
         rw [show o2.length + 1 = (o2 ++ [y]).length by rw [List.length_append]; rfl] at hS
         exact ⟨_, _, hS.sel (by repeat (first | exact Sel.nil | (refine Sel.cons (by repeat (first | exact Del.head | apply Del.tail)) ?_)))⟩
     intro fm3 w38 hM
     obtain ⟨E2, ec2, hS⟩ := hM
     simp only [clob, List.foldl, n3, n4]
     refine hK12 _ _ ?_
     refine x_region ?_
     refine s_go (s_move) ?_
     try simp only [opv, n1, n2, n3, n4, Value.cells]
     refine s_go (s_add (hc := by first | exact wr_i64 (by omega) (by omega) | rfl)) ?_
     try simp only [opv, n1, n2, n3, n4, Value.cells]
     refine s_go (s_assign) ?_
     try simp only [opv, n1, n2, n3, n4, Value.cells]
     refine x_nil ?_
     refine loop_back (m' := cl.length - (k + 1)) (by simp only [clob, List.foldl, n1, n2, n3, n4]) ?_ ?_
     · try simp only [opv, n1, n2, n3, n4, Value.cells]
       exact ⟨k + 1, _, _, o2 ++ [y], _, by omega, by omega, by rfl, by rfl, hst2, by simp only [List.length_append, List.length_cons, List.length_nil]; omega, hS.sel (by repeat (first | exact Sel.nil | (refine Sel.cons (by repeat (first | exact Del.head | apply Del.tail)) ?_)))⟩
     · omega
   ·
    try simp only [decide_eq_true_eq, decide_eq_false_iff_not, Bool.not_eq_true', Bool.not_eq_false', Int.not_lt, Int.not_le, ne_eq, Decidable.not_not, bne_iff_ne, beq_iff_eq, not_true_eq_false, not_false_eq_true] at hc3
    obtain rfl : k = cl.length := by omega
    rw [List.take_of_length_le (Nat.le_refl _)] at hpo
    have hpi := pI_ins (q : Int) cl []
    rw [hpo] at hpi
    simp only [List.nil_append] at hpi
    refine x_exit (look_here ?_)
    refine hK8 _ _ ?_
    refine x_seq fun K16 hK16 => ?_
    refine x_seq fun K17 hK17 => ?_
    refine x_region ?_
    refine s_go (s_move) ?_
    try simp only [opv, n1, n2, n3, n4, Value.cells]
    refine s_go (s_not) ?_
    try simp only [opv, n1, n2, n3, n4, Value.cells]
    refine x_nil ?_
    refine hK17 _ _ ?_
    refine x_cond (ht := fun hc6 => ?_) (hf := fun hc6 => ?_)
    ·
     try simp only [decide_eq_true_eq, decide_eq_false_iff_not, Bool.not_eq_true', Bool.not_eq_false', Int.not_lt, Int.not_le, ne_eq, Decidable.not_not, bne_iff_ne, beq_iff_eq, not_true_eq_false, not_false_eq_true] at hc6
     obtain rfl : dn = false := by simpa using hc6
     refine x_region ?_
     first | refine s_go (m_fieldAddr Try.underlying67 (hi := ti65)) ?_ | refine s_go (m_fieldAddr_rd Try.underlying67 (hi := ti65) (hS := hS)) ?_ | refine s_go (m_fieldAddr_vec Try.underlying67 (hi := ti65) (hS := hS)) ?_
     try simp only [opv, n1, n2, n3, n4, Value.cells, Nat.zero_add, Nat.add_zero, List.getElem_toArray, List.getElem_cons_zero, List.getElem_cons_succ]
     refine s_go (m_load_obj Try.underlying65 (hS := hS) (hv := set_sl (by assumption) _)) ?_
     try simp only [opv, n1, n2, n3, n4, Value.cells, List.getElem_toArray, List.getElem_cons_zero, List.getElem_cons_succ]
     refine s_go (s_move) ?_
     try simp only [opv, n1, n2, n3, n4, Value.cells]
     refine m_buildRow (cells := #[_]) Try.underlying65 ti48 (hc := by simp only [List.map_toArray, List.map_cons, List.map_nil, opv, n1, n2, n3, n4, Value.cells, List.toList_toArray]; (repeat (refine fill_cons rfl rfl (Nat.le_of_ble_eq_true rfl) ?_)); rfl) (hS := hS) (h := fun w39 g39 hS => ?_)
     try simp only [opv, n1, n2, n3, n4, Value.cells, Array.toArray_toList] at hS ⊢
     replace hS := hS.obj_rd (sz := 1) (n := 1) rfl .head
     refine m_append Try.underlying65 ti48 (hS := hS) (news := [(q : Int)].map (Value.int .u64)) (h := fun w40 A40 C40 hS => ?_)
     try simp only [← List.map_append, ← List.map_drop, ← List.map_take, Nat.mul_one, Nat.zero_mul, Nat.sub_zero, List.drop_zero, List.nil_append, Nat.zero_add] at hS ⊢
     try simp only [opv, n1, n2, n3, n4, Value.cells, Array.toArray_toList] at hS ⊢
     first | refine s_go (m_fieldAddr Try.underlying67 (hi := ti65)) ?_ | refine s_go (m_fieldAddr_rd Try.underlying67 (hi := ti65) (hS := hS)) ?_ | refine s_go (m_fieldAddr_vec Try.underlying67 (hi := ti65) (hS := hS)) ?_
     try simp only [opv, n1, n2, n3, n4, Value.cells, Nat.zero_add, Nat.add_zero, List.getElem_toArray, List.getElem_cons_zero, List.getElem_cons_succ]
     refine m_store_obj ti65 (hS := hS) (hfit := by rw [setC_size (by assumption)]; omega) (hc := set_put16 (by assumption) _ _) (h := fun w41 hS => ?_)
     try simp only [opv, n1, n2, n3, n4, Value.cells, Array.toArray_toList] at hS ⊢
     refine x_nil ?_
     refine hK16 _ _ ?_
     refine x_seq fun K18 hK18 => ?_
     refine x_region ?_
     refine s_go (m_load_row Try.underlying67 (hi := ti67) (hS := hS) (hfit := by rw [setC_size (by assumption)])) ?_
     try simp only [opv, n1, n2, n3, n4, Value.cells, List.getElem_toArray, List.getElem_cons_zero, List.getElem_cons_succ]
     refine m_store_obj ti67 (hS := hS) (hv := setC_size (by assumption) _) (h1 := set_one _ _ _ _) (hfit := by rw [setC_size (by assumption)]; omega) (hc := set_whole (by assumption) (by assumption) _ _) (h := fun w42 hS => ?_)
     try simp only [opv, n1, n2, n3, n4, Value.cells, Array.toArray_toList] at hS ⊢
     refine x_nil ?_
     refine hK18 _ _ ?_
     refine x_ret ?_
     refine r_cell_agg rfl Try.underlying67 ti67 (hS := hS) (hfit := by rw [setC_size (by assumption)]) (hR := ?_)
     first
     | (rw [hpe]; exact ⟨_, _, rfl, uback_self hS.ext_of (hS.hasRd (by repeat (first | exact Has.head | apply Has.tail))) rfl⟩)
     | (rw [hpe, ← hpi, if_neg (by decide), show o.length + 1 = (o ++ [(q : Int)]).length by rw [List.length_append]; rfl]; rw [show o.length + 1 = (o ++ [(q : Int)]).length by rw [List.length_append]; rfl] at hS; exact ⟨_, _, rfl, uback_vec hS (by repeat (first | exact Has.head | apply Has.tail))⟩)
     | (rw [hpe, ← hpi, if_pos rfl]; exact ⟨_, _, rfl, uback_vec hS (by repeat (first | exact Has.head | apply Has.tail))⟩)
    ·
     try simp only [decide_eq_true_eq, decide_eq_false_iff_not, Bool.not_eq_true', Bool.not_eq_false', Int.not_lt, Int.not_le, ne_eq, Decidable.not_not, bne_iff_ne, beq_iff_eq, not_true_eq_false, not_false_eq_true] at hc6
     obtain rfl : dn = true := by simpa using hc6
     refine x_skip ?_
     refine hK16 _ _ ?_
     refine x_seq fun K19 hK19 => ?_
     refine x_region ?_
     refine s_go (m_load_row Try.underlying67 (hi := ti67) (hS := hS) (hfit := by rw [setC_size (by assumption)])) ?_
     try simp only [opv, n1, n2, n3, n4, Value.cells, List.getElem_toArray, List.getElem_cons_zero, List.getElem_cons_succ]
     refine m_store_obj ti67 (hS := hS) (hv := setC_size (by assumption) _) (h1 := set_one _ _ _ _) (hfit := by rw [setC_size (by assumption)]; omega) (hc := set_whole (by assumption) (by assumption) _ _) (h := fun w43 hS => ?_)
     try simp only [opv, n1, n2, n3, n4, Value.cells, Array.toArray_toList] at hS ⊢
     refine x_nil ?_
     refine hK19 _ _ ?_
     refine x_ret ?_
     refine r_cell_agg rfl Try.underlying67 ti67 (hS := hS) (hfit := by rw [setC_size (by assumption)]) (hR := ?_)
     first
     | (rw [hpe]; exact ⟨_, _, rfl, uback_self hS.ext_of (hS.hasRd (by repeat (first | exact Has.head | apply Has.tail))) rfl⟩)
     | (rw [hpe, ← hpi, if_neg (by decide), show o.length + 1 = (o ++ [(q : Int)]).length by rw [List.length_append]; rfl]; rw [show o.length + 1 = (o ++ [(q : Int)]).length by rw [List.length_append]; rfl] at hS; exact ⟨_, _, rfl, uback_vec hS (by repeat (first | exact Has.head | apply Has.tail))⟩)
     | (rw [hpe, ← hpi, if_pos rfl]; exact ⟨_, _, rfl, uback_vec hS (by repeat (first | exact Has.head | apply Has.tail))⟩)
theorem c_ref13settle (w0 : World) (x : List Int) (hx : VOk x) (A : Option Addr) (c : Nat) (cl : List Int) (hr : Rd w0 A 1 cl.length (List.map (Value.int .u64) cl)) (hu : U64s cl) (hn : cl.length ≤ 4000000000) (hP : PreS x cl)  :
    CallR Try.prog 77 #[.agg (SetC x (.slice A cl.length c))] w0 fun v w' => ∃ (D : Option Addr) (e : Nat), v = .agg (SetC (addS x cl).1 (.slice D (addS x cl).2.length e)) ∧ St NoB w0 w' [.vec D e 48 1 (addS x cl).2.length (List.map (Value.int .u64) (addS x cl).2)] := by
 have hS := St.rd1 (S := NoB) hr
 have hxl := hx.len
 have h0l : (List.replicate 16 (0 : Int)).length = 16 := rfl
 refine c_enter (l := [.agg (SetC x (.slice A cl.length c)), undef, undef, undef, undef, undef, undef, undef, undef, undef, undef, undef, undef, undef, undef, undef, undef, undef, undef, undef, undef, undef, undef, undef, undef, undef, undef, undef, undef, undef, undef, undef, undef, undef, undef, undef, undef, undef, undef, undef, undef, undef, undef, undef, undef, undef, undef, undef, undef, undef, undef, undef, undef, undef, undef, undef, undef, undef, undef, undef, undef, undef, undef, undef]) Try.func77 rfl (by simp only [Try.ntmps77, List.size_toArray, List.length_cons, List.length_nil, Nat.reduceAdd, Nat.reduceSub, Array.replicate_succ, Array.replicate_zero, List.push_toArray, List.append_toArray, List.nil_append, List.cons_append]) ?_
 refine x_seq fun K1 hK1 => ?_
 refine x_region ?_
 refine m_box hS (fun w1 g1 hS => ?_)
 try simp only [opv, n1, n2, n3, n4, Value.cells, Array.toArray_toList] at hS ⊢
 obtain ⟨gba, hgba⟩ : ∃ z, z = g1 := ⟨_, rfl⟩
 rw [← hgba] at hS ⊢
 refine m_alloc ti67 hS (fun w2 g2 hS => ?_)
 try simp only [opv, n1, n2, n3, n4, Value.cells, Array.toArray_toList] at hS ⊢
 replace hS : St NoB w0 w2 (.obj g2 (.cells (SetC (List.replicate 16 0) (.slice none 0 0)) 67 (0, 0)) :: _) := hS
 obtain ⟨gbr, hgbr⟩ : ∃ z, z = g2 := ⟨_, rfl⟩
 rw [← hgbr] at hS ⊢
 refine x_nil ?_
 refine hK1 _ _ ?_
 refine x_block ?_
 refine x_loop [3, 4, 5, 6, 7, 8, 9, 10, 11, 12, 13, 14, 15, 16, 17, 18, 19, 20, 21, 22, 23, 24, 25, 26, 27, 28, 29, 30, 31, 32, 33, 34, 35, 36, 37, 38, 39, 40, 41, 42, 43, 44, 45, 46, 47, 48, 49, 50, 51, 52, 53, 54, 55, 56, 57, 58, 59, 60, 61, 62, 63] (fun m f w => ∃ (x2 cl2 : List Int) (A2 : Option Addr) (ca : Nat), PreS x2 cl2 ∧ (∀ y, HasD x2 cl2 y ↔ HasD x cl y) ∧ cl2.length ≤ cl.length ∧ m = cl2.length ∧ St NoB w0 w [.obj gbr (.cells (SetC (List.replicate 16 0) (.slice none 0 0)) 67 (0, 0)), .obj gba (.cells (SetC x2 (.slice A2 cl2.length ca)) 67 (0, 0)), .rd A2 1 cl2.length (List.map (Value.int .u64) cl2)]) (cl.length) ?init1 (fun m1 f1 wl1 hI => ?_)
 case init1 =>
  try simp only [opv, n1, n2, n3, n4, Value.cells]
  exact ⟨x, cl, A, c, hP, (fun y => Iff.rfl), Nat.le_refl _, rfl, hS.sel (by repeat (first | exact Sel.nil | (refine Sel.cons (by repeat (first | exact Del.head | apply Del.tail)) ?_)))⟩
 obtain ⟨x2, cl2, A2, ca, hP2, hh2, hcl2, hm, hS⟩ := hI
 simp only [clob, List.foldl, n3, n4]
 have hx2 := hP2.vok
 have hx2l := hx2.len
 have hu2 := pre_u64 hP2
 refine x_block ?_
 refine x_seq fun K2 hK2 => ?_
 refine x_region ?_
 first | refine s_go (m_fieldAddr Try.underlying67 (hi := ti64)) ?_ | refine s_go (m_fieldAddr_rd Try.underlying67 (hi := ti64) (hS := hS)) ?_ | refine s_go (m_fieldAddr_vec Try.underlying67 (hi := ti64) (hS := hS)) ?_
 try simp only [opv, n1, n2, n3, n4, Value.cells, Nat.zero_add, Nat.add_zero, List.getElem_toArray, List.getElem_cons_zero, List.getElem_cons_succ]
 refine s_go (m_loada_obj Try.underlying64 (hi := ti64) (hS := hS) (hfit := by rw [setC_size (by assumption)]; decide)) ?_
 try simp only [opv, n1, n2, n3, n4, Value.cells, List.getElem_toArray, List.getElem_cons_zero, List.getElem_cons_succ]
 rw [set_flo (by assumption)]
 refine s_go (s_build_struct (cells := (SetC x2 (.slice none 0 0))) Try.underlying67 ti67 bp67 (hc := by simp only [List.map_toArray, List.map_cons, List.map_nil, opv, n1, n2, n3, n4, Value.cells, List.toList_toArray]; exact fill_set (by rfl) hx2l)) ?_
 try simp only [opv, n1, n2, n3, n4, Value.cells]
 refine m_alloc ti67 hS (fun w3 g3 hS => ?_)
 try simp only [opv, n1, n2, n3, n4, Value.cells, Array.toArray_toList] at hS ⊢
 replace hS : St NoB w0 w3 (.obj g3 (.cells (SetC (List.replicate 16 0) (.slice none 0 0)) 67 (0, 0)) :: _) := hS
 obtain ⟨gbo, hgbo⟩ : ∃ z, z = g3 := ⟨_, rfl⟩
 rw [← hgbo] at hS ⊢
 refine m_store_obj ti67 (hS := hS) (hv := setC_size (by assumption) _) (h1 := set_one _ _ _ _) (hfit := by rw [setC_size (by assumption)]; omega) (hc := set_whole (by assumption) (by assumption) _ _) (h := fun w4 hS => ?_)
 try simp only [opv, n1, n2, n3, n4, Value.cells, Array.toArray_toList] at hS ⊢
 refine x_nil ?_
 refine hK2 _ _ ?_
 refine x_seq fun K3 hK3 => ?_
 refine x_seq fun K4 hK4 => ?_
 refine x_region ?_
 refine s_go (s_assign) ?_
 try simp only [opv, n1, n2, n3, n4, Value.cells]
 refine x_nil ?_
 refine hK4 _ _ ?_
 refine x_block ?_
 refine x_loop [4, 5, 6, 7, 11, 12, 13, 14, 15, 16, 17, 18, 19, 20, 21, 22, 23, 24, 25, 26, 27, 28, 29, 30, 31, 32, 33, 34, 35, 36, 37, 38, 39, 40, 41, 42, 43, 44, 45, 46, 47, 48, 49, 50, 51, 52, 53, 54] (fun m f w => ∃ (k : Nat) (E : Option Addr) (ec : Nat), k ≤ cl2.length ∧ m = cl2.length - k ∧ f 4 = .int .i64 (k : Int) ∧ St NoB w0 w [.obj gbo (.cells (SetC ((cl2.take k).foldl setD (x2, [])).1 (.slice E ((cl2.take k).foldl setD (x2, [])).2.length ec)) 67 (0, 0)), .vec E ec 48 1 ((cl2.take k).foldl setD (x2, [])).2.length (List.map (Value.int .u64) ((cl2.take k).foldl setD (x2, [])).2), .obj gbr (.cells (SetC (List.replicate 16 0) (.slice none 0 0)) 67 (0, 0)), .obj gba (.cells (SetC x2 (.slice A2 cl2.length ca)) 67 (0, 0)), .rd A2 1 cl2.length (List.map (Value.int .u64) cl2)]) (cl2.length) ?init2 (fun m2 f2 wl2 hI => ?_)
 case init2 =>
  try simp only [opv, n1, n2, n3, n4, Value.cells]
  replace hS := hS.nil_vec 48 1
  exact ⟨0, none, 0, by omega, rfl, rfl, hS.sel (by repeat (first | exact Sel.nil | (refine Sel.cons (by repeat (first | exact Del.head | apply Del.tail)) ?_)))⟩
 obtain ⟨k, E, ec, hk, hmk, h4, hS⟩ := hI
 simp only [clob, List.foldl, n3, n4, h4]
 obtain ⟨p, hp⟩ : ∃ p, ((cl2.take k).foldl setD (x2, [])) = p := ⟨_, rfl⟩
 rw [hp] at hS
 have hpv : VOk p.1 := by rw [← hp]; exact setD_vok hx2 (fun d hd => hP2.may d (List.mem_of_mem_take hd))
 have hpl := hpv.len
 have hpn := set_len (cl2.take k) (x2, [])
 rw [hp, List.length_take] at hpn
 simp only [List.length_nil] at hpn
 refine x_seq fun K5 hK5 => ?_
 refine x_seq fun K6 hK6 => ?_
 refine x_region ?_
 refine s_go (s_move) ?_
 try simp only [opv, n1, n2, n3, n4, Value.cells]
 first | refine s_go (m_fieldAddr Try.underlying67 (hi := ti65)) ?_ | refine s_go (m_fieldAddr_rd Try.underlying67 (hi := ti65) (hS := hS)) ?_ | refine s_go (m_fieldAddr_vec Try.underlying67 (hi := ti65) (hS := hS)) ?_
 try simp only [opv, n1, n2, n3, n4, Value.cells, Nat.zero_add, Nat.add_zero, List.getElem_toArray, List.getElem_cons_zero, List.getElem_cons_succ]
 refine s_go (m_load_obj Try.underlying65 (hS := hS) (hv := set_sl (by assumption) _)) ?_
 try simp only [opv, n1, n2, n3, n4, Value.cells, List.getElem_toArray, List.getElem_cons_zero, List.getElem_cons_succ]
 refine s_go (s_len_sl Try.underlying65) ?_
 try simp only [opv, n1, n2, n3, n4, Value.cells]
 refine s_go (s_lss) ?_
 try simp only [opv, n1, n2, n3, n4, Value.cells]
 refine x_nil ?_
 refine hK6 _ _ ?_
 refine x_cond (ht := fun hc1 => ?_) (hf := fun hc1 => ?_)
 ·
  try simp only [decide_eq_true_eq, decide_eq_false_iff_not, Bool.not_eq_true', Bool.not_eq_false', Int.not_lt, Int.not_le, ne_eq, Decidable.not_not, bne_iff_ne, beq_iff_eq, not_true_eq_false, not_false_eq_true] at hc1
  have hmd := hP2.may _ (getD_mem' (l := cl2) (k := k) (d := 0) (by omega))
  have hxr := may_u64 hmd
  obtain ⟨q, hq⟩ : ∃ q : Nat, cl2.getD k 0 = (q : Int) := ⟨(cl2.getD k 0).toNat, by omega⟩
  have hft := foldl_take (f := setD) (a := (x2, ([] : List Int))) (l := cl2) (k := k) (by omega)
  rw [hq] at hmd hxr hft
  rw [hp] at hft
  obtain ⟨r, hr0⟩ : ∃ r, r = q / 4294967296 := ⟨_, rfl⟩
  obtain ⟨s, hs0⟩ : ∃ s, s = q % 4294967296 := ⟨_, rfl⟩
  have hdn := may_nat.1 hmd
  rw [← hr0, ← hs0] at hdn
  have hqs : (q : Int) % 4294967296 = (s : Int) := by omega
  have hfq : flo p.1 (q : Int) = p.1.getD r 0 := by rw [flo, dR_nat, hr0]
  have hdr : dR (q : Int) = r := by rw [dR_nat, hr0]
  have hpr := hpv.nat r
  refine x_skip ?_
  refine hK5 _ _ ?_
  refine x_seq fun K7 hK7 => ?_
  refine x_block ?_
  refine x_seq fun K8 hK8 => ?_
  refine x_region ?_
  first | refine s_go (m_fieldAddr Try.underlying67 (hi := ti65)) ?_ | refine s_go (m_fieldAddr_rd Try.underlying67 (hi := ti65) (hS := hS)) ?_ | refine s_go (m_fieldAddr_vec Try.underlying67 (hi := ti65) (hS := hS)) ?_
  try simp only [opv, n1, n2, n3, n4, Value.cells, Nat.zero_add, Nat.add_zero, List.getElem_toArray, List.getElem_cons_zero, List.getElem_cons_succ]
  refine s_go (m_load_obj Try.underlying65 (hS := hS) (hv := set_sl (by assumption) _)) ?_
  try simp only [opv, n1, n2, n3, n4, Value.cells, List.getElem_toArray, List.getElem_cons_zero, List.getElem_cons_succ]
  refine s_go (s_move) ?_
  try simp only [opv, n1, n2, n3, n4, Value.cells]
  first | refine s_go (m_indexAddr_rd Try.underlying65 ti48 (hS := hS)) ?_ | refine s_go (m_indexAddr_vec Try.underlying65 ti48 (hS := hS)) ?_
  try simp only [opv, n1, n2, n3, n4, Value.cells, Nat.mul_one, Nat.zero_add, Int.toNat_natCast, Int.reduceToNat]
  first | refine s_go (m_load_obj Try.underlying48 (hS := hS)) ?_ | refine s_go (m_load_bx Try.underlying48 (hS := hS)) ?_ | refine s_go (m_load_rd Try.underlying48 (hS := hS)) ?_ | refine s_go (m_load_vec Try.underlying48 (hS := hS)) ?_
  try simp only [opv, n1, n2, n3, n4, Value.cells, List.getElem_toArray, List.getElem_cons_zero, List.getElem_cons_succ]
  rw [hq]
  refine s_go (s_assign) ?_
  try simp only [opv, n1, n2, n3, n4, Value.cells]
  refine x_nil ?_
  refine hK8 _ _ ?_
  refine x_seq fun K9 hK9 => ?_
  refine x_region ?_
  refine s_go (s_move) ?_
  try simp only [opv, n1, n2, n3, n4, Value.cells]
  refine s_go (s_quo (hc := quo_u64 (p := 4294967296) (by omega))) ?_
  try simp only [opv, n1, n2, n3, n4, Value.cells]
  rw [← hr0]
  refine s_go (s_move) ?_
  try simp only [opv, n1, n2, n3, n4, Value.cells]
  refine s_go (s_rem (hc := rem_nat (p := 4294967296))) ?_
  try simp only [opv, n1, n2, n3, n4, Value.cells]
  rw [← hs0]
  refine s_go (s_assign) ?_
  try simp only [opv, n1, n2, n3, n4, Value.cells]
  refine s_go (s_assign) ?_
  try simp only [opv, n1, n2, n3, n4, Value.cells]
  refine x_nil ?_
  refine hK9 _ _ ?_
  refine x_block ?_
  refine x_seq fun K10 hK10 => ?_
  refine x_region ?_
  refine s_go (s_move) ?_
  try simp only [opv, n1, n2, n3, n4, Value.cells]
  refine s_go (s_move) ?_
  try simp only [opv, n1, n2, n3, n4, Value.cells]
  first | refine s_go (m_fieldAddr Try.underlying67 (hi := ti64)) ?_ | refine s_go (m_fieldAddr_rd Try.underlying67 (hi := ti64) (hS := hS)) ?_ | refine s_go (m_fieldAddr_vec Try.underlying67 (hi := ti64) (hS := hS)) ?_
  try simp only [opv, n1, n2, n3, n4, Value.cells, Nat.zero_add, Nat.add_zero, List.getElem_toArray, List.getElem_cons_zero, List.getElem_cons_succ]
  refine s_go (m_indexAddr_arr Try.underlying64 ti29) ?_
  try simp only [opv, n1, n2, n3, n4, Value.cells, Nat.mul_one, Nat.zero_add, Int.toNat_natCast, Int.reduceToNat]
  refine s_go (m_load_obj Try.underlying29 (hS := hS) (hv := set_at hpl _ (by omega))) ?_
  try simp only [opv, n1, n2, n3, n4, Value.cells, List.getElem_toArray, List.getElem_cons_zero, List.getElem_cons_succ]
  refine s_go (s_conv Try.underlying29 Try.underlying48 (hc := wr_u64 (by omega) (by omega))) ?_
  try simp only [opv, n1, n2, n3, n4, Value.cells]
  refine s_go (s_leq) ?_
  try simp only [opv, n1, n2, n3, n4, Value.cells]
  refine s_go (s_assign) ?_
  try simp only [opv, n1, n2, n3, n4, Value.cells]
  refine x_nil ?_
  refine hK10 _ _ ?_
  refine x_cond (ht := fun hc2 => ?_) (hf := fun hc2 => ?_)
  ·
   try simp only [decide_eq_true_eq, decide_eq_false_iff_not, Bool.not_eq_true', Bool.not_eq_false', Int.not_lt, Int.not_le, ne_eq, Decidable.not_not, bne_iff_ne, beq_iff_eq, not_true_eq_false, not_false_eq_true] at hc2
   have hst := hft.trans (if_pos (by rw [hqs, hfq]; exact hc2))
   refine x_skip ?_
   refine hK7 _ _ ?_
   refine x_region ?_
   refine s_go (s_move) ?_
   try simp only [opv, n1, n2, n3, n4, Value.cells]
   refine s_go (s_add (hc := by first | exact wr_i64 (by omega) (by omega) | rfl)) ?_
   try simp only [opv, n1, n2, n3, n4, Value.cells]
   refine s_go (s_assign) ?_
   try simp only [opv, n1, n2, n3, n4, Value.cells]
   refine x_nil ?_
   refine loop_back (m' := cl2.length - (k + 1)) (by simp only [clob, List.foldl, n1, n2, n3, n4]) ?_ ?_
   · try simp only [opv, n1, n2, n3, n4, Value.cells]
     first
     | exact ⟨k + 1, _, _, by omega, by omega, by rfl, by rw [hst]; exact hS.sel (by repeat (first | exact Sel.nil | (refine Sel.cons (by repeat (first | exact Del.head | apply Del.tail)) ?_)))⟩
     | exact ⟨k + 1, _, _, by omega, by omega, by rfl, by rw [hst]; simp only [List.length_append, List.length_cons, List.length_nil, Nat.zero_add]; exact hS.sel (by repeat (first | exact Sel.nil | (refine Sel.cons (by repeat (first | exact Del.head | apply Del.tail)) ?_)))⟩
   · omega
  ·
   try simp only [decide_eq_true_eq, decide_eq_false_iff_not, Bool.not_eq_true', Bool.not_eq_false', Int.not_lt, Int.not_le, ne_eq, Decidable.not_not, bne_iff_ne, beq_iff_eq, not_true_eq_false, not_false_eq_true] at hc2
   refine x_seq fun K11 hK11 => ?_
   refine x_region ?_
   refine s_go (s_move) ?_
   try simp only [opv, n1, n2, n3, n4, Value.cells]
   refine s_go (s_move) ?_
   try simp only [opv, n1, n2, n3, n4, Value.cells]
   first | refine s_go (m_fieldAddr Try.underlying67 (hi := ti64)) ?_ | refine s_go (m_fieldAddr_rd Try.underlying67 (hi := ti64) (hS := hS)) ?_ | refine s_go (m_fieldAddr_vec Try.underlying67 (hi := ti64) (hS := hS)) ?_
   try simp only [opv, n1, n2, n3, n4, Value.cells, Nat.zero_add, Nat.add_zero, List.getElem_toArray, List.getElem_cons_zero, List.getElem_cons_succ]
   refine s_go (m_indexAddr_arr Try.underlying64 ti29) ?_
   try simp only [opv, n1, n2, n3, n4, Value.cells, Nat.mul_one, Nat.zero_add, Int.toNat_natCast, Int.reduceToNat]
   refine s_go (m_load_obj Try.underlying29 (hS := hS) (hv := set_at hpl _ (by omega))) ?_
   try simp only [opv, n1, n2, n3, n4, Value.cells, List.getElem_toArray, List.getElem_cons_zero, List.getElem_cons_succ]
   refine s_go (s_conv Try.underlying29 Try.underlying48 (hc := wr_u64 (by omega) (by omega))) ?_
   try simp only [opv, n1, n2, n3, n4, Value.cells]
   refine s_go (s_add (hc := wr_u64 (by omega) (by omega))) ?_
   try simp only [opv, n1, n2, n3, n4, Value.cells]
   refine s_go (s_eql) ?_
   try simp only [opv, n1, n2, n3, n4, Value.cells]
   refine s_go (s_assign) ?_
   try simp only [opv, n1, n2, n3, n4, Value.cells]
   refine x_nil ?_
   refine hK11 _ _ ?_
   refine x_cond (ht := fun hc3 => ?_) (hf := fun hc3 => ?_)
   ·
    try simp only [decide_eq_true_eq, decide_eq_false_iff_not, Bool.not_eq_true', Bool.not_eq_false', Int.not_lt, Int.not_le, ne_eq, Decidable.not_not, bne_iff_ne, beq_iff_eq, not_true_eq_false, not_false_eq_true] at hc3
    have hst := hft.trans ((if_neg (by rw [hqs, hfq]; omega)).trans (if_pos (by rw [hqs, hfq]; exact hc3)))
    rw [hqs, hdr] at hst
    refine x_region ?_
    refine s_go (s_move) ?_
    try simp only [opv, n1, n2, n3, n4, Value.cells]
    refine s_go (s_move) ?_
    try simp only [opv, n1, n2, n3, n4, Value.cells]
    refine s_go (s_conv Try.underlying48 Try.underlying29 (hc := cv_u32 (Nat.mod_eq_of_lt (by omega)))) ?_
    try simp only [opv, n1, n2, n3, n4, Value.cells]
    first | refine s_go (m_fieldAddr Try.underlying67 (hi := ti64)) ?_ | refine s_go (m_fieldAddr_rd Try.underlying67 (hi := ti64) (hS := hS)) ?_ | refine s_go (m_fieldAddr_vec Try.underlying67 (hi := ti64) (hS := hS)) ?_
    try simp only [opv, n1, n2, n3, n4, Value.cells, Nat.zero_add, Nat.add_zero, List.getElem_toArray, List.getElem_cons_zero, List.getElem_cons_succ]
    refine s_go (m_indexAddr_arr Try.underlying64 ti29) ?_
    try simp only [opv, n1, n2, n3, n4, Value.cells, Nat.mul_one, Nat.zero_add, Int.toNat_natCast, Int.reduceToNat]
    refine m_store_obj ti29 (hS := hS) (hfit := by rw [setC_size (by assumption)]; omega) (hc := set_put hpl _ (by omega) _) (h := fun w5 hS => ?_)
    try simp only [opv, n1, n2, n3, n4, Value.cells, Array.toArray_toList] at hS ⊢
    refine x_nil ?_
    refine hK7 _ _ ?_
    refine x_region ?_
    refine s_go (s_move) ?_
    try simp only [opv, n1, n2, n3, n4, Value.cells]
    refine s_go (s_add (hc := by first | exact wr_i64 (by omega) (by omega) | rfl)) ?_
    try simp only [opv, n1, n2, n3, n4, Value.cells]
    refine s_go (s_assign) ?_
    try simp only [opv, n1, n2, n3, n4, Value.cells]
    refine x_nil ?_
    refine loop_back (m' := cl2.length - (k + 1)) (by simp only [clob, List.foldl, n1, n2, n3, n4]) ?_ ?_
    · try simp only [opv, n1, n2, n3, n4, Value.cells]
      first
      | exact ⟨k + 1, _, _, by omega, by omega, by rfl, by rw [hst]; exact hS.sel (by repeat (first | exact Sel.nil | (refine Sel.cons (by repeat (first | exact Del.head | apply Del.tail)) ?_)))⟩
      | exact ⟨k + 1, _, _, by omega, by omega, by rfl, by rw [hst]; simp only [List.length_append, List.length_cons, List.length_nil, Nat.zero_add]; exact hS.sel (by repeat (first | exact Sel.nil | (refine Sel.cons (by repeat (first | exact Del.head | apply Del.tail)) ?_)))⟩
    · omega
   ·
    try simp only [decide_eq_true_eq, decide_eq_false_iff_not, Bool.not_eq_true', Bool.not_eq_false', Int.not_lt, Int.not_le, ne_eq, Decidable.not_not, bne_iff_ne, beq_iff_eq, not_true_eq_false, not_false_eq_true] at hc3
    have hst := hft.trans ((if_neg (by rw [hqs, hfq]; omega)).trans (if_neg (by rw [hqs, hfq]; exact hc3)))
    refine x_region ?_
    first | refine s_go (m_fieldAddr Try.underlying67 (hi := ti65)) ?_ | refine s_go (m_fieldAddr_rd Try.underlying67 (hi := ti65) (hS := hS)) ?_ | refine s_go (m_fieldAddr_vec Try.underlying67 (hi := ti65) (hS := hS)) ?_
    try simp only [opv, n1, n2, n3, n4, Value.cells, Nat.zero_add, Nat.add_zero, List.getElem_toArray, List.getElem_cons_zero, List.getElem_cons_succ]
    refine s_go (m_load_obj Try.underlying65 (hS := hS) (hv := set_sl (by assumption) _)) ?_
    try simp only [opv, n1, n2, n3, n4, Value.cells, List.getElem_toArray, List.getElem_cons_zero, List.getElem_cons_succ]
    refine s_go (s_move) ?_
    try simp only [opv, n1, n2, n3, n4, Value.cells]
    refine m_buildRow (cells := #[_]) Try.underlying65 ti48 (hc := by simp only [List.map_toArray, List.map_cons, List.map_nil, opv, n1, n2, n3, n4, Value.cells, List.toList_toArray]; (repeat (refine fill_cons rfl rfl (Nat.le_of_ble_eq_true rfl) ?_)); rfl) (hS := hS) (h := fun w6 g6 hS => ?_)
    try simp only [opv, n1, n2, n3, n4, Value.cells, Array.toArray_toList] at hS ⊢
    replace hS := hS.obj_rd (sz := 1) (n := 1) rfl .head
    refine m_append Try.underlying65 ti48 (hS := hS) (news := [(q : Int)].map (Value.int .u64)) (h := fun w7 A7 C7 hS => ?_)
    try simp only [← List.map_append, ← List.map_drop, ← List.map_take, Nat.mul_one, Nat.zero_mul, Nat.sub_zero, List.drop_zero, List.nil_append, Nat.zero_add] at hS ⊢
    try simp only [opv, n1, n2, n3, n4, Value.cells, Array.toArray_toList] at hS ⊢
    first | refine s_go (m_fieldAddr Try.underlying67 (hi := ti65)) ?_ | refine s_go (m_fieldAddr_rd Try.underlying67 (hi := ti65) (hS := hS)) ?_ | refine s_go (m_fieldAddr_vec Try.underlying67 (hi := ti65) (hS := hS)) ?_
    try simp only [opv, n1, n2, n3, n4, Value.cells, Nat.zero_add, Nat.add_zero, List.getElem_toArray, List.getElem_cons_zero, List.getElem_cons_succ]
    refine m_store_obj ti65 (hS := hS) (hfit := by rw [setC_size (by assumption)]; omega) (hc := set_put16 (by assumption) _ _) (h := fun w8 hS => ?_)
    try simp only [opv, n1, n2, n3, n4, Value.cells, Array.toArray_toList] at hS ⊢
    refine x_nil ?_
    refine hK7 _ _ ?_
    refine x_region ?_
    refine s_go (s_move) ?_
    try simp only [opv, n1, n2, n3, n4, Value.cells]
    refine s_go (s_add (hc := by first | exact wr_i64 (by omega) (by omega) | rfl)) ?_
    try simp only [opv, n1, n2, n3, n4, Value.cells]
    refine s_go (s_assign) ?_
    try simp only [opv, n1, n2, n3, n4, Value.cells]
    refine x_nil ?_
    refine loop_back (m' := cl2.length - (k + 1)) (by simp only [clob, List.foldl, n1, n2, n3, n4]) ?_ ?_
    · try simp only [opv, n1, n2, n3, n4, Value.cells]
      first
      | exact ⟨k + 1, _, _, by omega, by omega, by rfl, by rw [hst]; exact hS.sel (by repeat (first | exact Sel.nil | (refine Sel.cons (by repeat (first | exact Del.head | apply Del.tail)) ?_)))⟩
      | exact ⟨k + 1, _, _, by omega, by omega, by rfl, by rw [hst]; simp only [List.length_append, List.length_cons, List.length_nil, Nat.zero_add]; exact hS.sel (by repeat (first | exact Sel.nil | (refine Sel.cons (by repeat (first | exact Del.head | apply Del.tail)) ?_)))⟩
    · omega
 ·
  try simp only [decide_eq_true_eq, decide_eq_false_iff_not, Bool.not_eq_true', Bool.not_eq_false', Int.not_lt, Int.not_le, ne_eq, Decidable.not_not, bne_iff_ne, beq_iff_eq, not_true_eq_false, not_false_eq_true] at hc1
  obtain rfl : k = cl2.length := by omega
  rw [List.take_of_length_le (Nat.le_refl _)] at hp
  have hsp := set_pre (l := cl2) (v := x2) (o := []) (by rw [List.nil_append]; exact hP2)
  rw [hp, List.nil_append] at hsp
  refine x_exit (look_here ?_)
  refine hK3 _ _ ?_
  refine x_seq fun K12 hK12 => ?_
  refine x_seq fun K13 hK13 => ?_
  refine x_region ?_
  first | refine s_go (m_fieldAddr Try.underlying67 (hi := ti65)) ?_ | refine s_go (m_fieldAddr_rd Try.underlying67 (hi := ti65) (hS := hS)) ?_ | refine s_go (m_fieldAddr_vec Try.underlying67 (hi := ti65) (hS := hS)) ?_
  try simp only [opv, n1, n2, n3, n4, Value.cells, Nat.zero_add, Nat.add_zero, List.getElem_toArray, List.getElem_cons_zero, List.getElem_cons_succ]
  refine s_go (m_load_obj Try.underlying65 (hS := hS) (hv := set_sl (by assumption) _)) ?_
  try simp only [opv, n1, n2, n3, n4, Value.cells, List.getElem_toArray, List.getElem_cons_zero, List.getElem_cons_succ]
  refine s_go (s_len_sl Try.underlying65) ?_
  try simp only [opv, n1, n2, n3, n4, Value.cells]
  first | refine s_go (m_fieldAddr Try.underlying67 (hi := ti65)) ?_ | refine s_go (m_fieldAddr_rd Try.underlying67 (hi := ti65) (hS := hS)) ?_ | refine s_go (m_fieldAddr_vec Try.underlying67 (hi := ti65) (hS := hS)) ?_
  try simp only [opv, n1, n2, n3, n4, Value.cells, Nat.zero_add, Nat.add_zero, List.getElem_toArray, List.getElem_cons_zero, List.getElem_cons_succ]
  refine s_go (m_load_obj Try.underlying65 (hS := hS) (hv := set_sl (by assumption) _)) ?_
  try simp only [opv, n1, n2, n3, n4, Value.cells, List.getElem_toArray, List.getElem_cons_zero, List.getElem_cons_succ]
  refine s_go (s_len_sl Try.underlying65) ?_
  try simp only [opv, n1, n2, n3, n4, Value.cells]
  refine s_go (s_eql) ?_
  try simp only [opv, n1, n2, n3, n4, Value.cells]
  refine x_nil ?_
  refine hK13 _ _ ?_
  refine x_cond (ht := fun hc4 => ?_) (hf := fun hc4 => ?_)
  ·
   try simp only [decide_eq_true_eq, decide_eq_false_iff_not, Bool.not_eq_true', Bool.not_eq_false', Int.not_lt, Int.not_le, ne_eq, Decidable.not_not, bne_iff_ne, beq_iff_eq, not_true_eq_false, not_false_eq_true] at hc4
   have hend := settle_end hx hP2 hh2 (by rw [hp]; omega)
   rw [hp] at hend
   refine x_seq fun K14 hK14 => ?_
   refine x_region ?_
   refine s_go (m_load_row Try.underlying67 (hi := ti67) (hS := hS) (hfit := by rw [setC_size (by assumption)])) ?_
   try simp only [opv, n1, n2, n3, n4, Value.cells, List.getElem_toArray, List.getElem_cons_zero, List.getElem_cons_succ]
   refine m_store_obj ti67 (hS := hS) (hv := setC_size (by assumption) _) (h1 := set_one _ _ _ _) (hfit := by rw [setC_size (by assumption)]; omega) (hc := set_whole (by assumption) (by assumption) _ _) (h := fun w9 hS => ?_)
   try simp only [opv, n1, n2, n3, n4, Value.cells, Array.toArray_toList] at hS ⊢
   refine x_nil ?_
   refine hK14 _ _ ?_
   refine x_ret ?_
   refine r_cell_agg rfl Try.underlying67 ti67 (hS := hS) (hfit := by rw [setC_size (by assumption)]) (hR := ?_)
   rw [← hend]
   exact ⟨_, _, rfl, hS.sel (by repeat (first | exact Sel.nil | (refine Sel.cons (by repeat (first | exact Del.head | apply Del.tail)) ?_)))⟩
  ·
   try simp only [decide_eq_true_eq, decide_eq_false_iff_not, Bool.not_eq_true', Bool.not_eq_false', Int.not_lt, Int.not_le, ne_eq, Decidable.not_not, bne_iff_ne, beq_iff_eq, not_true_eq_false, not_false_eq_true] at hc4
   have hnl : ¬ p.2.length = cl2.length := by omega
   refine x_skip ?_
   refine hK12 _ _ ?_
   refine x_region ?_
   refine s_go (m_load_row Try.underlying67 (hi := ti67) (hS := hS) (hfit := by rw [setC_size (by assumption)])) ?_
   try simp only [opv, n1, n2, n3, n4, Value.cells, List.getElem_toArray, List.getElem_cons_zero, List.getElem_cons_succ]
   refine m_store_obj ti67 (hS := hS) (hv := setC_size (by assumption) _) (h1 := set_one _ _ _ _) (hfit := by rw [setC_size (by assumption)]; omega) (hc := set_whole (by assumption) (by assumption) _ _) (h := fun w10 hS => ?_)
   try simp only [opv, n1, n2, n3, n4, Value.cells, Array.toArray_toList] at hS ⊢
   refine x_nil ?_
   refine loop_back (m' := p.2.length) (by simp only [clob, List.foldl, n1, n2, n3, n4]) ?_ ?_
   · try simp only [opv, n1, n2, n3, n4, Value.cells]
     exact ⟨_, _, _, _, hsp.1, (fun y => (hsp.2 y).trans (hh2 y)), by omega, rfl, (hS.vec_rd (by repeat (first | exact Upd.head | apply Upd.tail))).sel (by repeat (first | exact Sel.nil | (refine Sel.cons (by repeat (first | exact Del.head | apply Del.tail)) ?_)))⟩
   · omega
end Go.Proofs.Ytffmanidnlbjjaa
set_option linter.unusedSimpArgs false
set_option linter.unusedVariables false
set_option maxHeartbeats 800000
set_option maxRecDepth 100000
namespace Go.Proofs.Ytffmanidnlbjjaa
open Go.RowKit
section
variable {op : Int → Int → Int} {a b : List Int} {k : Nat}
end

def vjoin (a b : List Int) : List Int := List.zipWith max a b
def vmeet (a b : List Int) : List Int := List.zipWith min a b
@[simp] theorem vjoin_len (a b : List Int) : (vjoin a b).length = min a.length b.length := by simp [vjoin]
@[simp] theorem vmeet_len (a b : List Int) : (vmeet a b).length = min a.length b.length := by simp [vmeet]
end Go.Proofs.Ytffmanidnlbjjaa
set_option linter.unusedSimpArgs false
set_option linter.unusedVariables false
set_option maxHeartbeats 3000000
set_option maxRecDepth 100000
namespace Go.Proofs.Ytffmanidnlbjjaa
open Go.RowKit

theorem sum_take {v : List Int} {k : Nat} (hk : k < v.length) : (v.take (k + 1)).sum = (v.take k).sum + v.getD k 0 := by
  rw [List.take_succ_eq_append_getElem hk, List.sum_append, ← getD_ltz hk]; simp
theorem sum_bd : ∀ {v : List Int} {k : Nat}, (∀ i : Nat, 0 ≤ v.getD i 0 ∧ v.getD i 0 ≤ 4294967295) → k ≤ v.length → 0 ≤ (v.take k).sum ∧ (v.take k).sum ≤ 4294967295 * k
  | v, 0, _, _ => by simp
  | v, k + 1, h, hk => by
    have ih := sum_bd (v := v) (k := k) h (by omega)
    have h2 := h k
    rw [sum_take (by omega)]
    omega
theorem c_ref13Add (w0 : World) (x : List Int) (hx : VOk x) (A : Option Addr) (c : Nat) (cl : List Int) (hr : Rd w0 A 1 cl.length (List.map (Value.int .u64) cl)) (hu : U64s cl) (B : Option Addr) (d : Nat) (l : List Int) (hr2 : Rd w0 B 1 l.length (List.map (Value.int .u64) l)) (hu2 : U64s l) (hn : cl.length + l.length ≤ 4000000000)  :
    CallR Try.prog 35 #[.agg (SetC x (.slice A cl.length c)), .slice B l.length d] w0 fun v w' => ∃ (D : Option Addr) (e : Nat), v = .agg (SetC (addS x (cl ++ l)).1 (.slice D (addS x (cl ++ l)).2.length e)) ∧ St NoB w0 w' [.vec D e 48 1 (addS x (cl ++ l)).2.length (List.map (Value.int .u64) (addS x (cl ++ l)).2)] := by
 have hS := St.rd2 (S := NoB) hr hr2
 have hxl := hx.len
 have h0l : (List.replicate 16 (0 : Int)).length = 16 := rfl
 refine c_enter (l := [.agg (SetC x (.slice A cl.length c)), .slice B l.length d, undef, undef, undef, undef, undef, undef, undef, undef, undef, undef, undef, undef, undef, undef, undef, undef, undef, undef, undef, undef, undef, undef, undef, undef, undef, undef, undef, undef, undef, undef, undef, undef, undef, undef, undef, undef, undef]) Try.func35 rfl (by simp only [Try.ntmps35, List.size_toArray, List.length_cons, List.length_nil, Nat.reduceAdd, Nat.reduceSub, Array.replicate_succ, Array.replicate_zero, List.push_toArray, List.append_toArray, List.nil_append, List.cons_append]) ?_
 refine x_seq fun K1 hK1 => ?_
 refine x_region ?_
 refine m_box hS (fun w1 g1 hS => ?_)
 try simp only [opv, n1, n2, n3, n4, Value.cells, Array.toArray_toList] at hS ⊢
 obtain ⟨gba, hgba⟩ : ∃ z, z = g1 := ⟨_, rfl⟩
 rw [← hgba] at hS ⊢
 refine m_alloc ti67 hS (fun w2 g2 hS => ?_)
 try simp only [opv, n1, n2, n3, n4, Value.cells, Array.toArray_toList] at hS ⊢
 replace hS : St NoB w0 w2 (.obj g2 (.cells (SetC (List.replicate 16 0) (.slice none 0 0)) 67 (0, 0)) :: _) := hS
 obtain ⟨gbr, hgbr⟩ : ∃ z, z = g2 := ⟨_, rfl⟩
 rw [← hgbr] at hS ⊢
 refine x_nil ?_
 refine hK1 _ _ ?_
 refine x_seq fun K2 hK2 => ?_
 refine x_region ?_
 first | refine s_go (m_fieldAddr Try.underlying67 (hi := ti64)) ?_ | refine s_go (m_fieldAddr_rd Try.underlying67 (hi := ti64) (hS := hS)) ?_ | refine s_go (m_fieldAddr_vec Try.underlying67 (hi := ti64) (hS := hS)) ?_
 try simp only [opv, n1, n2, n3, n4, Value.cells, Nat.zero_add, Nat.add_zero, List.getElem_toArray, List.getElem_cons_zero, List.getElem_cons_succ]
 refine s_go (m_loada_obj Try.underlying64 (hi := ti64) (hS := hS) (hfit := by rw [setC_size (by assumption)]; decide)) ?_
 try simp only [opv, n1, n2, n3, n4, Value.cells, List.getElem_toArray, List.getElem_cons_zero, List.getElem_cons_succ]
 rw [set_flo (by assumption)]
 refine s_go (s_build_struct (cells := (SetC x (.slice none 0 0))) Try.underlying67 ti67 bp67 (hc := by simp only [List.map_toArray, List.map_cons, List.map_nil, opv, n1, n2, n3, n4, Value.cells, List.toList_toArray]; exact fill_set (by rfl) hxl)) ?_
 try simp only [opv, n1, n2, n3, n4, Value.cells]
 refine m_alloc ti67 hS (fun w3 g3 hS => ?_)
 try simp only [opv, n1, n2, n3, n4, Value.cells, Array.toArray_toList] at hS ⊢
 replace hS : St NoB w0 w3 (.obj g3 (.cells (SetC (List.replicate 16 0) (.slice none 0 0)) 67 (0, 0)) :: _) := hS
 obtain ⟨gbo, hgbo⟩ : ∃ z, z = g3 := ⟨_, rfl⟩
 rw [← hgbo] at hS ⊢
 refine m_store_obj ti67 (hS := hS) (hv := setC_size (by assumption) _) (h1 := set_one _ _ _ _) (hfit := by rw [setC_size (by assumption)]; omega) (hc := set_whole (by assumption) (by assumption) _ _) (h := fun w4 hS => ?_)
 try simp only [opv, n1, n2, n3, n4, Value.cells, Array.toArray_toList] at hS ⊢
 refine x_nil ?_
 refine hK2 _ _ ?_
 refine x_seq fun K3 hK3 => ?_
 refine x_seq fun K4 hK4 => ?_
 refine x_region ?_
 refine s_go (s_assign) ?_
 try simp only [opv, n1, n2, n3, n4, Value.cells]
 refine x_nil ?_
 refine hK4 _ _ ?_
 refine x_block ?_
 refine x_loop [6, 11, 12, 13, 14, 15, 16, 17, 18, 19, 20, 21, 22, 23, 24] (fun m f w => ∃ (k : Nat) (E : Option Addr) (ec : Nat) (o : List Int), k ≤ cl.length ∧ m = cl.length - k ∧ f 6 = .int .i64 (k : Int) ∧ (cl.take k).foldl (putC x) [] = o ∧ St NoB w0 w [.obj gbo (.cells (SetC x (.slice E o.length ec)) 67 (0, 0)), .rd E 1 o.length (List.map (Value.int .u64) o), .obj gbr (.cells (SetC (List.replicate 16 0) (.slice none 0 0)) 67 (0, 0)), .obj gba (.cells (SetC x (.slice A cl.length c)) 67 (0, 0)), .rd A 1 cl.length (List.map (Value.int .u64) cl), .rd B 1 l.length (List.map (Value.int .u64) l)]) (cl.length) ?init1 (fun m1 f1 wl1 hI => ?_)
 case init1 =>
  try simp only [opv, n1, n2, n3, n4, Value.cells]
  replace hS := hS.rd_none none 1
  exact ⟨0, none, 0, [], by omega, rfl, rfl, rfl, hS.sel (by repeat (first | exact Sel.nil | (refine Sel.cons (by repeat (first | exact Del.head | apply Del.tail)) ?_)))⟩
 obtain ⟨k, E, ec, o, hk, hm, h6, ho, hS⟩ := hI
 simp only [clob, List.foldl, n3, n4, h6]
 have hPo := (puts_pre (l := cl.take k) (pre_nil hx)).1
 have hol := puts_len (l := cl.take k) (pre_nil hx)
 rw [ho] at hPo hol
 rw [List.length_take, List.length_nil] at hol
 refine x_seq fun K5 hK5 => ?_
 refine x_seq fun K6 hK6 => ?_
 refine x_region ?_
 refine s_go (s_move) ?_
 try simp only [opv, n1, n2, n3, n4, Value.cells]
 first | refine s_go (m_fieldAddr Try.underlying67 (hi := ti65)) ?_ | refine s_go (m_fieldAddr_rd Try.underlying67 (hi := ti65) (hS := hS)) ?_ | refine s_go (m_fieldAddr_vec Try.underlying67 (hi := ti65) (hS := hS)) ?_
 try simp only [opv, n1, n2, n3, n4, Value.cells, Nat.zero_add, Nat.add_zero, List.getElem_toArray, List.getElem_cons_zero, List.getElem_cons_succ]
 refine s_go (m_load_obj Try.underlying65 (hS := hS) (hv := set_sl (by assumption) _)) ?_
 try simp only [opv, n1, n2, n3, n4, Value.cells, List.getElem_toArray, List.getElem_cons_zero, List.getElem_cons_succ]
 refine s_go (s_len_sl Try.underlying65) ?_
 try simp only [opv, n1, n2, n3, n4, Value.cells]
 refine s_go (s_lss) ?_
 try simp only [opv, n1, n2, n3, n4, Value.cells]
 refine x_nil ?_
 refine hK6 _ _ ?_
 refine x_cond (ht := fun hc1 => ?_) (hf := fun hc1 => ?_)
 ·
  try simp only [decide_eq_true_eq, decide_eq_false_iff_not, Bool.not_eq_true', Bool.not_eq_false', Int.not_lt, Int.not_le, ne_eq, Decidable.not_not, bne_iff_ne, beq_iff_eq, not_true_eq_false, not_false_eq_true] at hc1
  have hxr := hu.get (k := k) (by omega)
  obtain ⟨q, hq⟩ : ∃ q : Nat, cl.getD k 0 = (q : Int) := ⟨(cl.getD k 0).toNat, by omega⟩
  refine x_skip ?_
  refine hK5 _ _ ?_
  refine x_seq fun K7 hK7 => ?_
  refine x_block ?_
  refine x_mixed_c (Lc := [.obj gbo (.cells (SetC x (.slice E o.length ec)) 67 (0, 0)), .rd E 1 o.length (List.map (Value.int .u64) o), .obj gbr (.cells (SetC (List.replicate 16 0) (.slice none 0 0)) 67 (0, 0)), .obj gba (.cells (SetC x (.slice A cl.length c)) 67 (0, 0)), .rd A 1 cl.length (List.map (Value.int .u64) cl), .rd B 1 l.length (List.map (Value.int .u64) l)]) [7] 0 [18, 19, 20, 21, 22, 23, 24] (fun f w => ∃ (E2 : Option Addr) (ec2 : Nat), St NoB w0 w [.obj gbo (.cells (SetC x (.slice E2 (putC x o (q : Int)).length ec2)) 67 (0, 0)), .rd E2 1 (putC x o (q : Int)).length (List.map (Value.int .u64) (putC x o (q : Int))), .obj gbr (.cells (SetC (List.replicate 16 0) (.slice none 0 0)) 67 (0, 0)), .obj gba (.cells (SetC x (.slice A cl.length c)) 67 (0, 0)), .rd A 1 cl.length (List.map (Value.int .u64) cl), .rd B 1 l.length (List.map (Value.int .u64) l)]) (by kernel_rfl) (by kernel_rfl) (by kernel_rfl) (by decide) hS (fun w5 hS => ?mixpre501) ?mixrest501
  case mixpre501 =>
   refine p_nil ?_
   simp only [List.length_cons, List.length_nil, Nat.reduceAdd, Nat.reduceSub]
   refine any_go (i := 0) (by rfl) (by decide +kernel) (by decide +kernel) (by unfold noLate; decide) (go_yields w_none (fun w hS => m_load_row Try.underlying67 (hi := ti67) (hS := hS) (hfit := by rw [setC_size (by assumption)]))) ?_
   try simp only [opv, n1, n2, n3, n4, Value.cells, List.getElem_toArray, List.getElem_cons_zero, List.getElem_cons_succ]
   first | refine any_go (i := 1) (by rfl) (by decide +kernel) (by decide +kernel) (by unfold noLate; decide) (go_yields w_none (fun w hS => m_fieldAddr Try.underlying67 (hi := ti65))) ?_ | refine any_go (i := 1) (by rfl) (by decide +kernel) (by decide +kernel) (by unfold noLate; decide) (go_yields w_none (fun w hS => m_fieldAddr_rd Try.underlying67 (hi := ti65) (hS := hS))) ?_ | refine any_go (i := 1) (by rfl) (by decide +kernel) (by decide +kernel) (by unfold noLate; decide) (go_yields w_none (fun w hS => m_fieldAddr_vec Try.underlying67 (hi := ti65) (hS := hS))) ?_
   try simp only [opv, n1, n2, n3, n4, Value.cells, Nat.zero_add, Nat.add_zero, List.getElem_toArray, List.getElem_cons_zero, List.getElem_cons_succ]
   refine any_go (i := 2) (by rfl) (by decide +kernel) (by decide +kernel) (by unfold noLate; decide) (go_yields w_none (fun w hS => m_load_obj Try.underlying65 (hS := hS) (hv := set_sl (by assumption) _))) ?_
   try simp only [opv, n1, n2, n3, n4, Value.cells, List.getElem_toArray, List.getElem_cons_zero, List.getElem_cons_succ]
   refine any_go (i := 3) (by rfl) (by decide +kernel) (by decide +kernel) (by unfold noLate; decide) (go_yields w_none (fun w hS => s_move)) ?_
   try simp only [opv, n1, n2, n3, n4, Value.cells]
   first | refine any_go (i := 4) (by rfl) (by decide +kernel) (by decide +kernel) (by unfold noLate; decide) (go_yields w_none (fun w hS => m_indexAddr_rd Try.underlying65 ti48 (hS := hS))) ?_ | refine any_go (i := 4) (by rfl) (by decide +kernel) (by decide +kernel) (by unfold noLate; decide) (go_yields w_none (fun w hS => m_indexAddr_vec Try.underlying65 ti48 (hS := hS))) ?_
   try simp only [opv, n1, n2, n3, n4, Value.cells, Nat.mul_one, Nat.zero_add, Int.toNat_natCast, Int.reduceToNat]
   first | refine any_go (i := 5) (by rfl) (by decide +kernel) (by decide +kernel) (by unfold noLate; decide) (go_yields w_none (fun w hS => m_load_obj Try.underlying48 (hS := hS))) ?_ | refine any_go (i := 5) (by rfl) (by decide +kernel) (by decide +kernel) (by unfold noLate; decide) (go_yields w_none (fun w hS => m_load_bx Try.underlying48 (hS := hS))) ?_ | refine any_go (i := 5) (by rfl) (by decide +kernel) (by decide +kernel) (by unfold noLate; decide) (go_yields w_none (fun w hS => m_load_rd Try.underlying48 (hS := hS))) ?_ | refine any_go (i := 5) (by rfl) (by decide +kernel) (by decide +kernel) (by unfold noLate; decide) (go_yields w_none (fun w hS => m_load_vec Try.underlying48 (hS := hS))) ?_
   try simp only [opv, n1, n2, n3, n4, Value.cells, List.getElem_toArray, List.getElem_cons_zero, List.getElem_cons_succ]
   rw [hq]
   refine any_step [6] (by kernel_rfl) (by decide) (fun w6 hE => ⟨fun _ => (hS.ext hE).sel (by repeat (first | exact Sel.nil | (refine Sel.cons (by repeat (first | exact Del.head | apply Del.tail)) ?_))), ?_⟩)
   replace hS := hS.ext hE
   intro i hi
   simp only [List.mem_cons, List.not_mem_nil, or_false] at hi
   subst hi
   ·
    refine any_op (by rfl) ?_
    refine s_call en76 ?_
    try simp only [opv, n1, n2, n3, n4, Value.cells, List.map_toArray, List.map_cons, List.map_nil, List.append_toArray, List.cons_append, List.nil_append, Array.append_empty]
    refine CallR.mono (c_ref13put _ x hx E ec o (hS.hasRd (by repeat (first | exact Has.head | apply Has.tail))) (pre_u64 hPo) (by omega) q (by omega) hPo) ?_
    rintro _ w7 ⟨E7, ec7, rfl, hU7⟩
    replace hS := hS.uback hU7
    try simp only [opv, n1, n2, n3, n4, Value.cells]
    refine x_nil ?_
    refine any_step [7] (by kernel_rfl) (by decide) (fun w8 hE => ⟨fun _ => (hS.ext hE).sel (by repeat (first | exact Sel.nil | (refine Sel.cons (by repeat (first | exact Del.head | apply Del.tail)) ?_))), ?_⟩)
    replace hS := hS.ext hE
    intro i hi
    simp only [List.mem_cons, List.not_mem_nil, or_false] at hi
    subst hi
    ·
     refine any_op (by rfl) ?_
     refine m_store_obj ti67 (hS := hS) (hv := setC_size (by assumption) _) (h1 := set_one _ _ _ _) (hfit := by rw [setC_size (by assumption)]; omega) (hc := set_whole (by assumption) (by assumption) _ _) (h := fun w9 hS => ?_)
     try simp only [opv, n1, n2, n3, n4, Value.cells, Array.toArray_toList] at hS ⊢
     refine x_nil ?_
     refine any_nil (by kernel_rfl) (fun w10 hE => ?_)
     replace hS := hS.ext hE
     refine ⟨fun hl => absurd (hl 7 (by decide)) (by decide +kernel), ?_⟩
     refine mix_leaf (by simp only [clob, List.foldl, n1, n2, n3, n4]) ?_
     try simp only [n1, n2]
     exact ⟨_, _, hS.sel (by repeat (first | exact Sel.nil | (refine Sel.cons (by repeat (first | exact Del.head | apply Del.tail)) ?_)))⟩
  intro fm1 w11 hM
  obtain ⟨E2, ec2, hS⟩ := hM
  simp only [clob, List.foldl, n3, n4]
  refine hK7 _ _ ?_
  refine x_region ?_
  refine s_go (s_move) ?_
  try simp only [opv, n1, n2, n3, n4, Value.cells]
  refine s_go (s_add (hc := by first | exact wr_i64 (by omega) (by omega) | rfl)) ?_
  try simp only [opv, n1, n2, n3, n4, Value.cells]
  refine s_go (s_assign) ?_
  try simp only [opv, n1, n2, n3, n4, Value.cells]
  refine x_nil ?_
  refine loop_back (m' := cl.length - (k + 1)) (by simp only [clob, List.foldl, n1, n2, n3, n4]) ?_ ?_
  · try simp only [opv, n1, n2, n3, n4, Value.cells]
    exact ⟨k + 1, _, _, _, by omega, by omega, by rfl, by rw [foldl_take (by omega), ho, hq], hS.sel (by repeat (first | exact Sel.nil | (refine Sel.cons (by repeat (first | exact Del.head | apply Del.tail)) ?_)))⟩
  · omega
 ·
  try simp only [decide_eq_true_eq, decide_eq_false_iff_not, Bool.not_eq_true', Bool.not_eq_false', Int.not_lt, Int.not_le, ne_eq, Decidable.not_not, bne_iff_ne, beq_iff_eq, not_true_eq_false, not_false_eq_true] at hc1
  obtain rfl : k = cl.length := by omega
  rw [List.take_of_length_le (Nat.le_refl _)] at ho
  obtain ⟨o1, ho1⟩ : ∃ z, z = o := ⟨_, rfl⟩
  rw [← ho1] at hPo hol ho hS
  refine x_exit (look_here ?_)
  refine hK3 _ _ ?_
  refine x_seq fun K8 hK8 => ?_
  refine x_seq fun K9 hK9 => ?_
  refine x_region ?_
  refine s_go (s_assign) ?_
  try simp only [opv, n1, n2, n3, n4, Value.cells]
  refine x_nil ?_
  refine hK9 _ _ ?_
  refine x_block ?_
  refine x_loop [7, 25, 26, 27, 28, 29, 30, 31, 32, 33, 34, 35, 36] (fun m f w => ∃ (k : Nat) (E : Option Addr) (ec : Nat) (o : List Int), k ≤ l.length ∧ m = l.length - k ∧ f 7 = .int .i64 (k : Int) ∧ (l.take k).foldl (putC x) o1 = o ∧ St NoB w0 w [.obj gbo (.cells (SetC x (.slice E o.length ec)) 67 (0, 0)), .rd E 1 o.length (List.map (Value.int .u64) o), .obj gbr (.cells (SetC (List.replicate 16 0) (.slice none 0 0)) 67 (0, 0)), .obj gba (.cells (SetC x (.slice A cl.length c)) 67 (0, 0)), .rd A 1 cl.length (List.map (Value.int .u64) cl), .rd B 1 l.length (List.map (Value.int .u64) l)]) (l.length) ?init2 (fun m2 f2 wl2 hI => ?_)
  case init2 =>
   try simp only [opv, n1, n2, n3, n4, Value.cells]
   exact ⟨0, _, _, o1, by omega, rfl, rfl, rfl, hS.sel (by repeat (first | exact Sel.nil | (refine Sel.cons (by repeat (first | exact Del.head | apply Del.tail)) ?_)))⟩
  obtain ⟨k, E, ec, o, hk, hm, h7, ho2, hS⟩ := hI
  simp only [clob, List.foldl, n3, n4, h7]
  have hP1 := hPo
  have hol1 := hol
  clear hPo hol
  have hPo := (puts_pre (l := l.take k) hP1).1
  have hol := puts_len (l := l.take k) hP1
  rw [ho2] at hPo hol
  rw [List.length_take] at hol
  refine x_seq fun K10 hK10 => ?_
  refine x_seq fun K11 hK11 => ?_
  refine x_region ?_
  refine s_go (s_move) ?_
  try simp only [opv, n1, n2, n3, n4, Value.cells]
  refine s_go (s_move) ?_
  try simp only [opv, n1, n2, n3, n4, Value.cells]
  refine s_go (s_len_sl Try.underlying65) ?_
  try simp only [opv, n1, n2, n3, n4, Value.cells]
  refine s_go (s_lss) ?_
  try simp only [opv, n1, n2, n3, n4, Value.cells]
  refine x_nil ?_
  refine hK11 _ _ ?_
  refine x_cond (ht := fun hc2 => ?_) (hf := fun hc2 => ?_)
  ·
   try simp only [decide_eq_true_eq, decide_eq_false_iff_not, Bool.not_eq_true', Bool.not_eq_false', Int.not_lt, Int.not_le, ne_eq, Decidable.not_not, bne_iff_ne, beq_iff_eq, not_true_eq_false, not_false_eq_true] at hc2
   have hxr := hu2.get (k := k) (by omega)
   obtain ⟨q, hq⟩ : ∃ q : Nat, l.getD k 0 = (q : Int) := ⟨(l.getD k 0).toNat, by omega⟩
   refine x_skip ?_
   refine hK10 _ _ ?_
   refine x_seq fun K12 hK12 => ?_
   refine x_block ?_
   refine x_mixed_c (Lc := [.obj gbo (.cells (SetC x (.slice E o.length ec)) 67 (0, 0)), .rd E 1 o.length (List.map (Value.int .u64) o), .obj gbr (.cells (SetC (List.replicate 16 0) (.slice none 0 0)) 67 (0, 0)), .obj gba (.cells (SetC x (.slice A cl.length c)) 67 (0, 0)), .rd A 1 cl.length (List.map (Value.int .u64) cl), .rd B 1 l.length (List.map (Value.int .u64) l)]) [6] 0 [31, 32, 33, 34, 35, 36] (fun f w => ∃ (E2 : Option Addr) (ec2 : Nat), St NoB w0 w [.obj gbo (.cells (SetC x (.slice E2 (putC x o (q : Int)).length ec2)) 67 (0, 0)), .rd E2 1 (putC x o (q : Int)).length (List.map (Value.int .u64) (putC x o (q : Int))), .obj gbr (.cells (SetC (List.replicate 16 0) (.slice none 0 0)) 67 (0, 0)), .obj gba (.cells (SetC x (.slice A cl.length c)) 67 (0, 0)), .rd A 1 cl.length (List.map (Value.int .u64) cl), .rd B 1 l.length (List.map (Value.int .u64) l)]) (by kernel_rfl) (by kernel_rfl) (by kernel_rfl) (by decide) hS (fun w12 hS => ?mixpre902) ?mixrest902
   case mixpre902 =>
    refine p_nil ?_
    simp only [List.length_cons, List.length_nil, Nat.reduceAdd, Nat.reduceSub]
    refine any_go (i := 0) (by rfl) (by decide +kernel) (by decide +kernel) (by unfold noLate; decide) (go_yields w_none (fun w hS => m_load_row Try.underlying67 (hi := ti67) (hS := hS) (hfit := by rw [setC_size (by assumption)]))) ?_
    try simp only [opv, n1, n2, n3, n4, Value.cells, List.getElem_toArray, List.getElem_cons_zero, List.getElem_cons_succ]
    refine any_go (i := 1) (by rfl) (by decide +kernel) (by decide +kernel) (by unfold noLate; decide) (go_yields w_none (fun w hS => s_move)) ?_
    try simp only [opv, n1, n2, n3, n4, Value.cells]
    refine any_go (i := 2) (by rfl) (by decide +kernel) (by decide +kernel) (by unfold noLate; decide) (go_yields w_none (fun w hS => s_move)) ?_
    try simp only [opv, n1, n2, n3, n4, Value.cells]
    first | refine any_go (i := 3) (by rfl) (by decide +kernel) (by decide +kernel) (by unfold noLate; decide) (go_yields w_none (fun w hS => m_indexAddr_rd Try.underlying65 ti48 (hS := hS))) ?_ | refine any_go (i := 3) (by rfl) (by decide +kernel) (by decide +kernel) (by unfold noLate; decide) (go_yields w_none (fun w hS => m_indexAddr_vec Try.underlying65 ti48 (hS := hS))) ?_
    try simp only [opv, n1, n2, n3, n4, Value.cells, Nat.mul_one, Nat.zero_add, Int.toNat_natCast, Int.reduceToNat]
    first | refine any_go (i := 4) (by rfl) (by decide +kernel) (by decide +kernel) (by unfold noLate; decide) (go_yields w_none (fun w hS => m_load_obj Try.underlying48 (hS := hS))) ?_ | refine any_go (i := 4) (by rfl) (by decide +kernel) (by decide +kernel) (by unfold noLate; decide) (go_yields w_none (fun w hS => m_load_bx Try.underlying48 (hS := hS))) ?_ | refine any_go (i := 4) (by rfl) (by decide +kernel) (by decide +kernel) (by unfold noLate; decide) (go_yields w_none (fun w hS => m_load_rd Try.underlying48 (hS := hS))) ?_ | refine any_go (i := 4) (by rfl) (by decide +kernel) (by decide +kernel) (by unfold noLate; decide) (go_yields w_none (fun w hS => m_load_vec Try.underlying48 (hS := hS))) ?_
    try simp only [opv, n1, n2, n3, n4, Value.cells, List.getElem_toArray, List.getElem_cons_zero, List.getElem_cons_succ]
    rw [hq]
    refine any_step [5] (by kernel_rfl) (by decide) (fun w13 hE => ⟨fun _ => (hS.ext hE).sel (by repeat (first | exact Sel.nil | (refine Sel.cons (by repeat (first | exact Del.head | apply Del.tail)) ?_))), ?_⟩)
    replace hS := hS.ext hE
    intro i hi
    simp only [List.mem_cons, List.not_mem_nil, or_false] at hi
    subst hi
    ·
     refine any_op (by rfl) ?_
     refine s_call en76 ?_
     try simp only [opv, n1, n2, n3, n4, Value.cells, List.map_toArray, List.map_cons, List.map_nil, List.append_toArray, List.cons_append, List.nil_append, Array.append_empty]
     refine CallR.mono (c_ref13put _ x hx E ec o (hS.hasRd (by repeat (first | exact Has.head | apply Has.tail))) (pre_u64 hPo) (by omega) q (by omega) hPo) ?_
     rintro _ w14 ⟨E14, ec14, rfl, hU14⟩
     replace hS := hS.uback hU14
     try simp only [opv, n1, n2, n3, n4, Value.cells]
     refine x_nil ?_
     refine any_step [6] (by kernel_rfl) (by decide) (fun w15 hE => ⟨fun _ => (hS.ext hE).sel (by repeat (first | exact Sel.nil | (refine Sel.cons (by repeat (first | exact Del.head | apply Del.tail)) ?_))), ?_⟩)
     replace hS := hS.ext hE
     intro i hi
     simp only [List.mem_cons, List.not_mem_nil, or_false] at hi
     subst hi
     ·
      refine any_op (by rfl) ?_
      refine m_store_obj ti67 (hS := hS) (hv := setC_size (by assumption) _) (h1 := set_one _ _ _ _) (hfit := by rw [setC_size (by assumption)]; omega) (hc := set_whole (by assumption) (by assumption) _ _) (h := fun w16 hS => ?_)
      try simp only [opv, n1, n2, n3, n4, Value.cells, Array.toArray_toList] at hS ⊢
      refine x_nil ?_
      refine any_nil (by kernel_rfl) (fun w17 hE => ?_)
      replace hS := hS.ext hE
      refine ⟨fun hl => absurd (hl 6 (by decide)) (by decide +kernel), ?_⟩
      refine mix_leaf (by simp only [clob, List.foldl, n1, n2, n3, n4]) ?_
      try simp only [n1, n2]
      exact ⟨_, _, hS.sel (by repeat (first | exact Sel.nil | (refine Sel.cons (by repeat (first | exact Del.head | apply Del.tail)) ?_)))⟩
   intro fm2 w18 hM
   obtain ⟨E2, ec2, hS⟩ := hM
   simp only [clob, List.foldl, n3, n4]
   refine hK12 _ _ ?_
   refine x_region ?_
   refine s_go (s_move) ?_
   try simp only [opv, n1, n2, n3, n4, Value.cells]
   refine s_go (s_add (hc := by first | exact wr_i64 (by omega) (by omega) | rfl)) ?_
   try simp only [opv, n1, n2, n3, n4, Value.cells]
   refine s_go (s_assign) ?_
   try simp only [opv, n1, n2, n3, n4, Value.cells]
   refine x_nil ?_
   refine loop_back (m' := l.length - (k + 1)) (by simp only [clob, List.foldl, n1, n2, n3, n4]) ?_ ?_
   · try simp only [opv, n1, n2, n3, n4, Value.cells]
     exact ⟨k + 1, _, _, _, by omega, by omega, by rfl, by rw [foldl_take (by omega), ho2, hq], hS.sel (by repeat (first | exact Sel.nil | (refine Sel.cons (by repeat (first | exact Del.head | apply Del.tail)) ?_)))⟩
   · omega
  ·
   try simp only [decide_eq_true_eq, decide_eq_false_iff_not, Bool.not_eq_true', Bool.not_eq_false', Int.not_lt, Int.not_le, ne_eq, Decidable.not_not, bne_iff_ne, beq_iff_eq, not_true_eq_false, not_false_eq_true] at hc2
   obtain rfl : k = l.length := by omega
   rw [List.take_of_length_le (Nat.le_refl _)] at ho2
   have hoe : addS x o = addS x (cl ++ l) := by rw [← refadd_end (l := cl ++ l) hx, List.foldl_append, ho, ho2]
   have hov := (addS_ok hx o).1.len
   refine x_exit (look_here ?_)
   refine hK8 _ _ ?_
   refine x_seq fun K13 hK13 => ?_
   refine x_region ?_
   refine s_go (m_load_row Try.underlying67 (hi := ti67) (hS := hS) (hfit := by rw [setC_size (by assumption)])) ?_
   try simp only [opv, n1, n2, n3, n4, Value.cells, List.getElem_toArray, List.getElem_cons_zero, List.getElem_cons_succ]
   refine s_call en77 ?_
   try simp only [opv, n1, n2, n3, n4, Value.cells, List.map_toArray, List.map_cons, List.map_nil, List.append_toArray, List.cons_append, List.nil_append, Array.append_empty]
   refine CallR.mono (c_ref13settle _ x hx E ec o (hS.hasRd (by repeat (first | exact Has.head | apply Has.tail))) (pre_u64 hPo) (by omega) hPo) ?_
   rintro _ w19 ⟨D, e, rfl, hC19⟩
   replace hS := hS.call hC19
   simp only [List.cons_append, List.nil_append, List.append_nil] at hS ⊢
   try simp only [opv, n1, n2, n3, n4, Value.cells]
   refine m_store_obj ti67 (hS := hS) (hv := setC_size (by assumption) _) (h1 := set_one _ _ _ _) (hfit := by rw [setC_size (by assumption)]; omega) (hc := set_whole (by assumption) (by assumption) _ _) (h := fun w20 hS => ?_)
   try simp only [opv, n1, n2, n3, n4, Value.cells, Array.toArray_toList] at hS ⊢
   refine x_nil ?_
   refine hK13 _ _ ?_
   refine x_ret ?_
   refine r_cell_agg rfl Try.underlying67 ti67 (hS := hS) (hfit := by rw [setC_size (by assumption)]) (hR := ?_)
   rw [← hoe]
   exact ⟨_, _, rfl, hS.sel (by repeat (first | exact Sel.nil | (refine Sel.cons (by repeat (first | exact Del.head | apply Del.tail)) ?_)))⟩
end Go.Proofs.Ytffmanidnlbjjaa
set_option linter.unusedSimpArgs false
set_option linter.unusedVariables false
set_option maxHeartbeats 3000000
set_option maxRecDepth 100000
namespace Go.Proofs.Ytffmanidnlbjjaa
open Go.RowKit
theorem c_from13 (x : List Int) (hx : x.length = 16) (A : Option Addr) (n c : Nat)  (w0 : World) :
    CallR Try.prog 33 #[.agg (SetC x (.slice A n c))] w0 fun v w' => v = .agg (SetC x (.slice A n c)) ∧ Ext w0 w' := by
 have hS : St NoB w0 w0 [] := St.start w0
 have h0l : (List.replicate 16 (0 : Int)).length = 16 := rfl
 refine c_enter (l := [.agg (SetC x (.slice A n c)), undef, undef, undef, undef, undef, undef, undef]) Try.func33 rfl (by simp only [Try.ntmps33, List.size_toArray, List.length_cons, List.length_nil, Nat.reduceAdd, Nat.reduceSub, Array.replicate_succ, Array.replicate_zero, List.push_toArray, List.append_toArray, List.nil_append, List.cons_append]) ?_
 refine x_seq fun K1 hK1 => ?_
 refine x_region ?_
 refine m_box hS (fun w1 g1 hS => ?_)
 try simp only [opv, n1, n2, n3, n4, Value.cells, Array.toArray_toList] at hS ⊢
 refine m_alloc ti67 hS (fun w2 g2 hS => ?_)
 try simp only [opv, n1, n2, n3, n4, Value.cells, Array.toArray_toList] at hS ⊢
 replace hS : St NoB w0 w2 (.obj g2 (.cells (SetC (List.replicate 16 0) (.slice none 0 0)) 67 (0, 0)) :: _) := hS
 refine x_nil ?_
 refine hK1 _ _ ?_
 refine x_seq fun K2 hK2 => ?_
 refine x_region ?_
 first | refine s_go (m_fieldAddr Try.underlying72 (hi := ti70)) ?_ | refine s_go (m_fieldAddr_rd Try.underlying72 (hi := ti70) (hS := hS)) ?_ | refine s_go (m_fieldAddr_vec Try.underlying72 (hi := ti70) (hS := hS)) ?_
 try simp only [opv, n1, n2, n3, n4, Value.cells, Nat.zero_add, Nat.add_zero, List.getElem_toArray, List.getElem_cons_zero, List.getElem_cons_succ]
 refine s_go (m_loada_obj Try.underlying70 (hi := ti70) (hS := hS) (hfit := by rw [setC_size (by assumption)]; decide)) ?_
 try simp only [opv, n1, n2, n3, n4, Value.cells, List.getElem_toArray, List.getElem_cons_zero, List.getElem_cons_succ]
 rw [set_flo (by assumption)]
 first | refine s_go (m_fieldAddr Try.underlying72 (hi := ti65)) ?_ | refine s_go (m_fieldAddr_rd Try.underlying72 (hi := ti65) (hS := hS)) ?_ | refine s_go (m_fieldAddr_vec Try.underlying72 (hi := ti65) (hS := hS)) ?_
 try simp only [opv, n1, n2, n3, n4, Value.cells, Nat.zero_add, Nat.add_zero, List.getElem_toArray, List.getElem_cons_zero, List.getElem_cons_succ]
 refine s_go (m_load_obj Try.underlying65 (hS := hS) (hv := set_sl (by assumption) _)) ?_
 try simp only [opv, n1, n2, n3, n4, Value.cells, List.getElem_toArray, List.getElem_cons_zero, List.getElem_cons_succ]
 refine s_go (s_build_struct (cells := (SetC x (.slice A n c))) Try.underlying67 ti67 bp67 (hc := by simp only [List.map_toArray, List.map_cons, List.map_nil, opv, n1, n2, n3, n4, Value.cells, List.toList_toArray]; exact fill_set2 (by rfl) (by rfl) hx)) ?_
 try simp only [opv, n1, n2, n3, n4, Value.cells]
 refine m_store_obj ti67 (hS := hS) (hv := setC_size (by assumption) _) (h1 := set_one _ _ _ _) (hfit := by rw [setC_size (by assumption)]; omega) (hc := set_whole (by assumption) (by assumption) _ _) (h := fun w3 hS => ?_)
 try simp only [opv, n1, n2, n3, n4, Value.cells, Array.toArray_toList] at hS ⊢
 refine x_nil ?_
 refine hK2 _ _ ?_
 refine x_ret ?_
 refine r_cell_agg rfl Try.underlying67 ti67 (hS := hS) (hfit := by rw [setC_size (by assumption)]) (hR := ?_)
 exact ⟨rfl, hS.ext_of⟩
theorem c_to13 (x : List Int) (hx : x.length = 16) (A : Option Addr) (n c : Nat)  (w0 : World) :
    CallR Try.prog 37 #[.agg (SetC x (.slice A n c))] w0 fun v w' => v = .agg (SetC x (.slice A n c)) ∧ Ext w0 w' := by
 have hS : St NoB w0 w0 [] := St.start w0
 have h0l : (List.replicate 16 (0 : Int)).length = 16 := rfl
 refine c_enter (l := [.agg (SetC x (.slice A n c)), undef, undef, undef, undef, undef, undef, undef]) Try.func37 rfl (by simp only [Try.ntmps37, List.size_toArray, List.length_cons, List.length_nil, Nat.reduceAdd, Nat.reduceSub, Array.replicate_succ, Array.replicate_zero, List.push_toArray, List.append_toArray, List.nil_append, List.cons_append]) ?_
 refine x_seq fun K1 hK1 => ?_
 refine x_region ?_
 refine m_box hS (fun w1 g1 hS => ?_)
 try simp only [opv, n1, n2, n3, n4, Value.cells, Array.toArray_toList] at hS ⊢
 refine m_alloc ti72 hS (fun w2 g2 hS => ?_)
 try simp only [opv, n1, n2, n3, n4, Value.cells, Array.toArray_toList] at hS ⊢
 replace hS : St NoB w0 w2 (.obj g2 (.cells (SetC (List.replicate 16 0) (.slice none 0 0)) 72 (0, 0)) :: _) := hS
 refine x_nil ?_
 refine hK1 _ _ ?_
 refine x_seq fun K2 hK2 => ?_
 refine x_region ?_
 first | refine s_go (m_fieldAddr Try.underlying67 (hi := ti64)) ?_ | refine s_go (m_fieldAddr_rd Try.underlying67 (hi := ti64) (hS := hS)) ?_ | refine s_go (m_fieldAddr_vec Try.underlying67 (hi := ti64) (hS := hS)) ?_
 try simp only [opv, n1, n2, n3, n4, Value.cells, Nat.zero_add, Nat.add_zero, List.getElem_toArray, List.getElem_cons_zero, List.getElem_cons_succ]
 refine s_go (m_loada_obj Try.underlying64 (hi := ti64) (hS := hS) (hfit := by rw [setC_size (by assumption)]; decide)) ?_
 try simp only [opv, n1, n2, n3, n4, Value.cells, List.getElem_toArray, List.getElem_cons_zero, List.getElem_cons_succ]
 rw [set_flo (by assumption)]
 first | refine s_go (m_fieldAddr Try.underlying67 (hi := ti65)) ?_ | refine s_go (m_fieldAddr_rd Try.underlying67 (hi := ti65) (hS := hS)) ?_ | refine s_go (m_fieldAddr_vec Try.underlying67 (hi := ti65) (hS := hS)) ?_
 try simp only [opv, n1, n2, n3, n4, Value.cells, Nat.zero_add, Nat.add_zero, List.getElem_toArray, List.getElem_cons_zero, List.getElem_cons_succ]
 refine s_go (m_load_obj Try.underlying65 (hS := hS) (hv := set_sl (by assumption) _)) ?_
 try simp only [opv, n1, n2, n3, n4, Value.cells, List.getElem_toArray, List.getElem_cons_zero, List.getElem_cons_succ]
 refine s_go (s_build_struct (cells := (SetC x (.slice A n c))) Try.underlying72 ti72 bp72 (hc := by simp only [List.map_toArray, List.map_cons, List.map_nil, opv, n1, n2, n3, n4, Value.cells, List.toList_toArray]; exact fill_set2 (by rfl) (by rfl) hx)) ?_
 try simp only [opv, n1, n2, n3, n4, Value.cells]
 refine m_store_obj ti72 (hS := hS) (hv := setC_size (by assumption) _) (h1 := set_one _ _ _ _) (hfit := by rw [setC_size (by assumption)]; omega) (hc := set_whole (by assumption) (by assumption) _ _) (h := fun w3 hS => ?_)
 try simp only [opv, n1, n2, n3, n4, Value.cells, Array.toArray_toList] at hS ⊢
 refine x_nil ?_
 refine hK2 _ _ ?_
 refine x_ret ?_
 refine r_cell_agg rfl Try.underlying72 ti72 (hS := hS) (hfit := by rw [setC_size (by assumption)]) (hR := ?_)
 exact ⟨rfl, hS.ext_of⟩
theorem c_dotsOf (w0 : World) (B : Option Addr) (d : Nat) (l : List Int) (hr2 : Rd w0 B 1 l.length (List.map (Value.int .u64) l)) (hu2 : U64s l) (hn : l.length ≤ 4000000000)  :
    CallR Try.prog 34 #[.slice B l.length d] w0 fun v w' => ∃ (D : Option Addr) (e : Nat), v = .agg (SetC (addS (List.replicate 16 0) l).1 (.slice D (addS (List.replicate 16 0) l).2.length e)) ∧ St NoB w0 w' [.vec D e 48 1 (addS (List.replicate 16 0) l).2.length (List.map (Value.int .u64) (addS (List.replicate 16 0) l).2)] := by
 have hS := St.rd1 (S := NoB) hr2
 have h0l : (List.replicate 16 (0 : Int)).length = 16 := rfl
 have hps := addS_ok VOk.zero l
 have hpl := hps.1.len
 refine c_enter (l := [.slice B l.length d, undef, undef, undef, undef, undef]) Try.func34 rfl (by simp only [Try.ntmps34, List.size_toArray, List.length_cons, List.length_nil, Nat.reduceAdd, Nat.reduceSub, Array.replicate_succ, Array.replicate_zero, List.push_toArray, List.append_toArray, List.nil_append, List.cons_append]) ?_
 refine x_seq fun K1 hK1 => ?_
 refine x_region ?_
 refine m_alloc ti72 hS (fun w1 g1 hS => ?_)
 try simp only [opv, n1, n2, n3, n4, Value.cells, Array.toArray_toList] at hS ⊢
 replace hS : St NoB w0 w1 (.obj g1 (.cells (SetC (List.replicate 16 0) (.slice none 0 0)) 72 (0, 0)) :: _) := hS
 refine x_nil ?_
 refine hK1 _ _ ?_
 refine x_seq fun K2 hK2 => ?_
 refine x_region ?_
 refine s_go (s_build_struct (cells := #[.int .u32 0, .int .u32 0, .int .u32 0, .int .u32 0, .int .u32 0, .int .u32 0, .int .u32 0, .int .u32 0, .int .u32 0, .int .u32 0, .int .u32 0, .int .u32 0, .int .u32 0, .int .u32 0, .int .u32 0, .int .u32 0, .slice none 0 0]) Try.underlying72 ti72 bp72 (hc := by simp only [List.map_toArray, List.map_cons, List.map_nil, opv, n1, n2, n3, n4, Value.cells, List.toList_toArray]; (repeat (refine fill_cons rfl rfl (Nat.le_of_ble_eq_true rfl) ?_)); rfl)) ?_
 try simp only [opv, n1, n2, n3, n4, Value.cells]
 rw [show (#[.int .u32 0, .int .u32 0, .int .u32 0, .int .u32 0, .int .u32 0, .int .u32 0, .int .u32 0, .int .u32 0, .int .u32 0, .int .u32 0, .int .u32 0, .int .u32 0, .int .u32 0, .int .u32 0, .int .u32 0, .int .u32 0, .slice none 0 0] : Array Value) = SetC (List.replicate 16 0) (.slice none 0 0) from rfl]
 replace hS := hS.rd_none none 1
 refine s_go (s_move) ?_
 try simp only [opv, n1, n2, n3, n4, Value.cells]
 refine s_call en36 ?_
 try simp only [opv, n1, n2, n3, n4, Value.cells, List.map_toArray, List.map_cons, List.map_nil, List.append_toArray, List.cons_append, List.nil_append, Array.append_empty]
 refine CallR.mono (c_dotsAdd _ (List.replicate 16 0) VOk.zero none 0 [] (hS.hasRd (by repeat (first | exact Has.head | apply Has.tail))) U64s.nil B d l (hS.hasRd (by repeat (first | exact Has.head | apply Has.tail))) hu2 (by simpa using hn)) ?_
 rintro _ w2 ⟨D, e, rfl, hC2⟩
 replace hS := hS.call hC2
 simp only [List.cons_append, List.nil_append, List.append_nil] at hS ⊢
 try simp only [opv, n1, n2, n3, n4, Value.cells]
 refine m_store_obj ti72 (hS := hS) (hv := setC_size (by assumption) _) (h1 := set_one _ _ _ _) (hfit := by rw [setC_size (by assumption)]; omega) (hc := set_whole (by assumption) (by assumption) _ _) (h := fun w3 hS => ?_)
 try simp only [opv, n1, n2, n3, n4, Value.cells, Array.toArray_toList] at hS ⊢
 refine x_nil ?_
 refine hK2 _ _ ?_
 refine x_ret ?_
 refine r_cell_agg rfl Try.underlying72 ti72 (hS := hS) (hfit := by rw [setC_size (by assumption)]) (hR := ?_)
 exact ⟨_, _, rfl, hS.sel (by repeat (first | exact Sel.nil | (refine Sel.cons (by repeat (first | exact Del.head | apply Del.tail)) ?_)))⟩
theorem c_dotsRight (w0 : World) (x : List Int) (hx : VOk x) (A : Option Addr) (c : Nat) (cl : List Int) (hr : Rd w0 A 1 cl.length (List.map (Value.int .u64) cl)) (hu : U64s cl) (hn : cl.length ≤ 4000000000)  :
    CallR Try.prog 38 #[.agg (SetC x (.slice A cl.length c))] w0 fun v w' => v = .bool (decide ((x, cl) = addS x cl)) ∧ Ext w0 w' := by
 have hS := St.rd1 (S := NoB) hr
 have hxl := hx.len
 have hps := addS_ok hx cl
 obtain ⟨hpv, hpu, hpn⟩ := hps
 have hpl := hpv.len
 refine c_enter (l := [.agg (SetC x (.slice A cl.length c)), undef, undef, undef, undef, undef, undef]) Try.func38 rfl (by simp only [Try.ntmps38, List.size_toArray, List.length_cons, List.length_nil, Nat.reduceAdd, Nat.reduceSub, Array.replicate_succ, Array.replicate_zero, List.push_toArray, List.append_toArray, List.nil_append, List.cons_append]) ?_
 refine x_seq fun K1 hK1 => ?_
 refine x_region ?_
 refine m_box hS (fun w1 g1 hS => ?_)
 try simp only [opv, n1, n2, n3, n4, Value.cells, Array.toArray_toList] at hS ⊢
 obtain ⟨gba, hgba⟩ : ∃ z, z = g1 := ⟨_, rfl⟩
 rw [← hgba] at hS ⊢
 replace hS := hS.rd_none none 1
 refine s_go (s_assign) ?_
 try simp only [opv, n1, n2, n3, n4, Value.cells]
 refine x_nil ?_
 refine hK1 _ _ ?_
 refine x_seq fun K2 hK2 => ?_
 refine x_mixed_c (Lc := [.obj gba (.cells (SetC x (.slice A cl.length c)) 72 (0, 0)), .rd A 1 cl.length (List.map (Value.int .u64) cl)]) [] 0 [2, 3, 4, 5, 6] (fun f w => f 2 = .bool (decide ((x, cl) = addS x cl)) ∧ Ext w0 w) (by kernel_rfl) (by kernel_rfl) (by kernel_rfl) (by decide) hS (fun w2 hS => ?mixpre101) ?mixrest101
 case mixpre101 =>
  refine p_nil ?_
  simp only [List.length_cons, List.length_nil, Nat.reduceAdd, Nat.reduceSub]
  refine any_go (i := 0) (by rfl) (by decide +kernel) (by decide +kernel) noLate_nil (go_yields w_none (fun w hS => m_load_row Try.underlying72 (hi := ti72) (hS := hS) (hfit := by rw [setC_size (by assumption)]))) ?_
  try simp only [opv, n1, n2, n3, n4, Value.cells, List.getElem_toArray, List.getElem_cons_zero, List.getElem_cons_succ]
  refine any_go (i := 1) (by rfl) (by decide +kernel) (by decide +kernel) noLate_nil (go_yields w_none (fun w hS => m_load_row Try.underlying72 (hi := ti72) (hS := hS) (hfit := by rw [setC_size (by assumption)]))) ?_
  try simp only [opv, n1, n2, n3, n4, Value.cells, List.getElem_toArray, List.getElem_cons_zero, List.getElem_cons_succ]
  refine any_step [2] (by kernel_rfl) (by decide) (fun w3 hE => ⟨fun _ => (hS.ext hE).sel (by repeat (first | exact Sel.nil | (refine Sel.cons (by repeat (first | exact Del.head | apply Del.tail)) ?_))), ?_⟩)
  replace hS := hS.ext hE
  intro i hi
  simp only [List.mem_cons, List.not_mem_nil, or_false] at hi
  subst hi
  ·
   refine any_op (by rfl) ?_
   refine s_call en36 ?_
   try simp only [opv, n1, n2, n3, n4, Value.cells, List.map_toArray, List.map_cons, List.map_nil, List.append_toArray, List.cons_append, List.nil_append, Array.append_empty]
   refine CallR.mono (c_dotsAdd _ x hx A c cl (hS.hasRd (by repeat (first | exact Has.head | apply Has.tail))) hu none 0 [] (hS.hasRd (by repeat (first | exact Has.head | apply Has.tail))) U64s.nil (by rw [List.length_nil]; omega)) ?_
   rintro _ w4 ⟨D, e, rfl, hC4⟩
   replace hS := hS.call hC4
   simp only [List.cons_append, List.nil_append, List.append_nil] at hS ⊢
   try simp only [opv, n1, n2, n3, n4, Value.cells]
   refine x_nil ?_
   refine any_step [3] (by kernel_rfl) (by decide) (fun w5 hE => ⟨fun _ => (hS.ext hE).sel (by repeat (first | exact Sel.nil | (refine Sel.cons (by repeat (first | exact Del.head | apply Del.tail)) ?_))), ?_⟩)
   replace hS := hS.ext hE
   intro i hi
   simp only [List.mem_cons, List.not_mem_nil, or_false] at hi
   subst hi
   ·
    refine any_op (by rfl) ?_
    refine s_call en84 ?_
    try simp only [opv, n1, n2, n3, n4, Value.cells, List.map_toArray, List.map_cons, List.map_nil, List.append_toArray, List.cons_append, List.nil_append, Array.append_empty]
    refine CallR.mono (c_dotsAlike _ x _ hxl hpl A c cl (hS.hasRd (by repeat (first | exact Has.head | apply Has.tail))) hu D e _ (hS.vecRd (by repeat (first | exact Has.head | apply Has.tail))) hpu (by omega)) ?_
    rintro _ w6 ⟨rfl, hE6⟩
    replace hS := hS.ext hE6
    try simp only [opv, n1, n2, n3, n4, Value.cells]
    refine x_nil ?_
    refine any_go (i := 4) (by rfl) (by decide +kernel) (by decide +kernel) noLate_nil (go_yields w_none (fun w hS => s_assign)) ?_
    try simp only [opv, n1, n2, n3, n4, Value.cells]
    refine any_nil (by kernel_rfl) (fun w7 hE => ?_)
    replace hS := hS.ext hE
    refine ⟨fun _ => hS.sel (by repeat (first | exact Sel.nil | (refine Sel.cons (by repeat (first | exact Del.head | apply Del.tail)) ?_))), ?_⟩
    refine mix_leaf (by simp only [clob, List.foldl, n1, n2, n3, n4]) ?_
    try simp only [n1, n2]
    exact ⟨by first | trivial | rfl, hS.ext_of⟩
 intro fm1 w8 hM
 obtain ⟨h2, hEE⟩ := hM
 simp only [clob, List.foldl, n3, n4, h2]
 refine hK2 _ _ ?_
 refine x_ret ?_
 refine r_tmp rfl ?_
 exact ⟨rfl, hEE⟩
theorem c_ref13Right (w0 : World) (x : List Int) (hx : VOk x) (A : Option Addr) (c : Nat) (cl : List Int) (hr : Rd w0 A 1 cl.length (List.map (Value.int .u64) cl)) (hu : U64s cl) (hn : cl.length ≤ 4000000000)  :
    CallR Try.prog 39 #[.agg (SetC x (.slice A cl.length c))] w0 fun v w' => v = .bool (decide ((x, cl) = addS x cl)) ∧ Ext w0 w' := by
 have hS := St.rd1 (S := NoB) hr
 have hxl := hx.len
 have hps := addS_ok hx cl
 obtain ⟨hpv, hpu, hpn⟩ := hps
 have hpl := hpv.len
 refine c_enter (l := [.agg (SetC x (.slice A cl.length c)), undef, undef, undef, undef, undef, undef]) Try.func39 rfl (by simp only [Try.ntmps39, List.size_toArray, List.length_cons, List.length_nil, Nat.reduceAdd, Nat.reduceSub, Array.replicate_succ, Array.replicate_zero, List.push_toArray, List.append_toArray, List.nil_append, List.cons_append]) ?_
 refine x_seq fun K1 hK1 => ?_
 refine x_region ?_
 refine m_box hS (fun w1 g1 hS => ?_)
 try simp only [opv, n1, n2, n3, n4, Value.cells, Array.toArray_toList] at hS ⊢
 obtain ⟨gba, hgba⟩ : ∃ z, z = g1 := ⟨_, rfl⟩
 rw [← hgba] at hS ⊢
 replace hS := hS.rd_none none 1
 refine s_go (s_assign) ?_
 try simp only [opv, n1, n2, n3, n4, Value.cells]
 refine x_nil ?_
 refine hK1 _ _ ?_
 refine x_seq fun K2 hK2 => ?_
 refine x_mixed_c (Lc := [.obj gba (.cells (SetC x (.slice A cl.length c)) 67 (0, 0)), .rd A 1 cl.length (List.map (Value.int .u64) cl)]) [] 0 [2, 3, 4, 5, 6] (fun f w => f 2 = .bool (decide ((x, cl) = addS x cl)) ∧ Ext w0 w) (by kernel_rfl) (by kernel_rfl) (by kernel_rfl) (by decide) hS (fun w2 hS => ?mixpre101) ?mixrest101
 case mixpre101 =>
  refine p_nil ?_
  simp only [List.length_cons, List.length_nil, Nat.reduceAdd, Nat.reduceSub]
  refine any_go (i := 0) (by rfl) (by decide +kernel) (by decide +kernel) noLate_nil (go_yields w_none (fun w hS => m_load_row Try.underlying67 (hi := ti67) (hS := hS) (hfit := by rw [setC_size (by assumption)]))) ?_
  try simp only [opv, n1, n2, n3, n4, Value.cells, List.getElem_toArray, List.getElem_cons_zero, List.getElem_cons_succ]
  refine any_go (i := 1) (by rfl) (by decide +kernel) (by decide +kernel) noLate_nil (go_yields w_none (fun w hS => m_load_row Try.underlying67 (hi := ti67) (hS := hS) (hfit := by rw [setC_size (by assumption)]))) ?_
  try simp only [opv, n1, n2, n3, n4, Value.cells, List.getElem_toArray, List.getElem_cons_zero, List.getElem_cons_succ]
  refine any_step [2] (by kernel_rfl) (by decide) (fun w3 hE => ⟨fun _ => (hS.ext hE).sel (by repeat (first | exact Sel.nil | (refine Sel.cons (by repeat (first | exact Del.head | apply Del.tail)) ?_))), ?_⟩)
  replace hS := hS.ext hE
  intro i hi
  simp only [List.mem_cons, List.not_mem_nil, or_false] at hi
  subst hi
  ·
   refine any_op (by rfl) ?_
   refine s_call en35 ?_
   try simp only [opv, n1, n2, n3, n4, Value.cells, List.map_toArray, List.map_cons, List.map_nil, List.append_toArray, List.cons_append, List.nil_append, Array.append_empty]
   refine CallR.mono (c_ref13Add _ x hx A c cl (hS.hasRd (by repeat (first | exact Has.head | apply Has.tail))) hu none 0 [] (hS.hasRd (by repeat (first | exact Has.head | apply Has.tail))) U64s.nil (by rw [List.length_nil]; omega)) ?_
   rintro _ w4 ⟨D, e, rfl, hC4⟩
   replace hS := hS.call hC4
   simp only [List.cons_append, List.nil_append, List.append_nil] at hS ⊢
   try simp only [opv, n1, n2, n3, n4, Value.cells]
   refine x_nil ?_
   refine any_step [3] (by kernel_rfl) (by decide) (fun w5 hE => ⟨fun _ => (hS.ext hE).sel (by repeat (first | exact Sel.nil | (refine Sel.cons (by repeat (first | exact Del.head | apply Del.tail)) ?_))), ?_⟩)
   replace hS := hS.ext hE
   intro i hi
   simp only [List.mem_cons, List.not_mem_nil, or_false] at hi
   subst hi
   ·
    refine any_op (by rfl) ?_
    refine s_call en32 ?_
    try simp only [opv, n1, n2, n3, n4, Value.cells, List.map_toArray, List.map_cons, List.map_nil, List.append_toArray, List.cons_append, List.nil_append, Array.append_empty]
    refine CallR.mono (c_ref13Same _ x _ hxl hpl A c cl (hS.hasRd (by repeat (first | exact Has.head | apply Has.tail))) hu D e _ (hS.vecRd (by repeat (first | exact Has.head | apply Has.tail))) hpu (by omega)) ?_
    rintro _ w6 ⟨rfl, hE6⟩
    replace hS := hS.ext hE6
    try simp only [opv, n1, n2, n3, n4, Value.cells]
    refine x_nil ?_
    refine any_go (i := 4) (by rfl) (by decide +kernel) (by decide +kernel) noLate_nil (go_yields w_none (fun w hS => s_assign)) ?_
    try simp only [opv, n1, n2, n3, n4, Value.cells]
    refine any_nil (by kernel_rfl) (fun w7 hE => ?_)
    replace hS := hS.ext hE
    refine ⟨fun _ => hS.sel (by repeat (first | exact Sel.nil | (refine Sel.cons (by repeat (first | exact Del.head | apply Del.tail)) ?_))), ?_⟩
    refine mix_leaf (by simp only [clob, List.foldl, n1, n2, n3, n4]) ?_
    try simp only [n1, n2]
    exact ⟨by first | trivial | rfl, hS.ext_of⟩
 intro fm1 w8 hM
 obtain ⟨h2, hEE⟩ := hM
 simp only [clob, List.foldl, n3, n4, h2]
 refine hK2 _ _ ?_
 refine x_ret ?_
 refine r_tmp rfl ?_
 exact ⟨rfl, hEE⟩
theorem c_dotsHas (w0 : World) (x : List Int) (hx : VOk x) (A : Option Addr) (c : Nat) (cl : List Int) (hr : Rd w0 A 1 cl.length (List.map (Value.int .u64) cl)) (hu : U64s cl) (hn : cl.length ≤ 4000000000) (q : Nat) (hq : q < 18446744073709551616)  :
    CallR Try.prog 40 #[.agg (SetC x (.slice A cl.length c)), .int .u64 (q : Int)] w0 fun v w' => v = .bool (decide (HasD x cl (q : Int))) ∧ Ext w0 w' := by
 have hS := St.rd1 (S := NoB) hr
 have hxl := hx.len
 obtain ⟨r, hr0⟩ : ∃ r, r = q / 4294967296 := ⟨_, rfl⟩
 obtain ⟨s, hs0⟩ : ∃ s, s = q % 4294967296 := ⟨_, rfl⟩
 have hqs : (q : Int) % 4294967296 = (s : Int) := by omega
 have hfq : flo x (q : Int) = x.getD r 0 := by rw [flo, dR_nat, hr0]
 have hsn : s < 4294967296 := by omega
 refine c_enter (l := [.agg (SetC x (.slice A cl.length c)), .int .u64 (q : Int), undef, undef, undef, undef, undef, undef, undef, undef, undef, undef, undef, undef, undef, undef, undef, undef, undef, undef, undef, undef, undef, undef, undef, undef, undef, undef]) Try.func40 rfl (by simp only [Try.ntmps40, List.size_toArray, List.length_cons, List.length_nil, Nat.reduceAdd, Nat.reduceSub, Array.replicate_succ, Array.replicate_zero, List.push_toArray, List.append_toArray, List.nil_append, List.cons_append]) ?_
 refine x_seq fun K1 hK1 => ?_
 refine x_region ?_
 refine m_box hS (fun w1 g1 hS => ?_)
 try simp only [opv, n1, n2, n3, n4, Value.cells, Array.toArray_toList] at hS ⊢
 obtain ⟨gba, hgba⟩ : ∃ z, z = g1 := ⟨_, rfl⟩
 rw [← hgba] at hS ⊢
 refine s_go (s_assign) ?_
 try simp only [opv, n1, n2, n3, n4, Value.cells]
 refine x_nil ?_
 refine hK1 _ _ ?_
 refine x_seq fun K2 hK2 => ?_
 refine x_region ?_
 refine s_go (s_move) ?_
 try simp only [opv, n1, n2, n3, n4, Value.cells]
 refine s_call en83 ?_
 try simp only [opv, n1, n2, n3, n4, Value.cells, List.map_toArray, List.map_cons, List.map_nil, List.append_toArray, List.cons_append, List.nil_append, Array.append_empty]
 refine CallR.mono (c_keyUndot q hq _) ?_
 rintro _ w2 ⟨rfl, hE2⟩
 replace hS := hS.ext hE2
 try simp only [opv, n1, n2, n3, n4, Value.cells]
 rw [← hs0]
 refine s_go (s_move) ?_
 try simp only [opv, n1, n2, n3, n4, Value.cells]
 refine s_go (s_extract (hv := rfl)) ?_
 try simp only [List.getElem_toArray, List.getElem_cons_zero, List.getElem_cons_succ]
 try simp only [opv, n1, n2, n3, n4, Value.cells]
 refine s_go (s_extract (hv := rfl)) ?_
 try simp only [List.getElem_toArray, List.getElem_cons_zero, List.getElem_cons_succ]
 try simp only [opv, n1, n2, n3, n4, Value.cells]
 refine s_go (s_assign) ?_
 try simp only [opv, n1, n2, n3, n4, Value.cells]
 refine s_go (s_assign) ?_
 try simp only [opv, n1, n2, n3, n4, Value.cells]
 refine x_nil ?_
 refine hK2 _ _ ?_
 refine x_seq fun K3 hK3 => ?_
 refine x_region ?_
 refine s_go (s_move) ?_
 try simp only [opv, n1, n2, n3, n4, Value.cells]
 refine s_call en79 ?_
 try simp only [opv, n1, n2, n3, n4, Value.cells, List.map_toArray, List.map_cons, List.map_nil, List.append_toArray, List.cons_append, List.nil_append, Array.append_empty]
 refine CallR.mono (c_dotsMay q hq _) ?_
 rintro _ w3 ⟨rfl, hE3⟩
 replace hS := hS.ext hE3
 try simp only [opv, n1, n2, n3, n4, Value.cells]
 refine s_go (s_move) ?_
 try simp only [opv, n1, n2, n3, n4, Value.cells]
 refine s_part 14 rfl (fun hp1 => ?_) (fun hp1 => ?_)
 ·
  try simp only [n3, n4]
  try simp only [decide_eq_true_eq, decide_eq_false_iff_not, Bool.not_eq_true', Bool.not_eq_false', Int.not_lt, Int.not_le, ne_eq, Decidable.not_not] at hp1
  have hM : MayD (q : Int) := by simpa using hp1
  have hdn := may_nat.1 hM
  rw [← hr0, ← hs0] at hdn
  have hxr := hx.nat r
  rw [show q / 4294967296 % 256 = r by omega]
  refine g_on (yi (t := 14) rfl rfl) ?_
  refine s_go (s_move) ?_
  try simp only [opv, n1, n2, n3, n4, Value.cells]
  refine g_on (yi (t := 14) rfl rfl) ?_
  refine s_go (s_move) ?_
  try simp only [opv, n1, n2, n3, n4, Value.cells]
  refine g_on (yi (t := 14) rfl rfl) ?_
  first | refine s_go (m_fieldAddr Try.underlying72 (hi := ti70)) ?_ | refine s_go (m_fieldAddr_rd Try.underlying72 (hi := ti70) (hS := hS)) ?_ | refine s_go (m_fieldAddr_vec Try.underlying72 (hi := ti70) (hS := hS)) ?_
  try simp only [opv, n1, n2, n3, n4, Value.cells, Nat.zero_add, Nat.add_zero, List.getElem_toArray, List.getElem_cons_zero, List.getElem_cons_succ]
  refine g_on (yi (t := 14) rfl rfl) ?_
  refine s_go (m_indexAddr_arr Try.underlying70 ti29) ?_
  try simp only [opv, n1, n2, n3, n4, Value.cells, Nat.mul_one, Nat.zero_add, Int.toNat_natCast, Int.reduceToNat]
  refine g_on (yi (t := 14) rfl rfl) ?_
  refine s_go (m_load_obj Try.underlying29 (hS := hS) (hv := set_at hxl _ (by omega))) ?_
  try simp only [opv, n1, n2, n3, n4, Value.cells, List.getElem_toArray, List.getElem_cons_zero, List.getElem_cons_succ]
  refine g_on (yi (t := 14) rfl rfl) ?_
  refine s_go (s_leq) ?_
  try simp only [opv, n1, n2, n3, n4, Value.cells]
  refine g_on (yi (t := 14) rfl rfl) ?_
  refine s_go (s_move) ?_
  try simp only [opv, n1, n2, n3, n4, Value.cells]
  refine s_part 21 rfl (fun hp2 => ?_) (fun hp2 => ?_)
  ·
   try simp only [n3, n4]
   try simp only [decide_eq_true_eq, decide_eq_false_iff_not, Bool.not_eq_true', Bool.not_eq_false', Int.not_lt, Int.not_le, ne_eq, Decidable.not_not] at hp2
   have hE : decide (HasD x cl (q : Int)) = true := decide_eq_true ⟨hM, .inl (by omega)⟩
   refine g_off (yi (t := 21) rfl rfl) ?_
   try simp only [opv, n1, n2, n3, n4, Value.cells]
   refine g_off (yi (t := 21) rfl rfl) ?_
   try simp only [opv, n1, n2, n3, n4, Value.cells]
   refine g_off (yi (t := 21) rfl rfl) ?_
   try simp only [opv, n1, n2, n3, n4, Value.cells]
   refine g_off (yi (t := 21) rfl rfl) ?_
   try simp only [opv, n1, n2, n3, n4, Value.cells]
   refine g_on (yi (t := 14) rfl rfl) ?_
   first | refine s_go (s_pick_t) ?_ | refine s_go (s_pick_f) ?_
   try simp only [opv, n1, n2, n3, n4, Value.cells]
   first | refine s_go (s_pick_t) ?_ | refine s_go (s_pick_f) ?_
   try simp only [opv, n1, n2, n3, n4, Value.cells]
   refine s_go (s_assign) ?_
   try simp only [opv, n1, n2, n3, n4, Value.cells]
   refine x_nil ?_
   refine hK3 _ _ ?_
   refine x_ret ?_
   refine r_tmp rfl ?_
   exact ⟨by rw [hE]; rfl, hS.ext_of⟩
  ·
   try simp only [n3, n4]
   try simp only [decide_eq_true_eq, decide_eq_false_iff_not, Bool.not_eq_true', Bool.not_eq_false', Int.not_lt, Int.not_le, ne_eq, Decidable.not_not] at hp2
   have hnf : ¬ (s : Int) ≤ x.getD r 0 := by simpa using hp2
   have hE : decide (HasD x cl (q : Int)) = decide ((q : Int) ∈ cl) := decide_eq_decide.2 ⟨fun h => h.2.elim (fun a => by omega) id, fun h => ⟨hM, .inr h⟩⟩
   refine g_on (yi (t := 21) rfl rfl) ?_
   first | refine s_go (m_fieldAddr Try.underlying72 (hi := ti65)) ?_ | refine s_go (m_fieldAddr_rd Try.underlying72 (hi := ti65) (hS := hS)) ?_ | refine s_go (m_fieldAddr_vec Try.underlying72 (hi := ti65) (hS := hS)) ?_
   try simp only [opv, n1, n2, n3, n4, Value.cells, Nat.zero_add, Nat.add_zero, List.getElem_toArray, List.getElem_cons_zero, List.getElem_cons_succ]
   refine g_on (yi (t := 21) rfl rfl) ?_
   refine s_go (m_load_obj Try.underlying65 (hS := hS) (hv := set_sl (by assumption) _)) ?_
   try simp only [opv, n1, n2, n3, n4, Value.cells, List.getElem_toArray, List.getElem_cons_zero, List.getElem_cons_succ]
   refine g_on (yi (t := 21) rfl rfl) ?_
   refine s_go (s_move) ?_
   try simp only [opv, n1, n2, n3, n4, Value.cells]
   refine g_on (yi (t := 21) rfl rfl) ?_
   refine s_call en85 ?_
   try simp only [opv, n1, n2, n3, n4, Value.cells, List.map_toArray, List.map_cons, List.map_nil, List.append_toArray, List.cons_append, List.nil_append, Array.append_empty]
   refine CallR.mono (c_slContains _ A c cl (hS.hasRd (by repeat (first | exact Has.head | apply Has.tail))) hu hn (q : Int)) ?_
   rintro _ w4 ⟨rfl, hE4⟩
   replace hS := hS.ext hE4
   try simp only [opv, n1, n2, n3, n4, Value.cells]
   refine g_on (yi (t := 14) rfl rfl) ?_
   first | refine s_go (s_pick_t) ?_ | refine s_go (s_pick_f) ?_
   try simp only [opv, n1, n2, n3, n4, Value.cells]
   first | refine s_go (s_pick_t) ?_ | refine s_go (s_pick_f) ?_
   try simp only [opv, n1, n2, n3, n4, Value.cells]
   refine s_go (s_assign) ?_
   try simp only [opv, n1, n2, n3, n4, Value.cells]
   refine x_nil ?_
   refine hK3 _ _ ?_
   refine x_ret ?_
   refine r_tmp rfl ?_
   exact ⟨by rw [hE]; rfl, hS.ext_of⟩
 ·
  try simp only [n3, n4]
  try simp only [decide_eq_true_eq, decide_eq_false_iff_not, Bool.not_eq_true', Bool.not_eq_false', Int.not_lt, Int.not_le, ne_eq, Decidable.not_not] at hp1
  have hE : decide (HasD x cl (q : Int)) = false := decide_eq_false (fun h => by have h1 := h.1; first | exact hp1 h1 | (simp at hp1; exact hp1 h1) | (rw [decide_eq_true h1] at hp1; cases hp1))
  refine g_off (yi (t := 14) rfl rfl) ?_
  try simp only [opv, n1, n2, n3, n4, Value.cells]
  refine g_off (yi (t := 14) rfl rfl) ?_
  try simp only [opv, n1, n2, n3, n4, Value.cells]
  refine g_off (yi (t := 14) rfl rfl) ?_
  try simp only [opv, n1, n2, n3, n4, Value.cells]
  refine g_off (yi (t := 14) rfl rfl) ?_
  try simp only [opv, n1, n2, n3, n4, Value.cells]
  refine g_off (yi (t := 14) rfl rfl) ?_
  try simp only [opv, n1, n2, n3, n4, Value.cells]
  refine g_off (yi (t := 14) rfl rfl) ?_
  try simp only [opv, n1, n2, n3, n4, Value.cells]
  refine g_off (yi (t := 14) rfl rfl) ?_
  try simp only [opv, n1, n2, n3, n4, Value.cells]
  refine g_un (yn (t := 21) rfl rfl) ?_
  try simp only [opv, n1, n2, n3, n4, Value.cells]
  refine g_un (yn (t := 21) rfl rfl) ?_
  try simp only [opv, n1, n2, n3, n4, Value.cells]
  refine g_un (yn (t := 21) rfl rfl) ?_
  try simp only [opv, n1, n2, n3, n4, Value.cells]
  refine g_un (yn (t := 21) rfl rfl) ?_
  try simp only [opv, n1, n2, n3, n4, Value.cells]
  refine g_off (yi (t := 14) rfl rfl) ?_
  try simp only [opv, n1, n2, n3, n4, Value.cells]
  first | refine s_go (s_pick_t) ?_ | refine s_go (s_pick_f) ?_
  try simp only [opv, n1, n2, n3, n4, Value.cells]
  refine s_go (s_assign) ?_
  try simp only [opv, n1, n2, n3, n4, Value.cells]
  refine x_nil ?_
  refine hK3 _ _ ?_
  refine x_ret ?_
  refine r_tmp rfl ?_
  exact ⟨by rw [hE]; rfl, hS.ext_of⟩
theorem c_dotsCount (w0 : World) (x : List Int) (hx : VOk x) (A : Option Addr) (c : Nat) (cl : List Int) (hr : Rd w0 A 1 cl.length (List.map (Value.int .u64) cl)) (hu : U64s cl) (hn : cl.length ≤ 4000000000)  :
    CallR Try.prog 42 #[.agg (SetC x (.slice A cl.length c))] w0 fun v w' => v = .int .u64 (cntS (addS x cl)) ∧ Ext w0 w' := by
 have hS := St.rd1 (S := NoB) hr
 have hxl := hx.len
 have hps := addS_ok hx cl
 obtain ⟨hpv, hpu, hpn⟩ := hps
 have hpl := hpv.len
 have hpnat := hpv.nat
 refine c_enter (l := [.agg (SetC x (.slice A cl.length c)), undef, undef, undef, undef, undef, undef, undef, undef, undef, undef, undef, undef, undef, undef, undef, undef, undef, undef, undef, undef, undef, undef]) Try.func42 rfl (by simp only [Try.ntmps42, List.size_toArray, List.length_cons, List.length_nil, Nat.reduceAdd, Nat.reduceSub, Array.replicate_succ, Array.replicate_zero, List.push_toArray, List.append_toArray, List.nil_append, List.cons_append]) ?_
 refine x_seq fun K1 hK1 => ?_
 refine x_region ?_
 refine m_box hS (fun w1 g1 hS => ?_)
 try simp only [opv, n1, n2, n3, n4, Value.cells, Array.toArray_toList] at hS ⊢
 obtain ⟨gba, hgba⟩ : ∃ z, z = g1 := ⟨_, rfl⟩
 rw [← hgba] at hS ⊢
 replace hS := hS.rd_none none 1
 refine s_go (s_assign) ?_
 try simp only [opv, n1, n2, n3, n4, Value.cells]
 refine x_nil ?_
 refine hK1 _ _ ?_
 refine x_seq fun K2 hK2 => ?_
 refine x_region ?_
 refine s_go (m_load_row Try.underlying72 (hi := ti72) (hS := hS) (hfit := by rw [setC_size (by assumption)])) ?_
 try simp only [opv, n1, n2, n3, n4, Value.cells, List.getElem_toArray, List.getElem_cons_zero, List.getElem_cons_succ]
 refine s_call en36 ?_
 try simp only [opv, n1, n2, n3, n4, Value.cells, List.map_toArray, List.map_cons, List.map_nil, List.append_toArray, List.cons_append, List.nil_append, Array.append_empty]
 refine CallR.mono (c_dotsAdd _ x hx A c cl (hS.hasRd (by repeat (first | exact Has.head | apply Has.tail))) hu none 0 [] (hS.hasRd (by repeat (first | exact Has.head | apply Has.tail))) U64s.nil (by rw [List.length_nil]; omega)) ?_
 rintro _ w2 ⟨D, e, rfl, hC2⟩
 replace hS := hS.call hC2
 simp only [List.cons_append, List.nil_append, List.append_nil] at hS ⊢
 try simp only [opv, n1, n2, n3, n4, Value.cells]
 refine m_store_obj ti72 (hS := hS) (hv := setC_size (by assumption) _) (h1 := set_one _ _ _ _) (hfit := by rw [setC_size (by assumption)]; omega) (hc := set_whole (by assumption) (by assumption) _ _) (h := fun w3 hS => ?_)
 try simp only [opv, n1, n2, n3, n4, Value.cells, Array.toArray_toList] at hS ⊢
 refine x_nil ?_
 refine hK2 _ _ ?_
 refine x_seq fun K3 hK3 => ?_
 refine x_region ?_
 first | refine s_go (m_fieldAddr Try.underlying72 (hi := ti65)) ?_ | refine s_go (m_fieldAddr_rd Try.underlying72 (hi := ti65) (hS := hS)) ?_ | refine s_go (m_fieldAddr_vec Try.underlying72 (hi := ti65) (hS := hS)) ?_
 try simp only [opv, n1, n2, n3, n4, Value.cells, Nat.zero_add, Nat.add_zero, List.getElem_toArray, List.getElem_cons_zero, List.getElem_cons_succ]
 refine s_go (m_load_obj Try.underlying65 (hS := hS) (hv := set_sl (by assumption) _)) ?_
 try simp only [opv, n1, n2, n3, n4, Value.cells, List.getElem_toArray, List.getElem_cons_zero, List.getElem_cons_succ]
 refine s_go (s_len_sl Try.underlying65) ?_
 try simp only [opv, n1, n2, n3, n4, Value.cells]
 refine s_go (s_conv Try.underlying3 Try.underlying48 (hc := wr_u64 (by omega) (by omega))) ?_
 try simp only [opv, n1, n2, n3, n4, Value.cells]
 refine s_go (s_assign) ?_
 try simp only [opv, n1, n2, n3, n4, Value.cells]
 refine x_nil ?_
 refine hK3 _ _ ?_
 refine x_seq fun K4 hK4 => ?_
 refine x_seq fun K5 hK5 => ?_
 refine x_region ?_
 first | refine s_go (m_fieldAddr Try.underlying72 (hi := ti70)) ?_ | refine s_go (m_fieldAddr_rd Try.underlying72 (hi := ti70) (hS := hS)) ?_ | refine s_go (m_fieldAddr_vec Try.underlying72 (hi := ti70) (hS := hS)) ?_
 try simp only [opv, n1, n2, n3, n4, Value.cells, Nat.zero_add, Nat.add_zero, List.getElem_toArray, List.getElem_cons_zero, List.getElem_cons_succ]
 refine s_go (m_loada_obj Try.underlying70 (hi := ti70) (hS := hS) (hfit := by rw [setC_size (by assumption)]; decide)) ?_
 try simp only [opv, n1, n2, n3, n4, Value.cells, List.getElem_toArray, List.getElem_cons_zero, List.getElem_cons_succ]
 rw [set_flo (by assumption)]
 refine s_go (s_move) ?_
 try simp only [opv, n1, n2, n3, n4, Value.cells]
 refine x_nil ?_
 refine hK5 _ _ ?_
 refine x_block ?_
 refine x_loop [3, 5, 14, 15, 16, 17, 18, 19, 20, 21] (fun m f w => ∃ k : Nat, k ≤ 16 ∧ m = 16 - k ∧ f 14 = .int .i64 (k : Int) ∧ f 3 = .int .u64 (((addS x cl).2.length : Int) + ((addS x cl).1.take k).sum) ∧ St NoB w0 w [.obj gba (.cells (SetC (addS x cl).1 (.slice D (addS x cl).2.length e)) 72 (0, 0)), .vec D e 48 1 (addS x cl).2.length (List.map (Value.int .u64) (addS x cl).2)]) (16) ?init1 (fun m1 f1 wl1 hI => ?_)
 case init1 =>
  try simp only [opv, n1, n2, n3, n4, Value.cells]
  exact ⟨0, by omega, rfl, rfl, by simp, hS.sel (by repeat (first | exact Sel.nil | (refine Sel.cons (by repeat (first | exact Del.head | apply Del.tail)) ?_)))⟩
 obtain ⟨k, hk, hmk, hfi, h3, hS⟩ := hI
 simp only [clob, List.foldl, n3, n4, hfi, h3]
 have hsb := sum_bd hpnat (k := k) (by omega)
 have hkn := hpnat k
 refine x_seq fun K6 hK6 => ?_
 refine x_region ?_
 refine s_go (s_lss) ?_
 try simp only [opv, n1, n2, n3, n4, Value.cells]
 refine x_nil ?_
 refine hK6 _ _ ?_
 refine x_seq fun K7 hK7 => ?_
 refine x_cond (ht := fun hc1 => ?_) (hf := fun hc1 => ?_)
 ·
  try simp only [decide_eq_true_eq, decide_eq_false_iff_not, Bool.not_eq_true', Bool.not_eq_false', Int.not_lt, Int.not_le, ne_eq, Decidable.not_not, bne_iff_ne, beq_iff_eq, not_true_eq_false, not_false_eq_true] at hc1
  refine x_skip ?_
  refine hK7 _ _ ?_
  refine x_seq fun K8 hK8 => ?_
  refine x_block ?_
  refine x_seq fun K9 hK9 => ?_
  refine x_region ?_
  refine s_go (s_index_one Try.underlying70 ti29 Try.underlying29 (hv := ic_get (by omega))) ?_
  try simp only [opv, n1, n2, n3, n4, Value.cells, Nat.mul_one, Nat.zero_add, Int.toNat_natCast, Int.reduceToNat]
  refine s_go (s_assign) ?_
  try simp only [opv, n1, n2, n3, n4, Value.cells]
  refine x_nil ?_
  refine hK9 _ _ ?_
  refine x_region ?_
  refine s_go (s_move) ?_
  try simp only [opv, n1, n2, n3, n4, Value.cells]
  refine s_go (s_move) ?_
  try simp only [opv, n1, n2, n3, n4, Value.cells]
  refine s_go (s_conv Try.underlying29 Try.underlying48 (hc := wr_u64 (by omega) (by omega))) ?_
  try simp only [opv, n1, n2, n3, n4, Value.cells]
  refine s_go (s_add (hc := wr_u64 (by omega) (by omega))) ?_
  try simp only [opv, n1, n2, n3, n4, Value.cells]
  refine s_go (s_assign) ?_
  try simp only [opv, n1, n2, n3, n4, Value.cells]
  refine x_nil ?_
  refine hK8 _ _ ?_
  refine x_region ?_
  refine s_go (s_add (hc := by first | exact wr_i64 (by omega) (by omega) | rfl)) ?_
  try simp only [opv, n1, n2, n3, n4, Value.cells]
  refine s_go (s_move) ?_
  try simp only [opv, n1, n2, n3, n4, Value.cells]
  refine x_nil ?_
  refine loop_back (m' := 16 - (k + 1)) (by simp only [clob, List.foldl, n1, n2, n3, n4]) ?_ ?_
  · try simp only [opv, n1, n2, n3, n4, Value.cells]
    exact ⟨k + 1, by omega, by omega, by rfl, by rw [sum_take (by omega), Int.add_assoc], hS⟩
  · omega
 ·
  try simp only [decide_eq_true_eq, decide_eq_false_iff_not, Bool.not_eq_true', Bool.not_eq_false', Int.not_lt, Int.not_le, ne_eq, Decidable.not_not, bne_iff_ne, beq_iff_eq, not_true_eq_false, not_false_eq_true] at hc1
  obtain rfl : k = 16 := by omega
  rw [List.take_of_length_le (by omega)]
  refine x_exit (look_here ?_)
  refine hK4 _ _ ?_
  refine x_seq fun K10 hK10 => ?_
  refine x_region ?_
  refine s_go (s_move) ?_
  try simp only [opv, n1, n2, n3, n4, Value.cells]
  refine s_go (s_assign) ?_
  try simp only [opv, n1, n2, n3, n4, Value.cells]
  refine x_nil ?_
  refine hK10 _ _ ?_
  refine x_ret ?_
  refine r_tmp rfl ?_
  exact ⟨rfl, hS.ext_of⟩
theorem c_ref13Count (w0 : World) (x : List Int) (hx : VOk x) (A : Option Addr) (c : Nat) (cl : List Int) (hr : Rd w0 A 1 cl.length (List.map (Value.int .u64) cl)) (hu : U64s cl) (hn : cl.length ≤ 4000000000)  :
    CallR Try.prog 43 #[.agg (SetC x (.slice A cl.length c))] w0 fun v w' => v = .int .u64 (cntS (addS x cl)) ∧ Ext w0 w' := by
 have hS := St.rd1 (S := NoB) hr
 have hxl := hx.len
 have hps := addS_ok hx cl
 obtain ⟨hpv, hpu, hpn⟩ := hps
 have hpl := hpv.len
 have hpnat := hpv.nat
 refine c_enter (l := [.agg (SetC x (.slice A cl.length c)), undef, undef, undef, undef, undef, undef, undef, undef, undef, undef, undef, undef, undef, undef, undef, undef, undef, undef, undef, undef, undef, undef]) Try.func43 rfl (by simp only [Try.ntmps43, List.size_toArray, List.length_cons, List.length_nil, Nat.reduceAdd, Nat.reduceSub, Array.replicate_succ, Array.replicate_zero, List.push_toArray, List.append_toArray, List.nil_append, List.cons_append]) ?_
 refine x_seq fun K1 hK1 => ?_
 refine x_region ?_
 refine m_box hS (fun w1 g1 hS => ?_)
 try simp only [opv, n1, n2, n3, n4, Value.cells, Array.toArray_toList] at hS ⊢
 obtain ⟨gba, hgba⟩ : ∃ z, z = g1 := ⟨_, rfl⟩
 rw [← hgba] at hS ⊢
 replace hS := hS.rd_none none 1
 refine s_go (s_assign) ?_
 try simp only [opv, n1, n2, n3, n4, Value.cells]
 refine x_nil ?_
 refine hK1 _ _ ?_
 refine x_seq fun K2 hK2 => ?_
 refine x_region ?_
 refine s_go (m_load_row Try.underlying67 (hi := ti67) (hS := hS) (hfit := by rw [setC_size (by assumption)])) ?_
 try simp only [opv, n1, n2, n3, n4, Value.cells, List.getElem_toArray, List.getElem_cons_zero, List.getElem_cons_succ]
 refine s_call en35 ?_
 try simp only [opv, n1, n2, n3, n4, Value.cells, List.map_toArray, List.map_cons, List.map_nil, List.append_toArray, List.cons_append, List.nil_append, Array.append_empty]
 refine CallR.mono (c_ref13Add _ x hx A c cl (hS.hasRd (by repeat (first | exact Has.head | apply Has.tail))) hu none 0 [] (hS.hasRd (by repeat (first | exact Has.head | apply Has.tail))) U64s.nil (by rw [List.length_nil]; omega)) ?_
 rintro _ w2 ⟨D, e, rfl, hC2⟩
 replace hS := hS.call hC2
 simp only [List.cons_append, List.nil_append, List.append_nil] at hS ⊢
 try simp only [opv, n1, n2, n3, n4, Value.cells]
 refine m_store_obj ti67 (hS := hS) (hv := setC_size (by assumption) _) (h1 := set_one _ _ _ _) (hfit := by rw [setC_size (by assumption)]; omega) (hc := set_whole (by assumption) (by assumption) _ _) (h := fun w3 hS => ?_)
 try simp only [opv, n1, n2, n3, n4, Value.cells, Array.toArray_toList] at hS ⊢
 refine x_nil ?_
 refine hK2 _ _ ?_
 refine x_seq fun K3 hK3 => ?_
 refine x_region ?_
 first | refine s_go (m_fieldAddr Try.underlying67 (hi := ti65)) ?_ | refine s_go (m_fieldAddr_rd Try.underlying67 (hi := ti65) (hS := hS)) ?_ | refine s_go (m_fieldAddr_vec Try.underlying67 (hi := ti65) (hS := hS)) ?_
 try simp only [opv, n1, n2, n3, n4, Value.cells, Nat.zero_add, Nat.add_zero, List.getElem_toArray, List.getElem_cons_zero, List.getElem_cons_succ]
 refine s_go (m_load_obj Try.underlying65 (hS := hS) (hv := set_sl (by assumption) _)) ?_
 try simp only [opv, n1, n2, n3, n4, Value.cells, List.getElem_toArray, List.getElem_cons_zero, List.getElem_cons_succ]
 refine s_go (s_len_sl Try.underlying65) ?_
 try simp only [opv, n1, n2, n3, n4, Value.cells]
 refine s_go (s_conv Try.underlying3 Try.underlying48 (hc := wr_u64 (by omega) (by omega))) ?_
 try simp only [opv, n1, n2, n3, n4, Value.cells]
 refine s_go (s_assign) ?_
 try simp only [opv, n1, n2, n3, n4, Value.cells]
 refine x_nil ?_
 refine hK3 _ _ ?_
 refine x_seq fun K4 hK4 => ?_
 refine x_seq fun K5 hK5 => ?_
 refine x_region ?_
 refine s_go (s_assign) ?_
 try simp only [opv, n1, n2, n3, n4, Value.cells]
 refine x_nil ?_
 refine hK5 _ _ ?_
 refine x_block ?_
 refine x_loop [3, 4, 11, 12, 13, 14, 15, 16, 17, 18, 19, 20, 21] (fun m f w => ∃ k : Nat, k ≤ 16 ∧ m = 16 - k ∧ f 4 = .int .i64 (k : Int) ∧ f 3 = .int .u64 (((addS x cl).2.length : Int) + ((addS x cl).1.take k).sum) ∧ St NoB w0 w [.obj gba (.cells (SetC (addS x cl).1 (.slice D (addS x cl).2.length e)) 67 (0, 0)), .vec D e 48 1 (addS x cl).2.length (List.map (Value.int .u64) (addS x cl).2)]) (16) ?init1 (fun m1 f1 wl1 hI => ?_)
 case init1 =>
  try simp only [opv, n1, n2, n3, n4, Value.cells]
  exact ⟨0, by omega, rfl, rfl, by simp, hS.sel (by repeat (first | exact Sel.nil | (refine Sel.cons (by repeat (first | exact Del.head | apply Del.tail)) ?_)))⟩
 obtain ⟨k, hk, hmk, hfi, h3, hS⟩ := hI
 simp only [clob, List.foldl, n3, n4, hfi, h3]
 have hsb := sum_bd hpnat (k := k) (by omega)
 have hkn := hpnat k
 refine x_seq fun K6 hK6 => ?_
 refine x_seq fun K7 hK7 => ?_
 refine x_region ?_
 refine s_go (s_move) ?_
 try simp only [opv, n1, n2, n3, n4, Value.cells]
 refine s_go (s_lss) ?_
 try simp only [opv, n1, n2, n3, n4, Value.cells]
 refine x_nil ?_
 refine hK7 _ _ ?_
 refine x_cond (ht := fun hc1 => ?_) (hf := fun hc1 => ?_)
 ·
  try simp only [decide_eq_true_eq, decide_eq_false_iff_not, Bool.not_eq_true', Bool.not_eq_false', Int.not_lt, Int.not_le, ne_eq, Decidable.not_not, bne_iff_ne, beq_iff_eq, not_true_eq_false, not_false_eq_true] at hc1
  refine x_skip ?_
  refine hK6 _ _ ?_
  refine x_seq fun K8 hK8 => ?_
  refine x_block ?_
  refine x_region ?_
  refine s_go (s_move) ?_
  try simp only [opv, n1, n2, n3, n4, Value.cells]
  refine s_go (s_move) ?_
  try simp only [opv, n1, n2, n3, n4, Value.cells]
  first | refine s_go (m_fieldAddr Try.underlying67 (hi := ti64)) ?_ | refine s_go (m_fieldAddr_rd Try.underlying67 (hi := ti64) (hS := hS)) ?_ | refine s_go (m_fieldAddr_vec Try.underlying67 (hi := ti64) (hS := hS)) ?_
  try simp only [opv, n1, n2, n3, n4, Value.cells, Nat.zero_add, Nat.add_zero, List.getElem_toArray, List.getElem_cons_zero, List.getElem_cons_succ]
  refine s_go (m_indexAddr_arr Try.underlying64 ti29) ?_
  try simp only [opv, n1, n2, n3, n4, Value.cells, Nat.mul_one, Nat.zero_add, Int.toNat_natCast, Int.reduceToNat]
  refine s_go (m_load_obj Try.underlying29 (hS := hS) (hv := set_at hpl _ (by omega))) ?_
  try simp only [opv, n1, n2, n3, n4, Value.cells, List.getElem_toArray, List.getElem_cons_zero, List.getElem_cons_succ]
  refine s_go (s_conv Try.underlying29 Try.underlying48 (hc := wr_u64 (by omega) (by omega))) ?_
  try simp only [opv, n1, n2, n3, n4, Value.cells]
  refine s_go (s_add (hc := wr_u64 (by omega) (by omega))) ?_
  try simp only [opv, n1, n2, n3, n4, Value.cells]
  refine s_go (s_assign) ?_
  try simp only [opv, n1, n2, n3, n4, Value.cells]
  refine x_nil ?_
  refine hK8 _ _ ?_
  refine x_region ?_
  refine s_go (s_move) ?_
  try simp only [opv, n1, n2, n3, n4, Value.cells]
  refine s_go (s_add (hc := by first | exact wr_i64 (by omega) (by omega) | rfl)) ?_
  try simp only [opv, n1, n2, n3, n4, Value.cells]
  refine s_go (s_assign) ?_
  try simp only [opv, n1, n2, n3, n4, Value.cells]
  refine x_nil ?_
  refine loop_back (m' := 16 - (k + 1)) (by simp only [clob, List.foldl, n1, n2, n3, n4]) ?_ ?_
  · try simp only [opv, n1, n2, n3, n4, Value.cells]
    exact ⟨k + 1, by omega, by omega, by rfl, by rw [sum_take (by omega), Int.add_assoc], hS⟩
  · omega
 ·
  try simp only [decide_eq_true_eq, decide_eq_false_iff_not, Bool.not_eq_true', Bool.not_eq_false', Int.not_lt, Int.not_le, ne_eq, Decidable.not_not, bne_iff_ne, beq_iff_eq, not_true_eq_false, not_false_eq_true] at hc1
  obtain rfl : k = 16 := by omega
  rw [List.take_of_length_le (by omega)]
  refine x_exit (look_here ?_)
  refine hK4 _ _ ?_
  refine x_seq fun K9 hK9 => ?_
  refine x_region ?_
  refine s_go (s_move) ?_
  try simp only [opv, n1, n2, n3, n4, Value.cells]
  refine s_go (s_assign) ?_
  try simp only [opv, n1, n2, n3, n4, Value.cells]
  refine x_nil ?_
  refine hK9 _ _ ?_
  refine x_ret ?_
  refine r_tmp rfl ?_
  exact ⟨rfl, hS.ext_of⟩
end Go.Proofs.Ytffmanidnlbjjaa
set_option linter.unusedSimpArgs false
set_option linter.unusedVariables false
set_option maxHeartbeats 3000000
set_option maxRecDepth 100000
namespace Go.Proofs.Ytffmanidnlbjjaa
open Go.RowKit

def fl2 : List Int := (List.replicate 16 (0 : Int)).set 0 2
def fl4 : List Int := (List.replicate 16 (0 : Int)).set 0 4
theorem set_ext {v : List Int} (h : v.length = 16) (s : Value) : (SetC v s).extract 0 (0 + 16) = ic .u32 v := by
  rw [← set_flo h s]; apply Array.ext'; simp
theorem dal_1 : addS (List.replicate 16 0) [1, 2, 4] = (fl2, [4]) := by decide +kernel
theorem dal_2 : addS fl2 [4, 3] = (fl4, []) := by decide +kernel
theorem dal_3 : cntS (addS fl2 [4]) = 3 := by decide +kernel
theorem fl2_ok : VOk fl2 := VOk.zero.set (by decide) (by decide)
theorem u_one {x : Int} (h : 0 ≤ x ∧ x < 18446744073709551616) : U64s [x] := fun y hy => by rw [List.mem_singleton] at hy; rw [hy]; exact h

theorem c_law13alive  (w0 : World) :
    CallR Try.prog 31 #[] w0 fun v w' => v = .bool true ∧ Ext w0 w' := by
 have hS : St NoB w0 w0 [] := St.start w0
 have h2l : fl2.length = 16 := rfl
 have h4l : fl4.length = 16 := rfl
 refine c_enter (l := [undef, undef, undef, undef, undef, undef, undef, undef, undef, undef, undef, undef, undef, undef, undef, undef, undef, undef, undef, undef, undef, undef, undef, undef, undef, undef, undef]) Try.func31 rfl (by simp only [Try.ntmps31, List.size_toArray, List.length_cons, List.length_nil, Nat.reduceAdd, Nat.reduceSub, Array.replicate_succ, Array.replicate_zero, List.push_toArray, List.append_toArray, List.nil_append, List.cons_append]) ?_
 refine x_seq fun K1 hK1 => ?_
 refine x_region ?_
 refine s_go (s_assign) ?_
 try simp only [opv, n1, n2, n3, n4, Value.cells]
 refine x_nil ?_
 refine hK1 _ _ ?_
 refine x_seq fun K2 hK2 => ?_
 refine x_region ?_
 refine m_buildRow (cells := #[_, _, _]) Try.underlying65 ti48 (hc := by simp only [List.map_toArray, List.map_cons, List.map_nil, opv, n1, n2, n3, n4, Value.cells, List.toList_toArray]; (repeat (refine fill_cons rfl rfl (Nat.le_of_ble_eq_true rfl) ?_)); rfl) (hS := hS) (h := fun w1 g1 hS => ?_)
 try simp only [opv, n1, n2, n3, n4, Value.cells, Array.toArray_toList] at hS ⊢
 replace hS := hS.obj_rd (sz := 1) (n := 3) rfl .head
 refine s_call en34 ?_
 try simp only [opv, n1, n2, n3, n4, Value.cells, List.map_toArray, List.map_cons, List.map_nil, List.append_toArray, List.cons_append, List.nil_append, Array.append_empty]
 refine CallR.mono (c_dotsOf _ _ _ [1, 2, 4] (hS.hasRd (by repeat (first | exact Has.head | apply Has.tail))) (by unfold U64s; decide) (by decide)) ?_
 rintro _ w2 ⟨D, e, rfl, hC2⟩
 replace hS := hS.call hC2
 simp only [List.cons_append, List.nil_append, List.append_nil] at hS ⊢
 rw [dal_1] at hS ⊢
 try simp only [opv, n1, n2, n3, n4, Value.cells]
 refine m_alloc ti72 hS (fun w3 g3 hS => ?_)
 try simp only [opv, n1, n2, n3, n4, Value.cells, Array.toArray_toList] at hS ⊢
 replace hS : St NoB w0 w3 (.obj g3 (.cells (SetC (List.replicate 16 0) (.slice none 0 0)) 72 (0, 0)) :: _) := hS
 have h0l : (List.replicate 16 (0 : Int)).length = 16 := rfl
 refine m_store_obj ti72 (hS := hS) (hv := setC_size (by assumption) _) (h1 := set_one _ _ _ _) (hfit := by rw [setC_size (by assumption)]; omega) (hc := set_whole (by assumption) (by assumption) _ _) (h := fun w4 hS => ?_)
 try simp only [opv, n1, n2, n3, n4, Value.cells, Array.toArray_toList] at hS ⊢
 refine x_nil ?_
 refine hK2 _ _ ?_
 refine x_seq fun K3 hK3 => ?_
 refine x_region ?_
 first | refine s_go (m_fieldAddr Try.underlying72 (hi := ti70)) ?_ | refine s_go (m_fieldAddr_rd Try.underlying72 (hi := ti70) (hS := hS)) ?_ | refine s_go (m_fieldAddr_vec Try.underlying72 (hi := ti70) (hS := hS)) ?_
 try simp only [opv, n1, n2, n3, n4, Value.cells, Nat.zero_add, Nat.add_zero, List.getElem_toArray, List.getElem_cons_zero, List.getElem_cons_succ]
 refine s_go (m_loada_obj Try.underlying70 (hi := ti70) (hS := hS) (hfit := by rw [setC_size (by assumption)]; decide)) ?_
 try simp only [opv, n1, n2, n3, n4, Value.cells, List.getElem_toArray, List.getElem_cons_zero, List.getElem_cons_succ]
 rw [set_flo (by assumption)]
 refine s_go (s_build_arr (cells := #[_, .int .u32 0, .int .u32 0, .int .u32 0, .int .u32 0, .int .u32 0, .int .u32 0, .int .u32 0, .int .u32 0, .int .u32 0, .int .u32 0, .int .u32 0, .int .u32 0, .int .u32 0, .int .u32 0, .int .u32 0]) Try.underlying70 ti70 ti29 (hc := by simp only [List.map_toArray, List.map_cons, List.map_nil, opv, n1, n2, n3, n4, Value.cells, List.toList_toArray]; (repeat (refine fill_cons rfl rfl (Nat.le_of_ble_eq_true rfl) ?_)); rfl)) ?_
 try simp only [opv, n1, n2, n3, n4, Value.cells]
 rw [show (#[.int .u32 2, .int .u32 0, .int .u32 0, .int .u32 0, .int .u32 0, .int .u32 0, .int .u32 0, .int .u32 0, .int .u32 0, .int .u32 0, .int .u32 0, .int .u32 0, .int .u32 0, .int .u32 0, .int .u32 0, .int .u32 0] : Array Value) = ic .u32 fl2 from rfl]
 refine s_go (s_eql_agg eqv70 (hg := eg70) (hX := zi_ic (by assumption)) (hY := zi_ic (by assumption)) (h1 := by assumption) (h2 := by assumption)) ?_
 try simp only [opv, n1, n2, n3, n4, Value.cells]
 try simp only [eq_self, decide_true, beq_self_eq_true, Bool.and_self]
 refine s_go (s_move) ?_
 try simp only [opv, n1, n2, n3, n4, Value.cells]
 refine g_on (yi (t := 8) rfl rfl) ?_
 first | refine s_go (m_fieldAddr Try.underlying72 (hi := ti65)) ?_ | refine s_go (m_fieldAddr_rd Try.underlying72 (hi := ti65) (hS := hS)) ?_ | refine s_go (m_fieldAddr_vec Try.underlying72 (hi := ti65) (hS := hS)) ?_
 try simp only [opv, n1, n2, n3, n4, Value.cells, Nat.zero_add, Nat.add_zero, List.getElem_toArray, List.getElem_cons_zero, List.getElem_cons_succ]
 refine g_on (yi (t := 8) rfl rfl) ?_
 refine s_go (m_load_obj Try.underlying65 (hS := hS) (hv := set_sl (by assumption) _)) ?_
 try simp only [opv, n1, n2, n3, n4, Value.cells, List.getElem_toArray, List.getElem_cons_zero, List.getElem_cons_succ]
 refine g_on (yi (t := 8) rfl rfl) ?_
 refine s_go (s_len_sl Try.underlying65) ?_
 try simp only [opv, n1, n2, n3, n4, Value.cells]
 refine g_on (yi (t := 8) rfl rfl) ?_
 refine s_go (s_eql) ?_
 try simp only [opv, n1, n2, n3, n4, Value.cells]
 try simp only [eq_self, decide_true, beq_self_eq_true, Bool.and_self]
 first | refine s_go (s_pick_t) ?_ | refine s_go (s_pick_f) ?_
 try simp only [opv, n1, n2, n3, n4, Value.cells]
 refine s_go (s_move) ?_
 try simp only [opv, n1, n2, n3, n4, Value.cells]
 refine g_on (yi (t := 14) rfl rfl) ?_
 refine s_go (m_load_row Try.underlying72 (hi := ti72) (hS := hS) (hfit := by rw [setC_size (by assumption)])) ?_
 try simp only [opv, n1, n2, n3, n4, Value.cells, List.getElem_toArray, List.getElem_cons_zero, List.getElem_cons_succ]
 refine g_on (yi (t := 14) rfl rfl) ?_
 refine m_buildRow (cells := #[_]) Try.underlying65 ti48 (hc := by simp only [List.map_toArray, List.map_cons, List.map_nil, opv, n1, n2, n3, n4, Value.cells, List.toList_toArray]; (repeat (refine fill_cons rfl rfl (Nat.le_of_ble_eq_true rfl) ?_)); rfl) (hS := hS) (h := fun w5 g5 hS => ?_)
 try simp only [opv, n1, n2, n3, n4, Value.cells, Array.toArray_toList] at hS ⊢
 replace hS := hS.obj_rd (sz := 1) (n := 1) rfl .head
 refine g_on (yi (t := 14) rfl rfl) ?_
 refine s_call en36 ?_
 try simp only [opv, n1, n2, n3, n4, Value.cells, List.map_toArray, List.map_cons, List.map_nil, List.append_toArray, List.cons_append, List.nil_append, Array.append_empty]
 refine CallR.mono (c_dotsAdd _ fl2 fl2_ok D e [4] (hS.vecRd (by repeat (first | exact Has.head | apply Has.tail))) (u_one (by decide)) _ _ [3] (hS.hasRd (by repeat (first | exact Has.head | apply Has.tail))) (u_one (by decide)) (by decide)) ?_
 rintro _ w6 ⟨D2, e2, rfl, hC6⟩
 replace hS := hS.call hC6
 simp only [List.cons_append, List.nil_append, List.append_nil] at hS ⊢
 rw [dal_2] at hS ⊢
 try simp only [opv, n1, n2, n3, n4, Value.cells]
 refine g_on (yi (t := 14) rfl rfl) ?_
 refine s_go (s_field_agg Try.underlying72 (hu := Try.underlying70) (hi := ti70)) ?_
 try simp only [opv, n1, n2, n3, n4, Value.cells, List.getElem_toArray, List.getElem_cons_zero, List.getElem_cons_succ]
 rw [set_ext (by assumption)]
 refine g_on (yi (t := 14) rfl rfl) ?_
 refine s_go (s_build_arr (cells := #[_, .int .u32 0, .int .u32 0, .int .u32 0, .int .u32 0, .int .u32 0, .int .u32 0, .int .u32 0, .int .u32 0, .int .u32 0, .int .u32 0, .int .u32 0, .int .u32 0, .int .u32 0, .int .u32 0, .int .u32 0]) Try.underlying70 ti70 ti29 (hc := by simp only [List.map_toArray, List.map_cons, List.map_nil, opv, n1, n2, n3, n4, Value.cells, List.toList_toArray]; (repeat (refine fill_cons rfl rfl (Nat.le_of_ble_eq_true rfl) ?_)); rfl)) ?_
 try simp only [opv, n1, n2, n3, n4, Value.cells]
 rw [show (#[.int .u32 4, .int .u32 0, .int .u32 0, .int .u32 0, .int .u32 0, .int .u32 0, .int .u32 0, .int .u32 0, .int .u32 0, .int .u32 0, .int .u32 0, .int .u32 0, .int .u32 0, .int .u32 0, .int .u32 0, .int .u32 0] : Array Value) = ic .u32 fl4 from rfl]
 refine g_on (yi (t := 14) rfl rfl) ?_
 refine s_go (s_eql_agg eqv70 (hg := eg70) (hX := zi_ic (by assumption)) (hY := zi_ic (by assumption)) (h1 := by assumption) (h2 := by assumption)) ?_
 try simp only [opv, n1, n2, n3, n4, Value.cells]
 try simp only [eq_self, decide_true, beq_self_eq_true, Bool.and_self]
 first | refine s_go (s_pick_t) ?_ | refine s_go (s_pick_f) ?_
 try simp only [opv, n1, n2, n3, n4, Value.cells]
 refine s_go (s_move) ?_
 try simp only [opv, n1, n2, n3, n4, Value.cells]
 refine g_on (yi (t := 22) rfl rfl) ?_
 refine s_go (m_load_row Try.underlying72 (hi := ti72) (hS := hS) (hfit := by rw [setC_size (by assumption)])) ?_
 try simp only [opv, n1, n2, n3, n4, Value.cells, List.getElem_toArray, List.getElem_cons_zero, List.getElem_cons_succ]
 refine g_on (yi (t := 22) rfl rfl) ?_
 refine s_call en42 ?_
 try simp only [opv, n1, n2, n3, n4, Value.cells, List.map_toArray, List.map_cons, List.map_nil, List.append_toArray, List.cons_append, List.nil_append, Array.append_empty]
 refine CallR.mono (c_dotsCount _ fl2 fl2_ok D e [4] (hS.vecRd (by repeat (first | exact Has.head | apply Has.tail))) (u_one (by decide)) (by decide)) ?_
 rintro _ w7 ⟨rfl, hE7⟩
 replace hS := hS.ext hE7
 try simp only [opv, n1, n2, n3, n4, Value.cells]
 rw [dal_3]
 refine g_on (yi (t := 22) rfl rfl) ?_
 refine s_go (s_eql) ?_
 try simp only [opv, n1, n2, n3, n4, Value.cells]
 try simp only [eq_self, decide_true, beq_self_eq_true, Bool.and_self]
 first | refine s_go (s_pick_t) ?_ | refine s_go (s_pick_f) ?_
 try simp only [opv, n1, n2, n3, n4, Value.cells]
 refine s_go (s_assign) ?_
 try simp only [opv, n1, n2, n3, n4, Value.cells]
 refine x_nil ?_
 refine hK3 _ _ ?_
 refine x_ret ?_
 refine r_tmp rfl ?_
 exact ⟨rfl, hS.ext_of⟩
theorem c_DotsAdds (w0 : World) (x : List Int) (hx : VOk x) (A : Option Addr) (c : Nat) (cl : List Int) (hr : Rd w0 A 1 cl.length (List.map (Value.int .u64) cl)) (hu : U64s cl) (B : Option Addr) (d : Nat) (l : List Int) (hr2 : Rd w0 B 1 l.length (List.map (Value.int .u64) l)) (hu2 : U64s l) (q : Nat) (hq : q < 18446744073709551616)  :
    CallR Try.prog 6 #[.agg (SetC x (.slice A cl.length c)), .slice B l.length d, .int .u64 (q : Int)] w0 fun v w' => v = .bool true ∧ Ext w0 w' := by
 have hS := St.rd2 (S := NoB) hr hr2
 have hxl := hx.len
 have h0l : (List.replicate 16 (0 : Int)).length = 16 := rfl
 refine c_enter (l := [.agg (SetC x (.slice A cl.length c)), .slice B l.length d, .int .u64 (q : Int), undef, undef, undef, undef, undef, undef, undef, undef, undef, undef, undef, undef, undef, undef, undef, undef, undef, undef, undef, undef, undef, undef, undef, undef, undef, undef, undef, undef, undef, undef, undef, undef, undef, undef, undef, undef, undef, undef, undef, undef, undef, undef, undef, undef, undef, undef, undef, undef, undef, undef, undef, undef, undef, undef, undef, undef, undef, undef, undef, undef, undef]) Try.func6 rfl (by simp only [Try.ntmps6, List.size_toArray, List.length_cons, List.length_nil, Nat.reduceAdd, Nat.reduceSub, Array.replicate_succ, Array.replicate_zero, List.push_toArray, List.append_toArray, List.nil_append, List.cons_append]) ?_
 refine x_seq fun K1 hK1 => ?_
 refine x_region ?_
 refine m_box hS (fun w1 g1 hS => ?_)
 try simp only [opv, n1, n2, n3, n4, Value.cells, Array.toArray_toList] at hS ⊢
 obtain ⟨gx, hgx⟩ : ∃ z, z = g1 := ⟨_, rfl⟩
 rw [← hgx] at hS ⊢
 replace hS := hS.rd_none none 1
 refine s_go (s_assign) ?_
 try simp only [opv, n1, n2, n3, n4, Value.cells]
 refine x_nil ?_
 refine hK1 _ _ ?_
 refine x_seq fun K2 hK2 => ?_
 refine x_seq fun K3 hK3 => ?_
 refine x_region ?_
 first | refine s_go (m_fieldAddr Try.underlying67 (hi := ti65)) ?_ | refine s_go (m_fieldAddr_rd Try.underlying67 (hi := ti65) (hS := hS)) ?_ | refine s_go (m_fieldAddr_vec Try.underlying67 (hi := ti65) (hS := hS)) ?_
 try simp only [opv, n1, n2, n3, n4, Value.cells, Nat.zero_add, Nat.add_zero, List.getElem_toArray, List.getElem_cons_zero, List.getElem_cons_succ]
 refine s_go (m_load_obj Try.underlying65 (hS := hS) (hv := set_sl (by assumption) _)) ?_
 try simp only [opv, n1, n2, n3, n4, Value.cells, List.getElem_toArray, List.getElem_cons_zero, List.getElem_cons_succ]
 refine s_go (s_len_sl Try.underlying65) ?_
 try simp only [opv, n1, n2, n3, n4, Value.cells]
 refine s_go (s_gtr) ?_
 try simp only [opv, n1, n2, n3, n4, Value.cells]
 refine s_go (s_move) ?_
 try simp only [opv, n1, n2, n3, n4, Value.cells]
 refine s_part 11 rfl (fun hp1 => ?_) (fun hp1 => ?_)
 ·
  try simp only [n3, n4]
  try simp only [decide_eq_true_eq, decide_eq_false_iff_not, Bool.not_eq_true', Bool.not_eq_false', Int.not_lt, Int.not_le, ne_eq, Decidable.not_not] at hp1
  first
  | (exfalso; omega)
  | skip
    refine g_off (yi (t := 11) rfl rfl) ?_
    try simp only [opv, n1, n2, n3, n4, Value.cells]
    refine g_off (yi (t := 11) rfl rfl) ?_
    try simp only [opv, n1, n2, n3, n4, Value.cells]
    refine g_off (yi (t := 11) rfl rfl) ?_
    try simp only [opv, n1, n2, n3, n4, Value.cells]
    first | refine s_go (s_pick_t) ?_ | refine s_go (s_pick_f) ?_
    try simp only [opv, n1, n2, n3, n4, Value.cells]
    refine x_nil ?_
    refine hK3 _ _ ?_
    refine x_cond_t (h := ?_)
    refine x_seq fun K4 hK4 => ?_
    refine x_region ?_
    refine s_call en31 ?_
    try simp only [opv, n1, n2, n3, n4, Value.cells, List.map_toArray, List.map_cons, List.map_nil, List.append_toArray, List.cons_append, List.nil_append, Array.append_empty]
    refine CallR.mono (c_law13alive _) ?_
    rintro _ w2 ⟨rfl, hE2⟩
    replace hS := hS.ext hE2
    try simp only [opv, n1, n2, n3, n4, Value.cells]
    refine s_go (s_assign) ?_
    try simp only [opv, n1, n2, n3, n4, Value.cells]
    refine x_nil ?_
    refine hK4 _ _ ?_
    refine x_ret ?_
    refine r_tmp rfl ?_
    first | exact ⟨rfl, hEE⟩ | exact ⟨rfl, hS.ext_of⟩
 ·
  try simp only [n3, n4]
  try simp only [decide_eq_true_eq, decide_eq_false_iff_not, Bool.not_eq_true', Bool.not_eq_false', Int.not_lt, Int.not_le, ne_eq, Decidable.not_not] at hp1
  first
  | (exfalso; omega)
  | skip
    refine g_on (yi (t := 11) rfl rfl) ?_
    refine s_go (s_move) ?_
    try simp only [opv, n1, n2, n3, n4, Value.cells]
    refine g_on (yi (t := 11) rfl rfl) ?_
    refine s_go (s_len_sl Try.underlying65) ?_
    try simp only [opv, n1, n2, n3, n4, Value.cells]
    refine g_on (yi (t := 11) rfl rfl) ?_
    refine s_go (s_gtr) ?_
    try simp only [opv, n1, n2, n3, n4, Value.cells]
    first | refine s_go (s_pick_t) ?_ | refine s_go (s_pick_f) ?_
    try simp only [opv, n1, n2, n3, n4, Value.cells]
    refine x_nil ?_
    refine hK3 _ _ ?_
    refine x_cond (ht := fun hc2 => ?_) (hf := fun hc2 => ?_)
    ·
     try simp only [decide_eq_true_eq, decide_eq_false_iff_not, Bool.not_eq_true', Bool.not_eq_false', Int.not_lt, Int.not_le, ne_eq, Decidable.not_not, bne_iff_ne, beq_iff_eq, not_true_eq_false, not_false_eq_true] at hc2
     first
     | (exfalso; omega)
     | skip
       refine x_seq fun K5 hK5 => ?_
       refine x_region ?_
       refine s_call en31 ?_
       try simp only [opv, n1, n2, n3, n4, Value.cells, List.map_toArray, List.map_cons, List.map_nil, List.append_toArray, List.cons_append, List.nil_append, Array.append_empty]
       refine CallR.mono (c_law13alive _) ?_
       rintro _ w3 ⟨rfl, hE3⟩
       replace hS := hS.ext hE3
       try simp only [opv, n1, n2, n3, n4, Value.cells]
       refine s_go (s_assign) ?_
       try simp only [opv, n1, n2, n3, n4, Value.cells]
       refine x_nil ?_
       refine hK5 _ _ ?_
       refine x_ret ?_
       refine r_tmp rfl ?_
       first | exact ⟨rfl, hEE⟩ | exact ⟨rfl, hS.ext_of⟩
    ·
     try simp only [decide_eq_true_eq, decide_eq_false_iff_not, Bool.not_eq_true', Bool.not_eq_false', Int.not_lt, Int.not_le, ne_eq, Decidable.not_not, bne_iff_ne, beq_iff_eq, not_true_eq_false, not_false_eq_true] at hc2
     first
     | (exfalso; omega)
     | skip
       have hln : cl.length + l.length ≤ 80 := by omega
       have hp0 := addS_ok VOk.zero l
       obtain ⟨hp0v, hp0u, hp0n⟩ := hp0
       have hp0l := hp0v.len
       have hp1 := addS_ok hx (cl ++ l)
       obtain ⟨hp1v, hp1u, hp1n⟩ := hp1
       have hp1l := hp1v.len
       rw [List.length_append] at hp1n
       refine x_skip ?_
       refine hK2 _ _ ?_
       refine x_seq fun K6 hK6 => ?_
       refine x_mixed_c (Lc := [.obj gx (.cells (SetC x (.slice A cl.length c)) 67 (0, 0)), .rd A 1 cl.length (List.map (Value.int .u64) cl), .rd none 1 0 [], .rd B 1 l.length (List.map (Value.int .u64) l)]) [] 0 [6, 17, 18, 19, 20, 21, 22, 23, 24, 25, 26, 27, 28, 29, 30, 31, 32, 33, 34, 35, 36, 37, 38, 39, 40, 41, 42, 43, 44, 45, 46, 47, 48, 49, 50, 51, 52, 53, 54, 55, 56, 57, 58, 59, 60, 61, 62, 63] (fun f w => f 6 = .bool true ∧ Ext w0 w) (by kernel_rfl) (by kernel_rfl) (by kernel_rfl) (by decide) hS (fun w4 hS => ?mixpre301) ?mixrest301
       case mixpre301 =>
        refine p_nil ?_
        simp only [List.length_cons, List.length_nil, Nat.reduceAdd, Nat.reduceSub]
        refine any_go (i := 0) (by rfl) (by decide +kernel) (by decide +kernel) noLate_nil (go_yields w_none (fun w hS => s_move)) ?_
        try simp only [opv, n1, n2, n3, n4, Value.cells]
        refine any_go (i := 3) (by rfl) (by decide +kernel) (by decide +kernel) noLate_nil (go_yields w_none (fun w hS => s_build_struct (cells := #[.int .u32 0, .int .u32 0, .int .u32 0, .int .u32 0, .int .u32 0, .int .u32 0, .int .u32 0, .int .u32 0, .int .u32 0, .int .u32 0, .int .u32 0, .int .u32 0, .int .u32 0, .int .u32 0, .int .u32 0, .int .u32 0, .slice none 0 0]) Try.underlying67 ti67 bp67 (hc := by simp only [List.map_toArray, List.map_cons, List.map_nil, opv, n1, n2, n3, n4, Value.cells, List.toList_toArray]; (repeat (refine fill_cons rfl rfl (Nat.le_of_ble_eq_true rfl) ?_)); rfl))) ?_
        try simp only [opv, n1, n2, n3, n4, Value.cells]
        rw [show (#[.int .u32 0, .int .u32 0, .int .u32 0, .int .u32 0, .int .u32 0, .int .u32 0, .int .u32 0, .int .u32 0, .int .u32 0, .int .u32 0, .int .u32 0, .int .u32 0, .int .u32 0, .int .u32 0, .int .u32 0, .int .u32 0, .slice none 0 0] : Array Value) = SetC (List.replicate 16 0) (.slice none 0 0) from rfl]
        refine any_go (i := 4) (by rfl) (by decide +kernel) (by decide +kernel) noLate_nil (go_yields w_none (fun w hS => s_move)) ?_
        try simp only [opv, n1, n2, n3, n4, Value.cells]
        refine any_step [1] (by kernel_rfl) (by decide) (fun w5 hE => ⟨fun _ => (hS.ext hE).sel (by repeat (first | exact Sel.nil | (refine Sel.cons (by repeat (first | exact Del.head | apply Del.tail)) ?_))), ?_⟩)
        replace hS := hS.ext hE
        intro i hi
        simp only [List.mem_cons, List.not_mem_nil, or_false] at hi
        subst hi
        ·
         refine any_op (by rfl) ?_
         refine s_call en34 ?_
         try simp only [opv, n1, n2, n3, n4, Value.cells, List.map_toArray, List.map_cons, List.map_nil, List.append_toArray, List.cons_append, List.nil_append, Array.append_empty]
         refine CallR.mono (c_dotsOf _ B d l (hS.hasRd (by repeat (first | exact Has.head | apply Has.tail))) hu2 (by omega)) ?_
         rintro _ w6 ⟨D0, e0, rfl, hC6⟩
         replace hS := hS.call hC6
         simp only [List.cons_append, List.nil_append, List.append_nil] at hS ⊢
         try simp only [opv, n1, n2, n3, n4, Value.cells]
         refine x_nil ?_
         apply any_go (i := 2) (by rfl) (by decide +kernel) (by decide +kernel) noLate_nil (call_yields w_none en33 ?H1) ?K1
         case H1 =>
           intro w hS
           try simp only [opv, n1, n2, n3, n4, List.map_toArray, List.map_cons, List.map_nil, List.append_toArray, List.cons_append, List.nil_append, Array.append_empty]
           refine CallR.mono (c_from13 _ (by assumption) _ _ _ _) ?_
           rintro _ w1 ⟨rfl, hE⟩; exact ⟨rfl, hE⟩
         try simp only [opv, n1, n2, n3, n4, Value.cells]
         refine any_step [5] (by kernel_rfl) (by decide) (fun w7 hE => ⟨fun _ => (hS.ext hE).sel (by repeat (first | exact Sel.nil | (refine Sel.cons (by repeat (first | exact Del.head | apply Del.tail)) ?_))), ?_⟩)
         replace hS := hS.ext hE
         intro i hi
         simp only [List.mem_cons, List.not_mem_nil, or_false] at hi
         subst hi
         ·
          refine any_op (by rfl) ?_
          refine s_call en35 ?_
          try simp only [opv, n1, n2, n3, n4, Value.cells, List.map_toArray, List.map_cons, List.map_nil, List.append_toArray, List.cons_append, List.nil_append, Array.append_empty]
          refine CallR.mono (c_ref13Add _ (List.replicate 16 0) VOk.zero none 0 [] (hS.hasRd (by repeat (first | exact Has.head | apply Has.tail))) U64s.nil B d l (hS.hasRd (by repeat (first | exact Has.head | apply Has.tail))) hu2 (by rw [List.length_nil]; omega)) ?_
          rintro _ w8 ⟨D1, e1, rfl, hC8⟩
          replace hS := hS.call hC8
          simp only [List.cons_append, List.nil_append, List.append_nil] at hS ⊢
          try simp only [opv, n1, n2, n3, n4, Value.cells]
          refine x_nil ?_
          refine any_step [6] (by kernel_rfl) (by decide) (fun w9 hE => ⟨fun _ => (hS.ext hE).sel (by repeat (first | exact Sel.nil | (refine Sel.cons (by repeat (first | exact Del.head | apply Del.tail)) ?_))), ?_⟩)
          replace hS := hS.ext hE
          intro i hi
          simp only [List.mem_cons, List.not_mem_nil, or_false] at hi
          subst hi
          ·
           refine any_op (by rfl) ?_
           refine s_call en32 ?_
           try simp only [opv, n1, n2, n3, n4, Value.cells, List.map_toArray, List.map_cons, List.map_nil, List.append_toArray, List.cons_append, List.nil_append, Array.append_empty]
           refine CallR.mono (c_ref13Same _ _ _ hp0l hp0l D0 e0 _ (hS.vecRd (by repeat (first | exact Has.head | apply Has.tail))) hp0u D1 e1 _ (hS.vecRd (by repeat (first | exact Has.head | apply Has.tail))) hp0u (by omega)) ?_
           rintro _ w10 ⟨rfl, hE10⟩
           replace hS := hS.ext hE10
           try simp only [opv, n1, n2, n3, n4, Value.cells]
           try simp only [eq_self, decide_true, beq_self_eq_true, Bool.and_self]
           refine x_nil ?_
           refine any_go (i := 7) (by rfl) (by decide +kernel) (by decide +kernel) noLate_nil (go_yields w_none (fun w hS => s_move)) ?_
           try simp only [opv, n1, n2, n3, n4, Value.cells]
           refine any_go (i := 8) (by rfl) (by decide +kernel) (by decide +kernel) noLate_nil (go_yields (w_on (yi (t := 24) rfl rfl)) (fun w hS => m_load_row Try.underlying67 (hi := ti67) (hS := hS) (hfit := by rw [setC_size (by assumption)]))) ?_
           try simp only [opv, n1, n2, n3, n4, Value.cells, List.getElem_toArray, List.getElem_cons_zero, List.getElem_cons_succ]
           apply any_go (i := 9) (by rfl) (by decide +kernel) (by decide +kernel) noLate_nil (call_yields (w_on (yi (t := 24) rfl rfl)) en37 ?H2) ?K2
           case H2 =>
             intro w hS
             try simp only [opv, n1, n2, n3, n4, List.map_toArray, List.map_cons, List.map_nil, List.append_toArray, List.cons_append, List.nil_append, Array.append_empty]
             refine CallR.mono (c_to13 _ (by assumption) _ _ _ _) ?_
             rintro _ w1 ⟨rfl, hE⟩; exact ⟨rfl, hE⟩
           try simp only [opv, n1, n2, n3, n4, Value.cells]
           refine any_go (i := 10) (by rfl) (by decide +kernel) (by decide +kernel) noLate_nil (go_yields (w_on (yi (t := 24) rfl rfl)) (fun w hS => s_move)) ?_
           try simp only [opv, n1, n2, n3, n4, Value.cells]
           refine any_go (i := 13) (by rfl) (by decide +kernel) (by decide +kernel) noLate_nil (go_yields (w_on (yi (t := 24) rfl rfl)) (fun w hS => m_load_row Try.underlying67 (hi := ti67) (hS := hS) (hfit := by rw [setC_size (by assumption)]))) ?_
           try simp only [opv, n1, n2, n3, n4, Value.cells, List.getElem_toArray, List.getElem_cons_zero, List.getElem_cons_succ]
           refine any_go (i := 14) (by rfl) (by decide +kernel) (by decide +kernel) noLate_nil (go_yields (w_on (yi (t := 24) rfl rfl)) (fun w hS => s_move)) ?_
           try simp only [opv, n1, n2, n3, n4, Value.cells]
           refine any_step [11] (by kernel_rfl) (by decide) (fun w11 hE => ⟨fun _ => (hS.ext hE).sel (by repeat (first | exact Sel.nil | (refine Sel.cons (by repeat (first | exact Del.head | apply Del.tail)) ?_))), ?_⟩)
           replace hS := hS.ext hE
           intro i hi
           simp only [List.mem_cons, List.not_mem_nil, or_false] at hi
           subst hi
           ·
            refine any_op (by rfl) ?_
            refine g_on (yi (t := 24) rfl rfl) ?_
            refine s_call en36 ?_
            try simp only [opv, n1, n2, n3, n4, Value.cells, List.map_toArray, List.map_cons, List.map_nil, List.append_toArray, List.cons_append, List.nil_append, Array.append_empty]
            refine CallR.mono (c_dotsAdd _ x hx A c cl (hS.hasRd (by repeat (first | exact Has.head | apply Has.tail))) hu B d l (hS.hasRd (by repeat (first | exact Has.head | apply Has.tail))) hu2 (by omega)) ?_
            rintro _ w12 ⟨D2, e2, rfl, hC12⟩
            replace hS := hS.call hC12
            simp only [List.cons_append, List.nil_append, List.append_nil] at hS ⊢
            try simp only [opv, n1, n2, n3, n4, Value.cells]
            refine x_nil ?_
            apply any_go (i := 12) (by rfl) (by decide +kernel) (by decide +kernel) noLate_nil (call_yields (w_on (yi (t := 24) rfl rfl)) en33 ?H3) ?K3
            case H3 =>
              intro w hS
              try simp only [opv, n1, n2, n3, n4, List.map_toArray, List.map_cons, List.map_nil, List.append_toArray, List.cons_append, List.nil_append, Array.append_empty]
              refine CallR.mono (c_from13 _ (by assumption) _ _ _ _) ?_
              rintro _ w1 ⟨rfl, hE⟩; exact ⟨rfl, hE⟩
            try simp only [opv, n1, n2, n3, n4, Value.cells]
            refine any_step [15] (by kernel_rfl) (by decide) (fun w13 hE => ⟨fun _ => (hS.ext hE).sel (by repeat (first | exact Sel.nil | (refine Sel.cons (by repeat (first | exact Del.head | apply Del.tail)) ?_))), ?_⟩)
            replace hS := hS.ext hE
            intro i hi
            simp only [List.mem_cons, List.not_mem_nil, or_false] at hi
            subst hi
            ·
             refine any_op (by rfl) ?_
             refine g_on (yi (t := 24) rfl rfl) ?_
             refine s_call en35 ?_
             try simp only [opv, n1, n2, n3, n4, Value.cells, List.map_toArray, List.map_cons, List.map_nil, List.append_toArray, List.cons_append, List.nil_append, Array.append_empty]
             refine CallR.mono (c_ref13Add _ x hx A c cl (hS.hasRd (by repeat (first | exact Has.head | apply Has.tail))) hu B d l (hS.hasRd (by repeat (first | exact Has.head | apply Has.tail))) hu2 (by omega)) ?_
             rintro _ w14 ⟨D3, e3, rfl, hC14⟩
             replace hS := hS.call hC14
             simp only [List.cons_append, List.nil_append, List.append_nil] at hS ⊢
             try simp only [opv, n1, n2, n3, n4, Value.cells]
             refine x_nil ?_
             refine any_step [16] (by kernel_rfl) (by decide) (fun w15 hE => ⟨fun _ => (hS.ext hE).sel (by repeat (first | exact Sel.nil | (refine Sel.cons (by repeat (first | exact Del.head | apply Del.tail)) ?_))), ?_⟩)
             replace hS := hS.ext hE
             intro i hi
             simp only [List.mem_cons, List.not_mem_nil, or_false] at hi
             subst hi
             ·
              refine any_op (by rfl) ?_
              refine g_on (yi (t := 24) rfl rfl) ?_
              refine s_call en32 ?_
              try simp only [opv, n1, n2, n3, n4, Value.cells, List.map_toArray, List.map_cons, List.map_nil, List.append_toArray, List.cons_append, List.nil_append, Array.append_empty]
              refine CallR.mono (c_ref13Same _ _ _ hp1l hp1l D2 e2 _ (hS.vecRd (by repeat (first | exact Has.head | apply Has.tail))) hp1u D3 e3 _ (hS.vecRd (by repeat (first | exact Has.head | apply Has.tail))) hp1u (by omega)) ?_
              rintro _ w16 ⟨rfl, hE16⟩
              replace hS := hS.ext hE16
              try simp only [opv, n1, n2, n3, n4, Value.cells]
              try simp only [eq_self, decide_true, beq_self_eq_true, Bool.and_self]
              refine x_nil ?_
              first | refine any_go (i := 17) (by rfl) (by decide +kernel) (by decide +kernel) noLate_nil (go_yields w_none (fun w hS => s_pick_t)) ?_ | refine any_go (i := 17) (by rfl) (by decide +kernel) (by decide +kernel) noLate_nil (go_yields w_none (fun w hS => s_pick_f)) ?_
              try simp only [opv, n1, n2, n3, n4, Value.cells]
              refine any_go (i := 18) (by rfl) (by decide +kernel) (by decide +kernel) noLate_nil (go_yields w_none (fun w hS => s_move)) ?_
              try simp only [opv, n1, n2, n3, n4, Value.cells]
              refine any_go (i := 19) (by rfl) (by decide +kernel) (by decide +kernel) noLate_nil (go_yields (w_on (yi (t := 35) rfl rfl)) (fun w hS => m_load_row Try.underlying67 (hi := ti67) (hS := hS) (hfit := by rw [setC_size (by assumption)]))) ?_
              try simp only [opv, n1, n2, n3, n4, Value.cells, List.getElem_toArray, List.getElem_cons_zero, List.getElem_cons_succ]
              apply any_go (i := 20) (by rfl) (by decide +kernel) (by decide +kernel) noLate_nil (call_yields (w_on (yi (t := 35) rfl rfl)) en37 ?H4) ?K4
              case H4 =>
                intro w hS
                try simp only [opv, n1, n2, n3, n4, List.map_toArray, List.map_cons, List.map_nil, List.append_toArray, List.cons_append, List.nil_append, Array.append_empty]
                refine CallR.mono (c_to13 _ (by assumption) _ _ _ _) ?_
                rintro _ w1 ⟨rfl, hE⟩; exact ⟨rfl, hE⟩
              try simp only [opv, n1, n2, n3, n4, Value.cells]
              apply any_go (i := 21) (by rfl) (by decide +kernel) (by decide +kernel) noLate_nil (call_yields (w_on (yi (t := 35) rfl rfl)) en38 ?H5) ?K5
              case H5 =>
                intro w hS
                try simp only [opv, n1, n2, n3, n4, List.map_toArray, List.map_cons, List.map_nil, List.append_toArray, List.cons_append, List.nil_append, Array.append_empty]
                refine CallR.mono (c_dotsRight _ x hx A c cl (hS.hasRd (by repeat (first | exact Has.head | apply Has.tail))) hu (by omega)) ?_
                rintro _ w1 ⟨rfl, hE⟩; exact ⟨rfl, hE⟩
              try simp only [opv, n1, n2, n3, n4, Value.cells]
              refine any_go (i := 22) (by rfl) (by decide +kernel) (by decide +kernel) noLate_nil (go_yields (w_on (yi (t := 35) rfl rfl)) (fun w hS => m_load_row Try.underlying67 (hi := ti67) (hS := hS) (hfit := by rw [setC_size (by assumption)]))) ?_
              try simp only [opv, n1, n2, n3, n4, Value.cells, List.getElem_toArray, List.getElem_cons_zero, List.getElem_cons_succ]
              apply any_go (i := 23) (by rfl) (by decide +kernel) (by decide +kernel) noLate_nil (call_yields (w_on (yi (t := 35) rfl rfl)) en39 ?H6) ?K6
              case H6 =>
                intro w hS
                try simp only [opv, n1, n2, n3, n4, List.map_toArray, List.map_cons, List.map_nil, List.append_toArray, List.cons_append, List.nil_append, Array.append_empty]
                refine CallR.mono (c_ref13Right _ x hx A c cl (hS.hasRd (by repeat (first | exact Has.head | apply Has.tail))) hu (by omega)) ?_
                rintro _ w1 ⟨rfl, hE⟩; exact ⟨rfl, hE⟩
              try simp only [opv, n1, n2, n3, n4, Value.cells]
              refine any_go (i := 24) (by rfl) (by decide +kernel) (by decide +kernel) noLate_nil (go_yields (w_on (yi (t := 35) rfl rfl)) (fun w hS => s_eql_bool Try.underlying4)) ?_
              try simp only [opv, n1, n2, n3, n4, Value.cells]
              try simp only [eq_self, decide_true, beq_self_eq_true, Bool.and_self]
              first | refine any_go (i := 25) (by rfl) (by decide +kernel) (by decide +kernel) noLate_nil (go_yields w_none (fun w hS => s_pick_t)) ?_ | refine any_go (i := 25) (by rfl) (by decide +kernel) (by decide +kernel) noLate_nil (go_yields w_none (fun w hS => s_pick_f)) ?_
              try simp only [opv, n1, n2, n3, n4, Value.cells]
              refine any_go (i := 26) (by rfl) (by decide +kernel) (by decide +kernel) noLate_nil (go_yields w_none (fun w hS => s_move)) ?_
              try simp only [opv, n1, n2, n3, n4, Value.cells]
              refine any_go (i := 27) (by rfl) (by decide +kernel) (by decide +kernel) noLate_nil (go_yields (w_on (yi (t := 43) rfl rfl)) (fun w hS => m_load_row Try.underlying67 (hi := ti67) (hS := hS) (hfit := by rw [setC_size (by assumption)]))) ?_
              try simp only [opv, n1, n2, n3, n4, Value.cells, List.getElem_toArray, List.getElem_cons_zero, List.getElem_cons_succ]
              apply any_go (i := 28) (by rfl) (by decide +kernel) (by decide +kernel) noLate_nil (call_yields (w_on (yi (t := 43) rfl rfl)) en37 ?H7) ?K7
              case H7 =>
                intro w hS
                try simp only [opv, n1, n2, n3, n4, List.map_toArray, List.map_cons, List.map_nil, List.append_toArray, List.cons_append, List.nil_append, Array.append_empty]
                refine CallR.mono (c_to13 _ (by assumption) _ _ _ _) ?_
                rintro _ w1 ⟨rfl, hE⟩; exact ⟨rfl, hE⟩
              try simp only [opv, n1, n2, n3, n4, Value.cells]
              refine any_go (i := 29) (by rfl) (by decide +kernel) (by decide +kernel) noLate_nil (go_yields (w_on (yi (t := 43) rfl rfl)) (fun w hS => s_move)) ?_
              try simp only [opv, n1, n2, n3, n4, Value.cells]
              apply any_go (i := 30) (by rfl) (by decide +kernel) (by decide +kernel) noLate_nil (call_yields (w_on (yi (t := 43) rfl rfl)) en40 ?H8) ?K8
              case H8 =>
                intro w hS
                try simp only [opv, n1, n2, n3, n4, List.map_toArray, List.map_cons, List.map_nil, List.append_toArray, List.cons_append, List.nil_append, Array.append_empty]
                refine CallR.mono (c_dotsHas _ x hx A c cl (hS.hasRd (by repeat (first | exact Has.head | apply Has.tail))) hu (by omega) q hq) ?_
                rintro _ w1 ⟨rfl, hE⟩; exact ⟨rfl, hE⟩
              try simp only [opv, n1, n2, n3, n4, Value.cells]
              refine any_go (i := 31) (by rfl) (by decide +kernel) (by decide +kernel) noLate_nil (go_yields (w_on (yi (t := 43) rfl rfl)) (fun w hS => m_load_row Try.underlying67 (hi := ti67) (hS := hS) (hfit := by rw [setC_size (by assumption)]))) ?_
              try simp only [opv, n1, n2, n3, n4, Value.cells, List.getElem_toArray, List.getElem_cons_zero, List.getElem_cons_succ]
              refine any_go (i := 32) (by rfl) (by decide +kernel) (by decide +kernel) noLate_nil (go_yields (w_on (yi (t := 43) rfl rfl)) (fun w hS => s_move)) ?_
              try simp only [opv, n1, n2, n3, n4, Value.cells]
              apply any_go (i := 33) (by rfl) (by decide +kernel) (by decide +kernel) noLate_nil (call_yields (w_on (yi (t := 43) rfl rfl)) en41 ?H9) ?K9
              case H9 =>
                intro w hS
                try simp only [opv, n1, n2, n3, n4, List.map_toArray, List.map_cons, List.map_nil, List.append_toArray, List.cons_append, List.nil_append, Array.append_empty]
                refine CallR.mono (c_ref13Has _ x hx A c cl (hS.hasRd (by repeat (first | exact Has.head | apply Has.tail))) hu (by omega) q hq) ?_
                rintro _ w1 ⟨rfl, hE⟩; exact ⟨rfl, hE⟩
              try simp only [opv, n1, n2, n3, n4, Value.cells]
              refine any_go (i := 34) (by rfl) (by decide +kernel) (by decide +kernel) noLate_nil (go_yields (w_on (yi (t := 43) rfl rfl)) (fun w hS => s_eql_bool Try.underlying4)) ?_
              try simp only [opv, n1, n2, n3, n4, Value.cells]
              try simp only [eq_self, decide_true, beq_self_eq_true, Bool.and_self]
              first | refine any_go (i := 35) (by rfl) (by decide +kernel) (by decide +kernel) noLate_nil (go_yields w_none (fun w hS => s_pick_t)) ?_ | refine any_go (i := 35) (by rfl) (by decide +kernel) (by decide +kernel) noLate_nil (go_yields w_none (fun w hS => s_pick_f)) ?_
              try simp only [opv, n1, n2, n3, n4, Value.cells]
              refine any_go (i := 36) (by rfl) (by decide +kernel) (by decide +kernel) noLate_nil (go_yields w_none (fun w hS => s_move)) ?_
              try simp only [opv, n1, n2, n3, n4, Value.cells]
              refine any_go (i := 37) (by rfl) (by decide +kernel) (by decide +kernel) noLate_nil (go_yields (w_on (yi (t := 53) rfl rfl)) (fun w hS => m_load_row Try.underlying67 (hi := ti67) (hS := hS) (hfit := by rw [setC_size (by assumption)]))) ?_
              try simp only [opv, n1, n2, n3, n4, Value.cells, List.getElem_toArray, List.getElem_cons_zero, List.getElem_cons_succ]
              apply any_go (i := 38) (by rfl) (by decide +kernel) (by decide +kernel) noLate_nil (call_yields (w_on (yi (t := 53) rfl rfl)) en37 ?H10) ?K10
              case H10 =>
                intro w hS
                try simp only [opv, n1, n2, n3, n4, List.map_toArray, List.map_cons, List.map_nil, List.append_toArray, List.cons_append, List.nil_append, Array.append_empty]
                refine CallR.mono (c_to13 _ (by assumption) _ _ _ _) ?_
                rintro _ w1 ⟨rfl, hE⟩; exact ⟨rfl, hE⟩
              try simp only [opv, n1, n2, n3, n4, Value.cells]
              apply any_go (i := 39) (by rfl) (by decide +kernel) (by decide +kernel) noLate_nil (call_yields (w_on (yi (t := 53) rfl rfl)) en42 ?H11) ?K11
              case H11 =>
                intro w hS
                try simp only [opv, n1, n2, n3, n4, List.map_toArray, List.map_cons, List.map_nil, List.append_toArray, List.cons_append, List.nil_append, Array.append_empty]
                refine CallR.mono (c_dotsCount _ x hx A c cl (hS.hasRd (by repeat (first | exact Has.head | apply Has.tail))) hu (by omega)) ?_
                rintro _ w1 ⟨rfl, hE⟩; exact ⟨rfl, hE⟩
              try simp only [opv, n1, n2, n3, n4, Value.cells]
              refine any_go (i := 40) (by rfl) (by decide +kernel) (by decide +kernel) noLate_nil (go_yields (w_on (yi (t := 53) rfl rfl)) (fun w hS => m_load_row Try.underlying67 (hi := ti67) (hS := hS) (hfit := by rw [setC_size (by assumption)]))) ?_
              try simp only [opv, n1, n2, n3, n4, Value.cells, List.getElem_toArray, List.getElem_cons_zero, List.getElem_cons_succ]
              apply any_go (i := 41) (by rfl) (by decide +kernel) (by decide +kernel) noLate_nil (call_yields (w_on (yi (t := 53) rfl rfl)) en43 ?H12) ?K12
              case H12 =>
                intro w hS
                try simp only [opv, n1, n2, n3, n4, List.map_toArray, List.map_cons, List.map_nil, List.append_toArray, List.cons_append, List.nil_append, Array.append_empty]
                refine CallR.mono (c_ref13Count _ x hx A c cl (hS.hasRd (by repeat (first | exact Has.head | apply Has.tail))) hu (by omega)) ?_
                rintro _ w1 ⟨rfl, hE⟩; exact ⟨rfl, hE⟩
              try simp only [opv, n1, n2, n3, n4, Value.cells]
              refine any_go (i := 42) (by rfl) (by decide +kernel) (by decide +kernel) noLate_nil (go_yields (w_on (yi (t := 53) rfl rfl)) (fun w hS => s_eql)) ?_
              try simp only [opv, n1, n2, n3, n4, Value.cells]
              try simp only [eq_self, decide_true, beq_self_eq_true, Bool.and_self]
              first | refine any_go (i := 43) (by rfl) (by decide +kernel) (by decide +kernel) noLate_nil (go_yields w_none (fun w hS => s_pick_t)) ?_ | refine any_go (i := 43) (by rfl) (by decide +kernel) (by decide +kernel) noLate_nil (go_yields w_none (fun w hS => s_pick_f)) ?_
              try simp only [opv, n1, n2, n3, n4, Value.cells]
              refine any_go (i := 44) (by rfl) (by decide +kernel) (by decide +kernel) noLate_nil (go_yields w_none (fun w hS => s_move)) ?_
              try simp only [opv, n1, n2, n3, n4, Value.cells]
              apply any_go (i := 45) (by rfl) (by decide +kernel) (by decide +kernel) noLate_nil (call_yields (w_on (yi (t := 61) rfl rfl)) en31 ?H13) ?K13
              case H13 =>
                intro w hS
                try simp only [opv, n1, n2, n3, n4, List.map_toArray, List.map_cons, List.map_nil, List.append_toArray, List.cons_append, List.nil_append, Array.append_empty]
                refine CallR.mono (c_law13alive _) ?_
                rintro _ w1 ⟨rfl, hE⟩; exact ⟨rfl, hE⟩
              try simp only [opv, n1, n2, n3, n4, Value.cells]
              first | refine any_go (i := 46) (by rfl) (by decide +kernel) (by decide +kernel) noLate_nil (go_yields w_none (fun w hS => s_pick_t)) ?_ | refine any_go (i := 46) (by rfl) (by decide +kernel) (by decide +kernel) noLate_nil (go_yields w_none (fun w hS => s_pick_f)) ?_
              try simp only [opv, n1, n2, n3, n4, Value.cells]
              refine any_go (i := 47) (by rfl) (by decide +kernel) (by decide +kernel) noLate_nil (go_yields w_none (fun w hS => s_assign)) ?_
              try simp only [opv, n1, n2, n3, n4, Value.cells]
              refine any_nil (by kernel_rfl) (fun w17 hE => ?_)
              replace hS := hS.ext hE
              refine ⟨fun _ => hS.sel (by repeat (first | exact Sel.nil | (refine Sel.cons (by repeat (first | exact Del.head | apply Del.tail)) ?_))), ?_⟩
              refine mix_leaf (by simp only [clob, List.foldl, n1, n2, n3, n4]) ?_
              try simp only [n1, n2]
              exact ⟨by first | trivial | rfl, hS.ext_of⟩
       intro fm1 w18 hM
       obtain ⟨h6, hEE⟩ := hM
       simp only [clob, List.foldl, n3, n4, h6]
       refine hK6 _ _ ?_
       refine x_ret ?_
       refine r_tmp rfl ?_
       first | exact ⟨rfl, hEE⟩ | exact ⟨rfl, hS.ext_of⟩
end Go.Proofs.Ytffmanidnlbjjaa
set_option linter.unusedSimpArgs false
set_option linter.unusedVariables false
set_option maxHeartbeats 800000
set_option maxRecDepth 100000
namespace Go.Proofs.Ytffmanidnlbjjaa
open Go.ChangeShapes Go.WideShapes Go.ChangeAt Go.RowKit

theorem allOk_split {w : World} : ∀ {ks js : List LK} {cs : List Value}, AllOk w (ks ++ js) cs → ∃ a b, cs = a ++ b ∧ AllOk w ks a ∧ AllOk w js b
  | [], js, cs, h => ⟨[], cs, rfl, trivial, h⟩
  | k :: ks, js, v :: cs, h => by
    obtain ⟨a, b, e, h1, h2⟩ := allOk_split (ks := ks) h.2
    exact ⟨v :: a, b, by rw [e]; rfl, ⟨h.1, h1⟩, h2⟩
theorem u64s_of {l : List Int} (h : ∀ x ∈ l, (Lit.int .u64 x).wf = true) : U64s l := fun x hx => by have := bounds_u64 (h x hx); omega
theorem set_open {w : World} {cs : List Value} (h : AllOk w ((List.replicate 16 [LK.int .u32]).flatten ++ ([LK.sl 1 [LK.int .u64]] ++ [])) cs) :
    ∃ (x : List Int) (A : Option Addr) (c : Nat) (cl : List Int), cs = setL x (.slice A cl.length c) ∧ VOk x ∧ Rd w A 1 cl.length (List.map (Value.int .u64) cl) ∧ U64s cl := by
  obtain ⟨a, b, rfl, h1, h2⟩ := allOk_split h
  obtain ⟨x, rfl, hl, hw⟩ := allOk_ints h1
  obtain ⟨v, vs, rfl, hv, hn⟩ := AllOk.inv h2
  obtain rfl := AllOk.nil_inv hn
  obtain ⟨A, n, c, xs, rfl, h3, h4, h5, h6⟩ := hv
  have hlen : xs.length = n := by simpa using h5.1
  obtain ⟨cl, rfl, hcl, hwc⟩ := allOk_int1 (w := w) (k := .u64) (vs := xs) (fun i hi => h6 i (by omega))
  have hn2 : cl.length = n := by rw [hcl, hlen]
  subst hn2
  refine ⟨x, A, c, cl, rfl, ⟨hl, fun i => ?_⟩, h5, u64s_of hwc⟩
  by_cases hi : i < x.length
  · have := bounds_u32 (hw _ (getD_mem' (d := 0) hi)); omega
  · rw [List.getD_eq_getElem?_getD, List.getElem?_eq_none (by omega)]; simp
end Go.Proofs.Ytffmanidnlbjjaa
namespace Go.Proofs.Ytffmanidnlbjjaa
open Go.ChangeShapes Go.WideShapes Go.ChangeAt Go.RowKit
theorem own0 : ownKnob Try.prog.godebug = none := by kernel_rfl
theorem laidOut0 : laidOutB Try.prog = true := by kernel_rfl
theorem fl29 : Flat Try.prog 29 [LK.int .u32] := flat_int Try.underlying29
theorem fl48 : Flat Try.prog 48 [LK.int .u64] := flat_int Try.underlying48
theorem fl64 : Flat Try.prog 64 (List.replicate 16 [LK.int .u32]).flatten := flat_arr Try.underlying64 fl29 rfl (by kernel_rfl) (by kernel_rfl)
theorem fl65 : Flat Try.prog 65 [LK.sl 1 [LK.int .u64]] := flat_slice Try.underlying65 fl48 rfl (by kernel_rfl) (by decide)
theorem fl67 : Flat Try.prog 67 ((List.replicate 16 [LK.int .u32]).flatten ++ ([LK.sl 1 [LK.int .u64]] ++ ([]))) := flat_struct Try.underlying67 (.cons rfl fl64 rfl (by kernel_rfl) (.cons rfl fl65 rfl (by kernel_rfl) (.nil))) (by kernel_rfl)
end Go.Proofs.Ytffmanidnlbjjaa
namespace Go.Proofs.Ytffmanidnlbjjaa
theorem ws_cons {c : Char} (h : c ≠ Char.ofNat 32) (x : List Char) : wordsSigns (c :: x) = (match wordsSigns x with | w :: ws => (c :: w) :: ws | [] => [[c]]) := by
  conv => lhs; unfold wordsSigns
  split
  · simp_all
  · next h1 => exact absurd (by simpa using (List.cons.inj h1).1) h
  · next h1 => obtain ⟨rfl, rfl⟩ := List.cons.inj h1; rfl
theorem ws_app (b : List Char) : ∀ (a : List Char), (∀ c ∈ a, c ≠ Char.ofNat 32) → wordsSigns (a ++ Char.ofNat 32 :: b) = a :: wordsSigns b
  | [], _ => rfl
  | c :: r, h => by
    rw [List.cons_append, ws_cons (h c (by simp)), ws_app b r (fun x hx => h x (by simp [hx]))]
/-- the head's words: harness, a sum, cut -/
theorem head_words {P : Program} {s b : List Char} (he : P.initOrder = String.ofList ("harness".toList ++ Char.ofNat 32 :: (s ++ Char.ofNat 32 :: ("cut".toList ++ Char.ofNat 32 :: b)))) (hs : isSumSigns s = true) (hb : ∀ c ∈ s, c ≠ Char.ofNat 32) :
    ∃ R, behindMainWord (wordsSigns P.initOrder.toList) = "cut".toList :: R := by
  refine ⟨wordsSigns b, ?_⟩
  rw [he, String.toList_ofList, ws_app _ _ (by decide), ws_app _ _ hb, ws_app _ _ (by decide)]
  simp only [behindMainWord, hs, beq_self_eq_true, Bool.true_or, Bool.and_self, if_true]
theorem e_gc : ("cut".toList == "gc".toList) = false := by decide
theorem e_spec : ("cut".toList == "spec".toList) = false := by decide
theorem e_car : ("cut".toList == "carried".toList) = false := by decide
theorem e_sl (R : List (List Char)) : stripLifts liftWords ("cut".toList :: R) = ([], "cut".toList :: R) := by
  have h : ∀ (l : List String), (∀ o ∈ l, ("cut".toList == o.toList) = false) → stripLifts l ("cut".toList :: R) = ([], "cut".toList :: R) := by
    intro l
    induction l with
    | nil => intro _; rfl
    | cons o os ih => intro hl; rw [stripLifts, hl o (by simp)]; simp only [Bool.false_eq_true, if_false]; exact ih fun x hx => hl x (by simp [hx])
  exact h liftWords (by decide)
section
variable {P : Program} (h : ∃ R, behindMainWord (wordsSigns P.initOrder.toList) = "cut".toList :: R)
include h
theorem make_of : P.make = some .cut := by
  obtain ⟨R, h⟩ := h
  unfold Program.make
  rw [h]
  simp only [e_gc, e_spec, beq_self_eq_true, Bool.or_self, Bool.true_or, Bool.false_eq_true, if_false, if_true]
theorem lifts_of : P.liftsFinal = false := by
  obtain ⟨R, h⟩ := h
  unfold Program.liftsFinal Program.headLifts
  rw [h, e_sl]
  show (_ || _) = false
  rfl
theorem enter_of (hl : P.laysLater = false) (hr : P.bearsReflect = false) (hd : P.doorFits [] = true) : P.mayEnter = true := by
  obtain ⟨R, h⟩ := h
  unfold Program.mayEnter
  rw [h]
  dsimp only
  rw [e_sl, hl, hr]
  simp only [hd, e_gc, e_spec, e_car, beq_self_eq_true, Bool.or_self, Bool.false_and, Bool.not_false, Bool.or_true, Bool.and_true, List.head?_cons, List.contains_nil]
end
theorem closed_of {P : Program} {f : FuncId} {fn : Func} {s : ChangeSpec} {c : OpenClaim} (hm : P.make = some .cut) (hl : P.liftsFinal = false) (he : P.mayEnter = true) (h2 : laidOutB P = true) (h3 : mapsRowed P = true) (hst : (P.stops == []) = true) (hk : (P.stopKnobs == []) = true)
    (hp : P.plainKeys = c.plainKeys) (hh : P.stopsHeard = true) (i1 : P.inPlace f = c.inPlace) (i2 : P.unfollowed f = c.unfollowed) (i3 : P.recurses f = c.recurses) (i4 : P.varsNamed f = c.named)
    (rest : (c.wf (OpenSpec.ofChange s) && fn.params.all (P.readableRec ·) && namedTie P c.named s.vars && (c.stops == []) && (c.knobs == []) &&
      (c.maps == (fn.params.toList ++ s.plain.varTypes P).any (P.mapsRec ·)) && (c.ifaces == (fn.params.toList ++ s.plain.varTypes P).any (P.ifacesRec ·)) && (c.mapsOut == P.mapsAmong fn.resultTypes.toList) &&
      (c.loops == (fn.params.toList ++ s.plain.varTypes P).any (P.loopsFrom ·)) && (c.wideKeys == (fn.params.toList ++ s.plain.varTypes P ++ fn.resultTypes.toList).any (P.wideKeysFrom ·)) &&
      s.vars.all (P.varReadable ·) && fn.resultTypes.all (fun t => P.readableRec t && decide (t < P.types.size)) && (c.ifacesOut == fn.resultTypes.toList.any (P.ifacesRec ·)) && (c.loopsOut == fn.resultTypes.toList.any (P.loopsFrom ·)) && c.shortTexts.isNone && (c.lifted == false) && (some Make.cut == some c.make) &&
      (c.kinds == (if c.domain.isEmpty then [] else fn.params.toList.map fun t => match P.underlying t with | some (.int k) => some k | _ => none)) && (c.pinned == c.pinnedBy) &&
      (c.veiled == (fn.params.toList ++ s.plain.varTypes P ++ fn.resultTypes.toList).any (P.veiledRec ·)) && c.veiledFits P fn.params.toList (fn.params.toList ++ s.plain.varTypes P ++ fn.resultTypes.toList)) = true) : joinedFacts P f fn s c = true := by
  simp only [Bool.and_eq_true] at rest
  unfold joinedFacts
  rw [hm, hl, he, h2, h3, hst, hk, hp, hh, i1, i2, i3, i4]
  simp only [beq_self_eq_true, Bool.and_eq_true, Bool.and_true]
  have hkd := rest.1.1.1.2
  simp only [rest, and_self]
  exact ⟨⟨⟨⟨trivial, hkd⟩, trivial⟩, trivial⟩, trivial⟩
end Go.Proofs.Ytffmanidnlbjjaa
namespace Go.Proofs.Ytffmanidnlbjjaa
def ioS : List Nat := [55, 54, 99, 48, 99, 99, 57, 102, 100, 49, 97, 101, 97, 50, 102, 51, 48, 57, 100, 51, 52, 54, 49, 98, 100, 54, 53, 102, 53, 50, 100, 102, 100, 100, 102, 97, 52, 53, 48, 97, 50, 97, 99, 48, 98, 101, 98, 53, 51, 53, 49, 102, 53, 48, 57, 99, 101, 49, 57, 56, 57, 50, 48, 49]
def ioB : List Nat := [97, 116, 32, 104, 97, 110, 100, 99, 97, 114, 116, 47, 104, 97, 110, 100, 99, 97, 114, 116, 108, 97, 119, 49, 52, 46, 84, 97, 103, 115, 65, 100, 100, 115, 32, 104, 97, 110, 100, 99, 97, 114, 116, 47, 104, 97, 110, 100, 99, 97, 114, 116, 108, 97, 119, 49, 52, 46, 84, 97, 103, 115, 87, 105, 110, 32, 104, 97, 110, 100, 99, 97, 114, 116, 47, 104, 97, 110, 100, 99, 97, 114, 116, 108, 97, 119, 50, 49, 46, 67, 104, 117, 110, 107, 70, 101, 119, 101, 115, 116, 32, 104, 97, 110, 100, 99, 97, 114, 116, 47, 104, 97, 110, 100, 99, 97, 114, 116, 108, 97, 119, 49, 51, 46, 68, 111, 116, 115, 65, 100, 100, 115, 32, 104, 97, 110, 100, 99, 97, 114, 116, 47, 104, 97, 110, 100, 99, 97, 114, 116, 108, 97, 119, 49, 51, 46, 68, 111, 116, 115, 65, 108, 111, 110, 101, 32, 104, 97, 110, 100, 99, 97, 114, 116, 47, 104, 97, 110, 100, 99, 97, 114, 116, 108, 97, 119, 49, 51, 46, 68, 111, 116, 115, 74, 111, 105, 110, 115]
theorem io_eq : Try.prog.initOrder = String.ofList ("harness".toList ++ Char.ofNat 32 :: (ioS.map Char.ofNat ++ Char.ofNat 32 :: ("cut".toList ++ Char.ofNat 32 :: ioB.map Char.ofNat))) := by kernel_rfl
theorem io_sum : isSumSigns (ioS.map Char.ofNat) = true := by kernel_rfl
theorem io_hd : ∃ R, behindMainWord (wordsSigns Try.prog.initOrder.toList) = "cut".toList :: R := head_words io_eq io_sum (by decide)
theorem p_make : Try.prog.make = some .cut := make_of io_hd
theorem p_lifts : Try.prog.liftsFinal = false := lifts_of io_hd
theorem p_ll : Try.prog.laysLater = false := by kernel_rfl
theorem p_br : Try.prog.bearsReflect = false := by kernel_rfl
theorem p_df : Try.prog.doorFits [] = true := by kernel_rfl
theorem p_enter : Try.prog.mayEnter = true := enter_of io_hd p_ll p_br p_df
theorem p_rowed : mapsRowed Try.prog = true := by kernel_rfl
theorem p_stops : (Try.prog.stops == []) = true := by kernel_rfl
theorem p_knobs : (Try.prog.stopKnobs == []) = true := by kernel_rfl
theorem p_keys : Try.prog.plainKeys = false := by kernel_rfl
theorem p_heard : Try.prog.stopsHeard = true := by kernel_rfl
end Go.Proofs.Ytffmanidnlbjjaa
