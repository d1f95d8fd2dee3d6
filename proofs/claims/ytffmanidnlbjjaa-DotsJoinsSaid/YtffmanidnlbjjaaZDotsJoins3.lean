/- Rules, plain words and walks that the claim leans on: Re, Cv, Rf, Rg, Rh. -/
import Derived.Test.YtffmanidnlbjjaaZDotsJoins2
set_option linter.unusedSimpArgs false
set_option linter.unusedVariables false
set_option linter.unusedSimpArgs false
set_option linter.unusedVariables false
set_option maxHeartbeats 2000000
set_option maxRecDepth 100000
namespace Go.Proofs.Ytffmanidnlbjjaa
open Go.RowKit

/-- what a call hands back to be read: new, or what it was handed -/
structure UBack (w0 w' : World) (A : Option Addr) (l : List Int) (B : Option Addr) (s : List Int) : Prop where
  ext : Ext w0 w'
  rd : Rd w' B 1 s.length (List.map (Value.int .u64) s)
  wh : ∀ b, (Res.rd B 1 s.length (List.map (Value.int .u64) s)).reads = some b → w0.heap.size ≤ b ∨ (Res.rd A 1 l.length (List.map (Value.int .u64) l)).reads = some b
theorem St.uback {S : Nat → Prop} {w0 w w' : World} {L : List Res} {A B : Option Addr} {l s : List Int} (h : St S w0 w L) (k : UBack w w' A l B s) (hm : Has L (.rd A 1 l.length (List.map (Value.int .u64) l)) := by repeat (first | exact Has.head | apply Has.tail)) : St S w0 w' (.rd B 1 s.length (List.map (Value.int .u64) s) :: L) := by
  refine (h.ext k.ext).add_rd k.rd fun r hr g hg e => ?_
  rcases k.wh g e with h1 | h1
  · have := own_lt (h.holds r hr) hg; omega
  · exact pair_apart hg rfl h1 h.apart hr hm.mem
theorem uback_self {w0 w' : World} {A : Option Addr} {l s : List Int} (hE : Ext w0 w') (hR : Rd w' A 1 l.length (List.map (Value.int .u64) l)) (e : s = l) : UBack w0 w' A l A s := by subst e; exact ⟨hE, hR, fun b hb => .inr hb⟩
theorem uback_vec {w0 w' : World} {A B : Option Addr} {c : Nat} {e : TypeId} {l s : List Int} {L : List Res} (h : St NoB w0 w' L) (hm : Has L (.vec B c e 1 s.length (List.map (Value.int .u64) s))) : UBack w0 w' A l B s :=
  ⟨h.ext_of, h.vecRd hm, fun b hb => .inl (by
    have : (Res.vec B c e 1 s.length (List.map (Value.int .u64) s)).own = some b := by
      simp only [Res.reads] at hb
      split at hb
      · cases hb
      · exact hb
    exact (h.own _ hm.mem b this).resolve_left (fun f => f))⟩
def insB (d : Int) : List Int → List Int
  | [] => [d]
  | x :: l => if d < x then d :: x :: l else x :: insB d l
def pI (d : Int) (p : List Int × Bool) (x : Int) : List Int × Bool := if p.2 = false ∧ d < x then ((p.1 ++ [d]) ++ [x], true) else (p.1 ++ [x], p.2)
theorem pI_true (d : Int) : ∀ (l o : List Int), l.foldl (pI d) (o, true) = (o ++ l, true)
  | [], o => by simp
  | x :: l, o => by rw [List.foldl_cons, pI, if_neg (by simp), pI_true d l]; simp
theorem pI_ins (d : Int) : ∀ (l o : List Int), (if (l.foldl (pI d) (o, false)).2 = true then (l.foldl (pI d) (o, false)).1 else (l.foldl (pI d) (o, false)).1 ++ [d]) = o ++ insB d l
  | [], o => by simp [insB]
  | x :: l, o => by
    rw [List.foldl_cons, insB]
    by_cases h : d < x
    · have e : pI d (o, false) x = ((o ++ [d]) ++ [x], true) := if_pos ⟨rfl, h⟩
      rw [e, pI_true, if_pos h]; simp
    · have e : pI d (o, false) x = (o ++ [x], false) := if_neg (fun q => h q.2)
      rw [e, if_neg h, pI_ins d l (o ++ [x])]; simp
theorem ins_filter {d : Int} : ∀ {cl : List Int}, cl.Pairwise (· < ·) → d ∉ cl → cl.filter (fun x => decide (x < d)) ++ d :: cl.filter (fun x => !decide (x < d)) = insB d cl
  | [], _, _ => rfl
  | x :: l, h, hd => by
    obtain ⟨h1, h2⟩ := List.pairwise_cons.1 h
    rw [List.mem_cons, not_or] at hd
    rw [insB]
    by_cases e : d < x
    · have e1 : (x :: l).filter (fun x => decide (x < d)) = [] := List.filter_eq_nil_iff.2 fun y hy => by
        rcases List.mem_cons.1 hy with rfl | hy
        · simp; omega
        · have := h1 y hy; simp; omega
      have e2 : (x :: l).filter (fun x => !decide (x < d)) = x :: l := List.filter_eq_self.2 fun y hy => by
        rcases List.mem_cons.1 hy with rfl | hy
        · simp; omega
        · have := h1 y hy; simp; omega
      rw [if_pos e, e1, e2]; rfl
    · have e3 : x < d := by omega
      rw [if_neg e, List.filter_cons_of_pos (by simpa using e3), List.filter_cons_of_neg (by simpa using e3), ← ins_filter h2 hd.2]; rfl
theorem put_yes {v cl : List Int} {d : Int} (h : PreS v cl) (hm : MayD d) (hn : ¬ HasD v cl d) : putC v cl d = insB d cl := by
  rw [putC, if_pos ⟨hm, hn⟩, ins_filter h.srt (fun q => hn ⟨hm, .inr q⟩)]
theorem put_no {v cl : List Int} {d : Int} (h : ¬ (MayD d ∧ ¬ HasD v cl d)) : putC v cl d = cl := if_neg h
theorem insB_len (d : Int) : ∀ l : List Int, (insB d l).length = l.length + 1
  | [] => rfl
  | x :: l => by rw [insB]; split <;> simp [insB_len d l]
theorem putC_len (v cl : List Int) (d : Int) (h : PreS v cl) : (putC v cl d).length ≤ cl.length + 1 := by
  by_cases q : MayD d ∧ ¬ HasD v cl d
  · rw [put_yes h q.1 q.2, insB_len]; omega
  · rw [put_no q]; omega
theorem puts_len {v : List Int} : ∀ {l cl : List Int}, PreS v cl → (l.foldl (putC v) cl).length ≤ cl.length + l.length
  | [], cl, h => Nat.le_refl _
  | d :: l, cl, h => by
    have h1 := puts_len (l := l) (putC_pre (d := d) h).1
    have h2 := putC_len v cl d h
    rw [List.foldl_cons, List.length_cons]; omega
theorem pre_nil {v : List Int} (hv : VOk v) : PreS v [] := ⟨hv, .nil, fun d h => by cases h⟩
theorem settle_end {v cl : List Int} (hv : VOk v) {v2 cl2 : List Int} (h : PreS v2 cl2) (hh : ∀ x, HasD v2 cl2 x ↔ HasD v cl x) (hl : (cl2.foldl setD (v2, [])).2.length = cl2.length) : cl2.foldl setD (v2, []) = addS v cl := by
  obtain ⟨h1, h2⟩ := set_end h hl
  rw [h1]
  exact (show Nrm (HasD v2 cl2) (v2, cl2) from ⟨h2, fun d => Iff.rfl⟩).uniq (add_nrm hv cl) hh
theorem refadd_end {v l : List Int} (hv : VOk v) : addS v (l.foldl (putC v) []) = addS v l := by
  obtain ⟨h1, h2⟩ := puts_pre (l := l) (pre_nil hv)
  refine (add_nrm hv _).uniq (add_nrm hv l) fun x => (h2 x).trans ?_
  unfold HasD
  constructor
  · rintro (⟨a, b | b⟩ | ⟨a, b⟩)
    · exact ⟨a, .inl b⟩
    · cases b
    · exact ⟨a, .inr b⟩
  · rintro ⟨a, b | b⟩
    · exact .inl ⟨a, .inl b⟩
    · exact .inr ⟨a, b⟩
theorem setD_vok : ∀ {l : List Int} {p : List Int × List Int}, VOk p.1 → (∀ d ∈ l, MayD d) → VOk (l.foldl setD p).1
  | [], _, h, _ => h
  | d :: l, p, h, hm => by
    refine setD_vok (l := l) ?_ fun x hx => hm x (by simp [hx])
    unfold setD
    split
    · exact h
    · split
      · exact h.set (by have := (hm d (by simp)).2.2; omega) (by omega)
      · exact h
theorem pre_u64 {v cl : List Int} (h : PreS v cl) : U64s cl := fun x hx => may_u64 (h.may x hx)
theorem foldl_take {α : Type} {f : α → Int → α} {l : List Int} {k : Nat} {a : α} (hk : k < l.length) : (l.take (k + 1)).foldl f a = f ((l.take k).foldl f a) (l.getD k 0) := by
  rw [List.take_succ_eq_append_getElem hk, List.foldl_append, ← getD_ltz hk]; rfl

theorem c_ref13Has (w0 : World) (x : List Int) (hx : VOk x) (A : Option Addr) (c : Nat) (cl : List Int) (hr : Rd w0 A 1 cl.length (List.map (Value.int .u64) cl)) (hu : U64s cl) (hn : cl.length ≤ 4000000000) (q : Nat) (hq : q < 18446744073709551616)  :
    CallR Try.prog 41 #[.agg (SetC x (.slice A cl.length c)), .int .u64 (q : Int)] w0 fun v w' => v = .bool (decide (HasD x cl (q : Int))) ∧ Ext w0 w' := by
 have hS := St.rd1 (S := NoB) hr
 have hxl := hx.len
 obtain ⟨r, hr0⟩ : ∃ r, r = q / 4294967296 := ⟨_, rfl⟩
 obtain ⟨s, hs0⟩ : ∃ s, s = q % 4294967296 := ⟨_, rfl⟩
 have hqs : (q : Int) % 4294967296 = (s : Int) := by omega
 have hfq : flo x (q : Int) = x.getD r 0 := by rw [flo, dR_nat, hr0]
 refine c_enter (l := [.agg (SetC x (.slice A cl.length c)), .int .u64 (q : Int), undef, undef, undef, undef, undef, undef, undef, undef, undef, undef, undef, undef, undef, undef, undef, undef, undef, undef, undef, undef, undef, undef, undef, undef, undef, undef, undef, undef, undef, undef]) Try.func41 rfl (by simp only [Try.ntmps41, List.size_toArray, List.length_cons, List.length_nil, Nat.reduceAdd, Nat.reduceSub, Array.replicate_succ, Array.replicate_zero, List.push_toArray, List.append_toArray, List.nil_append, List.cons_append]) ?_
 refine x_seq fun K1 hK1 => ?_
 refine x_region ?_
 refine m_box hS (fun w1 g1 hS => ?_)
 try simp only [opv, n1, n2, n3, n4, Value.cells, Array.toArray_toList] at hS ⊢
 obtain ⟨gba, hgba⟩ : ∃ z, z = g1 := ⟨_, rfl⟩
 rw [← hgba] at hS ⊢
 refine s_go (s_assign) ?_
 try simp only [opv, n1, n2, n3, n4, Value.cells]
 refine x_nil ?_
 refine hK1 _ _ ?_
 refine x_seq fun K2 hK2 => ?_
 refine x_seq fun K3 hK3 => ?_
 refine x_region ?_
 refine s_go (s_move) ?_
 try simp only [opv, n1, n2, n3, n4, Value.cells]
 refine s_call en45 ?_
 try simp only [opv, n1, n2, n3, n4, Value.cells, List.map_toArray, List.map_cons, List.map_nil, List.append_toArray, List.cons_append, List.nil_append, Array.append_empty]
 refine CallR.mono (c_ref13May q hq _) ?_
 rintro _ w2 ⟨rfl, hE2⟩
 replace hS := hS.ext hE2
 try simp only [opv, n1, n2, n3, n4, Value.cells]
 refine s_go (s_not) ?_
 try simp only [opv, n1, n2, n3, n4, Value.cells]
 refine x_nil ?_
 refine hK3 _ _ ?_
 refine x_cond (ht := fun hc1 => ?_) (hf := fun hc1 => ?_)
 ·
  try simp only [decide_eq_true_eq, decide_eq_false_iff_not, Bool.not_eq_true', Bool.not_eq_false', Int.not_lt, Int.not_le, ne_eq, Decidable.not_not, bne_iff_ne, beq_iff_eq, not_true_eq_false, not_false_eq_true] at hc1
  have hE : decide (HasD x cl (q : Int)) = false := decide_eq_false (fun h => by have h1 := h.1; first | exact hc1 h1 | (simp at hc1; exact hc1 h1) | (rw [decide_eq_true h1] at hc1; cases hc1))
  refine x_seq fun K4 hK4 => ?_
  refine x_region ?_
  refine s_go (s_assign) ?_
  try simp only [opv, n1, n2, n3, n4, Value.cells]
  refine x_nil ?_
  refine hK4 _ _ ?_
  refine x_ret ?_
  refine r_tmp rfl ?_
  exact ⟨by rw [hE]; rfl, hS.ext_of⟩
 ·
  try simp only [decide_eq_true_eq, decide_eq_false_iff_not, Bool.not_eq_true', Bool.not_eq_false', Int.not_lt, Int.not_le, ne_eq, Decidable.not_not, bne_iff_ne, beq_iff_eq, not_true_eq_false, not_false_eq_true] at hc1
  have hM : MayD (q : Int) := by simpa using hc1
  have hdn := may_nat.1 hM
  rw [← hr0, ← hs0] at hdn
  have hxr := hx.nat r
  refine x_skip ?_
  refine hK2 _ _ ?_
  refine x_seq fun K5 hK5 => ?_
  refine x_seq fun K6 hK6 => ?_
  refine x_region ?_
  refine s_go (s_move) ?_
  try simp only [opv, n1, n2, n3, n4, Value.cells]
  refine s_go (s_quo (hc := quo_u64 (p := 4294967296) (by omega))) ?_
  try simp only [opv, n1, n2, n3, n4, Value.cells]
  rw [← hr0]
  first | refine s_go (m_fieldAddr Try.underlying67 (hi := ti64)) ?_ | refine s_go (m_fieldAddr_rd Try.underlying67 (hi := ti64) (hS := hS)) ?_ | refine s_go (m_fieldAddr_vec Try.underlying67 (hi := ti64) (hS := hS)) ?_
  try simp only [opv, n1, n2, n3, n4, Value.cells, Nat.zero_add, Nat.add_zero, List.getElem_toArray, List.getElem_cons_zero, List.getElem_cons_succ]
  refine s_go (m_indexAddr_arr Try.underlying64 ti29) ?_
  try simp only [opv, n1, n2, n3, n4, Value.cells, Nat.mul_one, Nat.zero_add, Int.toNat_natCast, Int.reduceToNat]
  refine s_go (m_load_obj Try.underlying29 (hS := hS) (hv := set_at hxl _ (by omega))) ?_
  try simp only [opv, n1, n2, n3, n4, Value.cells, List.getElem_toArray, List.getElem_cons_zero, List.getElem_cons_succ]
  refine s_go (s_conv Try.underlying29 Try.underlying48 (hc := wr_u64 (by omega) (by omega))) ?_
  try simp only [opv, n1, n2, n3, n4, Value.cells]
  refine s_go (s_move) ?_
  try simp only [opv, n1, n2, n3, n4, Value.cells]
  refine s_go (s_rem (hc := rem_nat (p := 4294967296))) ?_
  try simp only [opv, n1, n2, n3, n4, Value.cells]
  rw [← hs0]
  refine s_go (s_geq) ?_
  try simp only [opv, n1, n2, n3, n4, Value.cells]
  refine x_nil ?_
  refine hK6 _ _ ?_
  refine x_cond (ht := fun hc2 => ?_) (hf := fun hc2 => ?_)
  ·
   try simp only [decide_eq_true_eq, decide_eq_false_iff_not, Bool.not_eq_true', Bool.not_eq_false', Int.not_lt, Int.not_le, ne_eq, Decidable.not_not, bne_iff_ne, beq_iff_eq, not_true_eq_false, not_false_eq_true] at hc2
   have hE : decide (HasD x cl (q : Int)) = true := decide_eq_true ⟨hM, .inl (by omega)⟩
   refine x_seq fun K7 hK7 => ?_
   refine x_region ?_
   refine s_go (s_assign) ?_
   try simp only [opv, n1, n2, n3, n4, Value.cells]
   refine x_nil ?_
   refine hK7 _ _ ?_
   refine x_ret ?_
   refine r_tmp rfl ?_
   exact ⟨by rw [hE]; rfl, hS.ext_of⟩
  ·
   try simp only [decide_eq_true_eq, decide_eq_false_iff_not, Bool.not_eq_true', Bool.not_eq_false', Int.not_lt, Int.not_le, ne_eq, Decidable.not_not, bne_iff_ne, beq_iff_eq, not_true_eq_false, not_false_eq_true] at hc2
   have hnf : ¬ (s : Int) ≤ x.getD r 0 := by simpa using hc2
   refine x_skip ?_
   refine hK5 _ _ ?_
   refine x_seq fun K8 hK8 => ?_
   refine x_seq fun K9 hK9 => ?_
   refine x_region ?_
   refine s_go (s_assign) ?_
   try simp only [opv, n1, n2, n3, n4, Value.cells]
   refine x_nil ?_
   refine hK9 _ _ ?_
   refine x_block ?_
   refine x_loop [4, 5, 18, 19, 20, 21, 22, 23, 24, 25, 26, 27, 28, 29, 30, 31] (fun m f w => ∃ k : Nat, k ≤ cl.length ∧ m = cl.length - k ∧ f 5 = .int .i64 (k : Int) ∧ (q : Int) ∉ cl.take k ∧ St NoB w0 w [.obj gba (.cells (SetC x (.slice A cl.length c)) 67 (0, 0)), .rd A 1 cl.length (List.map (Value.int .u64) cl)]) (cl.length) ?init1 (fun m1 f1 wl1 hI => ?_)
   case init1 =>
    try simp only [opv, n1, n2, n3, n4, Value.cells]
    exact ⟨0, by omega, rfl, rfl, (by simp), hS⟩
   obtain ⟨k, hk, hm, h5, hnx, hS⟩ := hI
   simp only [clob, List.foldl, n3, n4, h5]
   refine x_seq fun K10 hK10 => ?_
   refine x_seq fun K11 hK11 => ?_
   refine x_region ?_
   refine s_go (s_move) ?_
   try simp only [opv, n1, n2, n3, n4, Value.cells]
   first | refine s_go (m_fieldAddr Try.underlying67 (hi := ti65)) ?_ | refine s_go (m_fieldAddr_rd Try.underlying67 (hi := ti65) (hS := hS)) ?_ | refine s_go (m_fieldAddr_vec Try.underlying67 (hi := ti65) (hS := hS)) ?_
   try simp only [opv, n1, n2, n3, n4, Value.cells, Nat.zero_add, Nat.add_zero, List.getElem_toArray, List.getElem_cons_zero, List.getElem_cons_succ]
   refine s_go (m_load_obj Try.underlying65 (hS := hS) (hv := set_sl (by assumption) _)) ?_
   try simp only [opv, n1, n2, n3, n4, Value.cells, List.getElem_toArray, List.getElem_cons_zero, List.getElem_cons_succ]
   refine s_go (s_len_sl Try.underlying65) ?_
   try simp only [opv, n1, n2, n3, n4, Value.cells]
   refine s_go (s_lss) ?_
   try simp only [opv, n1, n2, n3, n4, Value.cells]
   refine x_nil ?_
   refine hK11 _ _ ?_
   refine x_cond (ht := fun hc3 => ?_) (hf := fun hc3 => ?_)
   ·
    try simp only [decide_eq_true_eq, decide_eq_false_iff_not, Bool.not_eq_true', Bool.not_eq_false', Int.not_lt, Int.not_le, ne_eq, Decidable.not_not, bne_iff_ne, beq_iff_eq, not_true_eq_false, not_false_eq_true] at hc3
    refine x_skip ?_
    refine hK10 _ _ ?_
    refine x_seq fun K12 hK12 => ?_
    refine x_block ?_
    refine x_seq fun K13 hK13 => ?_
    refine x_region ?_
    first | refine s_go (m_fieldAddr Try.underlying67 (hi := ti65)) ?_ | refine s_go (m_fieldAddr_rd Try.underlying67 (hi := ti65) (hS := hS)) ?_ | refine s_go (m_fieldAddr_vec Try.underlying67 (hi := ti65) (hS := hS)) ?_
    try simp only [opv, n1, n2, n3, n4, Value.cells, Nat.zero_add, Nat.add_zero, List.getElem_toArray, List.getElem_cons_zero, List.getElem_cons_succ]
    refine s_go (m_load_obj Try.underlying65 (hS := hS) (hv := set_sl (by assumption) _)) ?_
    try simp only [opv, n1, n2, n3, n4, Value.cells, List.getElem_toArray, List.getElem_cons_zero, List.getElem_cons_succ]
    refine s_go (s_move) ?_
    try simp only [opv, n1, n2, n3, n4, Value.cells]
    first | refine s_go (m_indexAddr_rd Try.underlying65 ti48 (hS := hS)) ?_ | refine s_go (m_indexAddr_vec Try.underlying65 ti48 (hS := hS)) ?_
    try simp only [opv, n1, n2, n3, n4, Value.cells, Nat.mul_one, Nat.zero_add, Int.toNat_natCast, Int.reduceToNat]
    first | refine s_go (m_load_obj Try.underlying48 (hS := hS)) ?_ | refine s_go (m_load_bx Try.underlying48 (hS := hS)) ?_ | refine s_go (m_load_rd Try.underlying48 (hS := hS)) ?_ | refine s_go (m_load_vec Try.underlying48 (hS := hS)) ?_
    try simp only [opv, n1, n2, n3, n4, Value.cells, List.getElem_toArray, List.getElem_cons_zero, List.getElem_cons_succ]
    refine s_go (s_move) ?_
    try simp only [opv, n1, n2, n3, n4, Value.cells]
    refine s_go (s_eql) ?_
    try simp only [opv, n1, n2, n3, n4, Value.cells]
    refine x_nil ?_
    refine hK13 _ _ ?_
    refine x_cond (ht := fun hc4 => ?_) (hf := fun hc4 => ?_)
    ·
     try simp only [decide_eq_true_eq, decide_eq_false_iff_not, Bool.not_eq_true', Bool.not_eq_false', Int.not_lt, Int.not_le, ne_eq, Decidable.not_not, bne_iff_ne, beq_iff_eq, not_true_eq_false, not_false_eq_true] at hc4
     have hE : decide (HasD x cl (q : Int)) = true := decide_eq_true ⟨hM, .inr (by rw [← hc4]; exact getD_mem' (by omega))⟩
     refine x_seq fun K14 hK14 => ?_
     refine x_region ?_
     refine s_go (s_assign) ?_
     try simp only [opv, n1, n2, n3, n4, Value.cells]
     refine x_nil ?_
     refine hK14 _ _ ?_
     refine x_ret ?_
     refine r_tmp rfl ?_
     exact ⟨by rw [hE]; rfl, hS.ext_of⟩
    ·
     try simp only [decide_eq_true_eq, decide_eq_false_iff_not, Bool.not_eq_true', Bool.not_eq_false', Int.not_lt, Int.not_le, ne_eq, Decidable.not_not, bne_iff_ne, beq_iff_eq, not_true_eq_false, not_false_eq_true] at hc4
     have hne : ¬ cl.getD k 0 = (q : Int) := hc4
     refine x_skip ?_
     refine hK12 _ _ ?_
     refine x_region ?_
     refine s_go (s_move) ?_
     try simp only [opv, n1, n2, n3, n4, Value.cells]
     refine s_go (s_add (hc := by first | exact wr_i64 (by omega) (by omega) | rfl)) ?_
     try simp only [opv, n1, n2, n3, n4, Value.cells]
     refine s_go (s_assign) ?_
     try simp only [opv, n1, n2, n3, n4, Value.cells]
     refine x_nil ?_
     refine loop_back (m' := cl.length - (k + 1)) (by simp only [clob, List.foldl, n1, n2, n3, n4]) ?_ ?_
     · try simp only [opv, n1, n2, n3, n4, Value.cells]
       exact ⟨k + 1, by omega, by omega, by rfl, (fun h => by rw [List.take_succ_eq_append_getElem (by omega)] at h; rcases List.mem_append.1 h with h | h; exact hnx h; rw [List.mem_singleton, ← getD_ltz (by omega)] at h; exact hne h.symm), hS⟩
     · omega
   ·
    try simp only [decide_eq_true_eq, decide_eq_false_iff_not, Bool.not_eq_true', Bool.not_eq_false', Int.not_lt, Int.not_le, ne_eq, Decidable.not_not, bne_iff_ne, beq_iff_eq, not_true_eq_false, not_false_eq_true] at hc3
    obtain rfl : k = cl.length := by omega
    rw [List.take_of_length_le (Nat.le_refl _)] at hnx
    have hE : decide (HasD x cl (q : Int)) = false := decide_eq_false (fun h => h.2.elim (fun a => by omega) hnx)
    refine x_exit (look_here ?_)
    refine hK8 _ _ ?_
    refine x_seq fun K15 hK15 => ?_
    refine x_region ?_
    refine s_go (s_assign) ?_
    try simp only [opv, n1, n2, n3, n4, Value.cells]
    refine x_nil ?_
    refine hK15 _ _ ?_
    refine x_ret ?_
    refine r_tmp rfl ?_
    exact ⟨by rw [hE]; rfl, hS.ext_of⟩
theorem c_ref13put (w0 : World) (x : List Int) (hx : VOk x) (A : Option Addr) (c : Nat) (cl : List Int) (hr : Rd w0 A 1 cl.length (List.map (Value.int .u64) cl)) (hu : U64s cl) (hn : cl.length ≤ 4000000000) (q : Nat) (hq : q < 18446744073709551616) (hP : PreS x cl)  :
    CallR Try.prog 76 #[.agg (SetC x (.slice A cl.length c)), .int .u64 (q : Int)] w0 fun v w' => ∃ (D : Option Addr) (e : Nat), v = .agg (SetC x (.slice D (putC x cl (q : Int)).length e)) ∧ UBack w0 w' A cl D (putC x cl (q : Int)) := by
 have hS := St.rd1 (S := NoB) hr
 have hxl := hx.len
 have h0l : (List.replicate 16 (0 : Int)).length = 16 := rfl
 refine c_enter (l := [.agg (SetC x (.slice A cl.length c)), .int .u64 (q : Int), undef, undef, undef, undef, undef, undef, undef, undef, undef, undef, undef, undef, undef, undef, undef, undef, undef, undef, undef, undef, undef, undef, undef, undef, undef, undef, undef, undef, undef, undef, undef, undef, undef, undef, undef, undef, undef, undef, undef, undef, undef, undef, undef, undef, undef, undef, undef, undef, undef, undef, undef, undef, undef, undef, undef, undef, undef, undef, undef, undef, undef]) Try.func76 rfl (by simp only [Try.ntmps76, List.size_toArray, List.length_cons, List.length_nil, Nat.reduceAdd, Nat.reduceSub, Array.replicate_succ, Array.replicate_zero, List.push_toArray, List.append_toArray, List.nil_append, List.cons_append]) ?_
 refine x_seq fun K1 hK1 => ?_
 refine x_region ?_
 refine m_box hS (fun w1 g1 hS => ?_)
 try simp only [opv, n1, n2, n3, n4, Value.cells, Array.toArray_toList] at hS ⊢
 obtain ⟨gba, hgba⟩ : ∃ z, z = g1 := ⟨_, rfl⟩
 rw [← hgba] at hS ⊢
 refine m_alloc ti67 hS (fun w2 g2 hS => ?_)
 try simp only [opv, n1, n2, n3, n4, Value.cells, Array.toArray_toList] at hS ⊢
 replace hS : St NoB w0 w2 (.obj g2 (.cells (SetC (List.replicate 16 0) (.slice none 0 0)) 67 (0, 0)) :: _) := hS
 obtain ⟨gbr, hgbr⟩ : ∃ z, z = g2 := ⟨_, rfl⟩
 rw [← hgbr] at hS ⊢
 refine x_nil ?_
 refine hK1 _ _ ?_
 refine x_seq fun K2 hK2 => ?_
 refine x_seq fun K3 hK3 => ?_
 refine x_region ?_
 refine s_go (s_move) ?_
 try simp only [opv, n1, n2, n3, n4, Value.cells]
 refine s_call en45 ?_
 try simp only [opv, n1, n2, n3, n4, Value.cells, List.map_toArray, List.map_cons, List.map_nil, List.append_toArray, List.cons_append, List.nil_append, Array.append_empty]
 refine CallR.mono (c_ref13May q hq _) ?_
 rintro _ w3 ⟨rfl, hE3⟩
 replace hS := hS.ext hE3
 try simp only [opv, n1, n2, n3, n4, Value.cells]
 refine s_go (s_not) ?_
 try simp only [opv, n1, n2, n3, n4, Value.cells]
 refine s_go (s_move) ?_
 try simp only [opv, n1, n2, n3, n4, Value.cells]
 refine s_part 11 rfl (fun hp1 => ?_) (fun hp1 => ?_)
 ·
  try simp only [n3, n4]
  try simp only [decide_eq_true_eq, decide_eq_false_iff_not, Bool.not_eq_true', Bool.not_eq_false', Int.not_lt, Int.not_le, ne_eq, Decidable.not_not] at hp1
  have hM : ¬ MayD (q : Int) := by simpa using hp1
  have hpe : putC x cl (q : Int) = cl := put_no (fun h => hM h.1)
  refine g_off (yi (t := 11) rfl rfl) ?_
  try simp only [opv, n1, n2, n3, n4, Value.cells]
  refine g_off (yi (t := 11) rfl rfl) ?_
  try simp only [opv, n1, n2, n3, n4, Value.cells]
  refine g_off (yi (t := 11) rfl rfl) ?_
  try simp only [opv, n1, n2, n3, n4, Value.cells]
  first | refine s_go (s_pick_t) ?_ | refine s_go (s_pick_f) ?_
  try simp only [opv, n1, n2, n3, n4, Value.cells]
  refine x_nil ?_
  refine hK3 _ _ ?_
  refine x_cond_t (h := ?_)
  try have hpe : putC x cl (q : Int) = cl := put_no (fun h => h.2 (by simpa using @c))
  refine x_seq fun K4 hK4 => ?_
  refine x_region ?_
  refine s_go (m_load_row Try.underlying67 (hi := ti67) (hS := hS) (hfit := by rw [setC_size (by assumption)])) ?_
  try simp only [opv, n1, n2, n3, n4, Value.cells, List.getElem_toArray, List.getElem_cons_zero, List.getElem_cons_succ]
  refine m_store_obj ti67 (hS := hS) (hv := setC_size (by assumption) _) (h1 := set_one _ _ _ _) (hfit := by rw [setC_size (by assumption)]; omega) (hc := set_whole (by assumption) (by assumption) _ _) (h := fun w4 hS => ?_)
  try simp only [opv, n1, n2, n3, n4, Value.cells, Array.toArray_toList] at hS ⊢
  refine x_nil ?_
  refine hK4 _ _ ?_
  refine x_ret ?_
  refine r_cell_agg rfl Try.underlying67 ti67 (hS := hS) (hfit := by rw [setC_size (by assumption)]) (hR := ?_)
  first
  | (rw [hpe]; exact ⟨_, _, rfl, uback_self hS.ext_of (hS.hasRd (by repeat (first | exact Has.head | apply Has.tail))) rfl⟩)
  | (rw [hpe, ← hpi, if_neg (by decide), show o.length + 1 = (o ++ [(q : Int)]).length by rw [List.length_append]; rfl]; rw [show o.length + 1 = (o ++ [(q : Int)]).length by rw [List.length_append]; rfl] at hS; exact ⟨_, _, rfl, uback_vec hS (by repeat (first | exact Has.head | apply Has.tail))⟩)
  | (rw [hpe, ← hpi, if_pos rfl]; exact ⟨_, _, rfl, uback_vec hS (by repeat (first | exact Has.head | apply Has.tail))⟩)
 ·
  try simp only [n3, n4]
  try simp only [decide_eq_true_eq, decide_eq_false_iff_not, Bool.not_eq_true', Bool.not_eq_false', Int.not_lt, Int.not_le, ne_eq, Decidable.not_not] at hp1
  have hM : MayD (q : Int) := by simpa using hp1
  refine g_on (yi (t := 11) rfl rfl) ?_
  refine s_go (m_load_row Try.underlying67 (hi := ti67) (hS := hS) (hfit := by rw [setC_size (by assumption)])) ?_
  try simp only [opv, n1, n2, n3, n4, Value.cells, List.getElem_toArray, List.getElem_cons_zero, List.getElem_cons_succ]
  refine g_on (yi (t := 11) rfl rfl) ?_
  refine s_go (s_move) ?_
  try simp only [opv, n1, n2, n3, n4, Value.cells]
  refine g_on (yi (t := 11) rfl rfl) ?_
  refine s_call en41 ?_
  try simp only [opv, n1, n2, n3, n4, Value.cells, List.map_toArray, List.map_cons, List.map_nil, List.append_toArray, List.cons_append, List.nil_append, Array.append_empty]
  refine CallR.mono (c_ref13Has _ x hx A c cl (hS.hasRd (by repeat (first | exact Has.head | apply Has.tail))) hu hn q hq) ?_
  rintro _ w5 ⟨rfl, hE5⟩
  replace hS := hS.ext hE5
  try simp only [opv, n1, n2, n3, n4, Value.cells]
  first | refine s_go (s_pick_t) ?_ | refine s_go (s_pick_f) ?_
  try simp only [opv, n1, n2, n3, n4, Value.cells]
  refine x_nil ?_
  refine hK3 _ _ ?_
  refine x_cond (ht := fun hc2 => ?_) (hf := fun hc2 => ?_)
  ·
   try simp only [decide_eq_true_eq, decide_eq_false_iff_not, Bool.not_eq_true', Bool.not_eq_false', Int.not_lt, Int.not_le, ne_eq, Decidable.not_not, bne_iff_ne, beq_iff_eq, not_true_eq_false, not_false_eq_true] at hc2
   try have hpe : putC x cl (q : Int) = cl := put_no (fun h => h.2 (by simpa using hc2))
   refine x_seq fun K5 hK5 => ?_
   refine x_region ?_
   refine s_go (m_load_row Try.underlying67 (hi := ti67) (hS := hS) (hfit := by rw [setC_size (by assumption)])) ?_
   try simp only [opv, n1, n2, n3, n4, Value.cells, List.getElem_toArray, List.getElem_cons_zero, List.getElem_cons_succ]
   refine m_store_obj ti67 (hS := hS) (hv := setC_size (by assumption) _) (h1 := set_one _ _ _ _) (hfit := by rw [setC_size (by assumption)]; omega) (hc := set_whole (by assumption) (by assumption) _ _) (h := fun w6 hS => ?_)
   try simp only [opv, n1, n2, n3, n4, Value.cells, Array.toArray_toList] at hS ⊢
   refine x_nil ?_
   refine hK5 _ _ ?_
   refine x_ret ?_
   refine r_cell_agg rfl Try.underlying67 ti67 (hS := hS) (hfit := by rw [setC_size (by assumption)]) (hR := ?_)
   first
   | (rw [hpe]; exact ⟨_, _, rfl, uback_self hS.ext_of (hS.hasRd (by repeat (first | exact Has.head | apply Has.tail))) rfl⟩)
   | (rw [hpe, ← hpi, if_neg (by decide), show o.length + 1 = (o ++ [(q : Int)]).length by rw [List.length_append]; rfl]; rw [show o.length + 1 = (o ++ [(q : Int)]).length by rw [List.length_append]; rfl] at hS; exact ⟨_, _, rfl, uback_vec hS (by repeat (first | exact Has.head | apply Has.tail))⟩)
   | (rw [hpe, ← hpi, if_pos rfl]; exact ⟨_, _, rfl, uback_vec hS (by repeat (first | exact Has.head | apply Has.tail))⟩)
  ·
   try simp only [decide_eq_true_eq, decide_eq_false_iff_not, Bool.not_eq_true', Bool.not_eq_false', Int.not_lt, Int.not_le, ne_eq, Decidable.not_not, bne_iff_ne, beq_iff_eq, not_true_eq_false, not_false_eq_true] at hc2
   have hpe := put_yes hP hM (by simpa using hc2)
   refine x_skip ?_
   refine hK2 _ _ ?_
   refine x_seq fun K6 hK6 => ?_
   refine x_region ?_
   first | refine s_go (m_fieldAddr Try.underlying67 (hi := ti64)) ?_ | refine s_go (m_fieldAddr_rd Try.underlying67 (hi := ti64) (hS := hS)) ?_ | refine s_go (m_fieldAddr_vec Try.underlying67 (hi := ti64) (hS := hS)) ?_
   try simp only [opv, n1, n2, n3, n4, Value.cells, Nat.zero_add, Nat.add_zero, List.getElem_toArray, List.getElem_cons_zero, List.getElem_cons_succ]
   refine s_go (m_loada_obj Try.underlying64 (hi := ti64) (hS := hS) (hfit := by rw [setC_size (by assumption)]; decide)) ?_
   try simp only [opv, n1, n2, n3, n4, Value.cells, List.getElem_toArray, List.getElem_cons_zero, List.getElem_cons_succ]
   rw [set_flo (by assumption)]
   refine s_go (s_build_struct (cells := (SetC x (.slice none 0 0))) Try.underlying67 ti67 bp67 (hc := by simp only [List.map_toArray, List.map_cons, List.map_nil, opv, n1, n2, n3, n4, Value.cells, List.toList_toArray]; exact fill_set (by rfl) hxl)) ?_
   try simp only [opv, n1, n2, n3, n4, Value.cells]
   refine m_alloc ti67 hS (fun w7 g7 hS => ?_)
   try simp only [opv, n1, n2, n3, n4, Value.cells, Array.toArray_toList] at hS ⊢
   replace hS : St NoB w0 w7 (.obj g7 (.cells (SetC (List.replicate 16 0) (.slice none 0 0)) 67 (0, 0)) :: _) := hS
   obtain ⟨gbo, hgbo⟩ : ∃ z, z = g7 := ⟨_, rfl⟩
   rw [← hgbo] at hS ⊢
   refine m_store_obj ti67 (hS := hS) (hv := setC_size (by assumption) _) (h1 := set_one _ _ _ _) (hfit := by rw [setC_size (by assumption)]; omega) (hc := set_whole (by assumption) (by assumption) _ _) (h := fun w8 hS => ?_)
   try simp only [opv, n1, n2, n3, n4, Value.cells, Array.toArray_toList] at hS ⊢
   refine x_nil ?_
   refine hK6 _ _ ?_
   refine x_seq fun K7 hK7 => ?_
   refine x_region ?_
   refine s_go (s_assign) ?_
   try simp only [opv, n1, n2, n3, n4, Value.cells]
   refine x_nil ?_
   refine hK7 _ _ ?_
   refine x_seq fun K8 hK8 => ?_
   refine x_seq fun K9 hK9 => ?_
   refine x_region ?_
   refine s_go (s_assign) ?_
   try simp only [opv, n1, n2, n3, n4, Value.cells]
   refine x_nil ?_
   refine hK9 _ _ ?_
   refine x_block ?_
   refine x_loop [6, 7, 20, 21, 22, 23, 24, 25, 26, 27, 28, 29, 30, 31, 32, 33, 34, 35, 36, 37, 38, 39, 40, 41, 42, 43, 44, 45, 46, 47, 48, 49, 50, 51, 52, 53] (fun m f w => ∃ (k : Nat) (E : Option Addr) (ec : Nat) (o : List Int) (dn : Bool), k ≤ cl.length ∧ m = cl.length - k ∧ f 7 = .int .i64 (k : Int) ∧ f 6 = .bool dn ∧ ((cl.take k).foldl (pI (q : Int)) ([], false)) = (o, dn) ∧ o.length ≤ 2 * k ∧ St NoB w0 w [.obj gbo (.cells (SetC x (.slice E o.length ec)) 67 (0, 0)), .vec E ec 48 1 o.length (List.map (Value.int .u64) o), .obj gbr (.cells (SetC (List.replicate 16 0) (.slice none 0 0)) 67 (0, 0)), .obj gba (.cells (SetC x (.slice A cl.length c)) 67 (0, 0)), .rd A 1 cl.length (List.map (Value.int .u64) cl)]) (cl.length) ?init1 (fun m1 f1 wl1 hI => ?_)
   case init1 =>
    try simp only [opv, n1, n2, n3, n4, Value.cells]
    replace hS := hS.nil_vec 48 1
    exact ⟨0, none, 0, [], false, by omega, rfl, rfl, rfl, rfl, by simp, hS.sel (by repeat (first | exact Sel.nil | (refine Sel.cons (by repeat (first | exact Del.head | apply Del.tail)) ?_)))⟩
   obtain ⟨k, E, ec, o, dn, hk, hm, h7, h6, hpo, hol, hS⟩ := hI
   simp only [clob, List.foldl, n3, n4, h7, h6]
   refine x_seq fun K10 hK10 => ?_
   refine x_seq fun K11 hK11 => ?_
   refine x_region ?_
   refine s_go (s_move) ?_
   try simp only [opv, n1, n2, n3, n4, Value.cells]
   first | refine s_go (m_fieldAddr Try.underlying67 (hi := ti65)) ?_ | refine s_go (m_fieldAddr_rd Try.underlying67 (hi := ti65) (hS := hS)) ?_ | refine s_go (m_fieldAddr_vec Try.underlying67 (hi := ti65) (hS := hS)) ?_
   try simp only [opv, n1, n2, n3, n4, Value.cells, Nat.zero_add, Nat.add_zero, List.getElem_toArray, List.getElem_cons_zero, List.getElem_cons_succ]
   refine s_go (m_load_obj Try.underlying65 (hS := hS) (hv := set_sl (by assumption) _)) ?_
   try simp only [opv, n1, n2, n3, n4, Value.cells, List.getElem_toArray, List.getElem_cons_zero, List.getElem_cons_succ]
   refine s_go (s_len_sl Try.underlying65) ?_
   try simp only [opv, n1, n2, n3, n4, Value.cells]
   refine s_go (s_lss) ?_
   try simp only [opv, n1, n2, n3, n4, Value.cells]
   refine x_nil ?_
   refine hK11 _ _ ?_
   refine x_cond (ht := fun hc3 => ?_) (hf := fun hc3 => ?_)
   ·
    try simp only [decide_eq_true_eq, decide_eq_false_iff_not, Bool.not_eq_true', Bool.not_eq_false', Int.not_lt, Int.not_le, ne_eq, Decidable.not_not, bne_iff_ne, beq_iff_eq, not_true_eq_false, not_false_eq_true] at hc3
    have hps := foldl_take (f := pI (q : Int)) (a := (([] : List Int), false)) (l := cl) (k := k) (by omega)
    rw [hpo] at hps
    obtain ⟨y, hy⟩ : ∃ y, cl.getD k 0 = y := ⟨_, rfl⟩
    rw [hy] at hps
    refine x_skip ?_
    refine hK10 _ _ ?_
    refine x_seq fun K12 hK12 => ?_
    refine x_block ?_
    refine x_seq fun K13 hK13 => ?_
    refine x_seq fun K14 hK14 => ?_
    refine x_region ?_
    refine s_go (s_move) ?_
    try simp only [opv, n1, n2, n3, n4, Value.cells]
    refine s_go (s_not) ?_
    try simp only [opv, n1, n2, n3, n4, Value.cells]
    refine s_go (s_move) ?_
    try simp only [opv, n1, n2, n3, n4, Value.cells]
    refine s_part 29 rfl (fun hp2 => ?_) (fun hp2 => ?_)
    ·
     try simp only [n3, n4]
     try simp only [decide_eq_true_eq, decide_eq_false_iff_not, Bool.not_eq_true', Bool.not_eq_false', Int.not_lt, Int.not_le, ne_eq, Decidable.not_not] at hp2
     obtain rfl : dn = false := by simpa using hp2
     refine g_on (yi (t := 29) rfl rfl) ?_
     refine s_go (s_move) ?_
     try simp only [opv, n1, n2, n3, n4, Value.cells]
     refine g_on (yi (t := 29) rfl rfl) ?_
     first | refine s_go (m_fieldAddr Try.underlying67 (hi := ti65)) ?_ | refine s_go (m_fieldAddr_rd Try.underlying67 (hi := ti65) (hS := hS)) ?_ | refine s_go (m_fieldAddr_vec Try.underlying67 (hi := ti65) (hS := hS)) ?_
     try simp only [opv, n1, n2, n3, n4, Value.cells, Nat.zero_add, Nat.add_zero, List.getElem_toArray, List.getElem_cons_zero, List.getElem_cons_succ]
     refine g_on (yi (t := 29) rfl rfl) ?_
     refine s_go (m_load_obj Try.underlying65 (hS := hS) (hv := set_sl (by assumption) _)) ?_
     try simp only [opv, n1, n2, n3, n4, Value.cells, List.getElem_toArray, List.getElem_cons_zero, List.getElem_cons_succ]
     refine g_on (yi (t := 29) rfl rfl) ?_
     refine s_go (s_move) ?_
     try simp only [opv, n1, n2, n3, n4, Value.cells]
     refine g_on (yi (t := 29) rfl rfl) ?_
     first | refine s_go (m_indexAddr_rd Try.underlying65 ti48 (hS := hS)) ?_ | refine s_go (m_indexAddr_vec Try.underlying65 ti48 (hS := hS)) ?_
     try simp only [opv, n1, n2, n3, n4, Value.cells, Nat.mul_one, Nat.zero_add, Int.toNat_natCast, Int.reduceToNat]
     refine g_on (yi (t := 29) rfl rfl) ?_
     first | refine s_go (m_load_obj Try.underlying48 (hS := hS)) ?_ | refine s_go (m_load_bx Try.underlying48 (hS := hS)) ?_ | refine s_go (m_load_rd Try.underlying48 (hS := hS)) ?_ | refine s_go (m_load_vec Try.underlying48 (hS := hS)) ?_
     try simp only [opv, n1, n2, n3, n4, Value.cells, List.getElem_toArray, List.getElem_cons_zero, List.getElem_cons_succ]
     rw [hy]
     refine g_on (yi (t := 29) rfl rfl) ?_
     refine s_go (s_lss) ?_
     try simp only [opv, n1, n2, n3, n4, Value.cells]
     first | refine s_go (s_pick_t) ?_ | refine s_go (s_pick_f) ?_
     try simp only [opv, n1, n2, n3, n4, Value.cells]
     refine x_nil ?_
     refine hK14 _ _ ?_
     refine x_cond (ht := fun hc4 => ?_) (hf := fun hc4 => ?_)
     ·
      try simp only [decide_eq_true_eq, decide_eq_false_iff_not, Bool.not_eq_true', Bool.not_eq_false', Int.not_lt, Int.not_le, ne_eq, Decidable.not_not, bne_iff_ne, beq_iff_eq, not_true_eq_false, not_false_eq_true] at hc4
      have hst2 := hps.trans (if_pos ⟨rfl, hc4⟩)
      obtain ⟨o2, ho2⟩ : ∃ z, z = o ++ [(q : Int)] := ⟨_, rfl⟩
      rw [← ho2] at hst2
      have hol2 : o2.length ≤ 2 * k + 1 := by rw [ho2, List.length_append]; simp only [List.length_cons, List.length_nil]; omega
      refine x_seq fun K15 hK15 => ?_
      refine x_region ?_
      first | refine s_go (m_fieldAddr Try.underlying67 (hi := ti65)) ?_ | refine s_go (m_fieldAddr_rd Try.underlying67 (hi := ti65) (hS := hS)) ?_ | refine s_go (m_fieldAddr_vec Try.underlying67 (hi := ti65) (hS := hS)) ?_
      try simp only [opv, n1, n2, n3, n4, Value.cells, Nat.zero_add, Nat.add_zero, List.getElem_toArray, List.getElem_cons_zero, List.getElem_cons_succ]
      refine s_go (m_load_obj Try.underlying65 (hS := hS) (hv := set_sl (by assumption) _)) ?_
      try simp only [opv, n1, n2, n3, n4, Value.cells, List.getElem_toArray, List.getElem_cons_zero, List.getElem_cons_succ]
      refine s_go (s_move) ?_
      try simp only [opv, n1, n2, n3, n4, Value.cells]
      refine m_buildRow (cells := #[_]) Try.underlying65 ti48 (hc := by simp only [List.map_toArray, List.map_cons, List.map_nil, opv, n1, n2, n3, n4, Value.cells, List.toList_toArray]; (repeat (refine fill_cons rfl rfl (Nat.le_of_ble_eq_true rfl) ?_)); rfl) (hS := hS) (h := fun w9 g9 hS => ?_)
      try simp only [opv, n1, n2, n3, n4, Value.cells, Array.toArray_toList] at hS ⊢
      replace hS := hS.obj_rd (sz := 1) (n := 1) rfl .head
      refine m_append Try.underlying65 ti48 (hS := hS) (news := [(q : Int)].map (Value.int .u64)) (h := fun w10 A10 C10 hS => ?_)
      try simp only [← List.map_append, ← List.map_drop, ← List.map_take, Nat.mul_one, Nat.zero_mul, Nat.sub_zero, List.drop_zero, List.nil_append, Nat.zero_add] at hS ⊢
      try simp only [opv, n1, n2, n3, n4, Value.cells, Array.toArray_toList] at hS ⊢
      obtain ⟨E9, hE9⟩ : ∃ z, z = A10 := ⟨_, rfl⟩
      obtain ⟨ec9, hec9⟩ : ∃ z, z = C10 := ⟨_, rfl⟩
      rw [← hE9, ← hec9] at hS ⊢
      first | refine s_go (m_fieldAddr Try.underlying67 (hi := ti65)) ?_ | refine s_go (m_fieldAddr_rd Try.underlying67 (hi := ti65) (hS := hS)) ?_ | refine s_go (m_fieldAddr_vec Try.underlying67 (hi := ti65) (hS := hS)) ?_
      try simp only [opv, n1, n2, n3, n4, Value.cells, Nat.zero_add, Nat.add_zero, List.getElem_toArray, List.getElem_cons_zero, List.getElem_cons_succ]
      refine m_store_obj ti65 (hS := hS) (hfit := by rw [setC_size (by assumption)]; omega) (hc := set_put16 (by assumption) _ _) (h := fun w11 hS => ?_)
      try simp only [opv, n1, n2, n3, n4, Value.cells, Array.toArray_toList] at hS ⊢
      try simp only [← List.map_append] at hS
      rw [← ho2, show o.length + 1 = o2.length by rw [ho2, List.length_append]; rfl] at hS
      refine x_nil ?_
      refine hK15 _ _ ?_
      refine x_region ?_
      refine s_go (s_assign) ?_
      try simp only [opv, n1, n2, n3, n4, Value.cells]
      refine x_nil ?_
      refine hK13 _ _ ?_
      refine x_mixed_c (Lc := [.obj gbo (.cells (SetC x (.slice E9 o2.length ec9)) 67 (0, 0)), .obj gbr (.cells (SetC (List.replicate 16 0) (.slice none 0 0)) 67 (0, 0)), .obj gba (.cells (SetC x (.slice A cl.length c)) 67 (0, 0)), .rd A 1 cl.length (List.map (Value.int .u64) cl)]) [10] 0 [44, 45, 46, 47, 48, 49, 50, 51, 52, 53] (fun f w => ∃ (E2 : Option Addr) (ec2 : Nat), St NoB w0 w [.obj gbo (.cells (SetC x (.slice E2 (o2 ++ [y]).length ec2)) 67 (0, 0)), .vec E2 ec2 48 1 (o2 ++ [y]).length (List.map (Value.int .u64) (o2 ++ [y])), .obj gbr (.cells (SetC (List.replicate 16 0) (.slice none 0 0)) 67 (0, 0)), .obj gba (.cells (SetC x (.slice A cl.length c)) 67 (0, 0)), .rd A 1 cl.length (List.map (Value.int .u64) cl)]) (by kernel_rfl) (by kernel_rfl) (by kernel_rfl) (by decide) hS (fun w12 hS => ?mixpre1101) ?mixrest1101
      case mixpre1101 =>
       refine p_nil ?_
       simp only [List.length_cons, List.length_nil, Nat.reduceAdd, Nat.reduceSub]
       first | refine any_go (i := 0) (by rfl) (by decide +kernel) (by decide +kernel) (by unfold noLate; decide) (go_yields w_none (fun w hS => m_fieldAddr Try.underlying67 (hi := ti65))) ?_ | refine any_go (i := 0) (by rfl) (by decide +kernel) (by decide +kernel) (by unfold noLate; decide) (go_yields w_none (fun w hS => m_fieldAddr_rd Try.underlying67 (hi := ti65) (hS := hS))) ?_ | refine any_go (i := 0) (by rfl) (by decide +kernel) (by decide +kernel) (by unfold noLate; decide) (go_yields w_none (fun w hS => m_fieldAddr_vec Try.underlying67 (hi := ti65) (hS := hS))) ?_
       try simp only [opv, n1, n2, n3, n4, Value.cells, Nat.zero_add, Nat.add_zero, List.getElem_toArray, List.getElem_cons_zero, List.getElem_cons_succ]
       refine any_go (i := 1) (by rfl) (by decide +kernel) (by decide +kernel) (by unfold noLate; decide) (go_yields w_none (fun w hS => m_load_obj Try.underlying65 (hS := hS) (hv := set_sl (by assumption) _))) ?_
       try simp only [opv, n1, n2, n3, n4, Value.cells, List.getElem_toArray, List.getElem_cons_zero, List.getElem_cons_succ]
       first | refine any_go (i := 2) (by rfl) (by decide +kernel) (by decide +kernel) (by unfold noLate; decide) (go_yields w_none (fun w hS => m_fieldAddr Try.underlying67 (hi := ti65))) ?_ | refine any_go (i := 2) (by rfl) (by decide +kernel) (by decide +kernel) (by unfold noLate; decide) (go_yields w_none (fun w hS => m_fieldAddr_rd Try.underlying67 (hi := ti65) (hS := hS))) ?_ | refine any_go (i := 2) (by rfl) (by decide +kernel) (by decide +kernel) (by unfold noLate; decide) (go_yields w_none (fun w hS => m_fieldAddr_vec Try.underlying67 (hi := ti65) (hS := hS))) ?_
       try simp only [opv, n1, n2, n3, n4, Value.cells, Nat.zero_add, Nat.add_zero, List.getElem_toArray, List.getElem_cons_zero, List.getElem_cons_succ]
       refine any_go (i := 3) (by rfl) (by decide +kernel) (by decide +kernel) (by unfold noLate; decide) (go_yields w_none (fun w hS => m_load_obj Try.underlying65 (hS := hS) (hv := set_sl (by assumption) _))) ?_
       try simp only [opv, n1, n2, n3, n4, Value.cells, List.getElem_toArray, List.getElem_cons_zero, List.getElem_cons_succ]
       refine any_go (i := 4) (by rfl) (by decide +kernel) (by decide +kernel) (by unfold noLate; decide) (go_yields w_none (fun w hS => s_move)) ?_
       try simp only [opv, n1, n2, n3, n4, Value.cells]
       first | refine any_go (i := 5) (by rfl) (by decide +kernel) (by decide +kernel) (by unfold noLate; decide) (go_yields w_none (fun w hS => m_indexAddr_rd Try.underlying65 ti48 (hS := hS))) ?_ | refine any_go (i := 5) (by rfl) (by decide +kernel) (by decide +kernel) (by unfold noLate; decide) (go_yields w_none (fun w hS => m_indexAddr_vec Try.underlying65 ti48 (hS := hS))) ?_
       try simp only [opv, n1, n2, n3, n4, Value.cells, Nat.mul_one, Nat.zero_add, Int.toNat_natCast, Int.reduceToNat]
       first | refine any_go (i := 6) (by rfl) (by decide +kernel) (by decide +kernel) (by unfold noLate; decide) (go_yields w_none (fun w hS => m_load_obj Try.underlying48 (hS := hS))) ?_ | refine any_go (i := 6) (by rfl) (by decide +kernel) (by decide +kernel) (by unfold noLate; decide) (go_yields w_none (fun w hS => m_load_bx Try.underlying48 (hS := hS))) ?_ | refine any_go (i := 6) (by rfl) (by decide +kernel) (by decide +kernel) (by unfold noLate; decide) (go_yields w_none (fun w hS => m_load_rd Try.underlying48 (hS := hS))) ?_ | refine any_go (i := 6) (by rfl) (by decide +kernel) (by decide +kernel) (by unfold noLate; decide) (go_yields w_none (fun w hS => m_load_vec Try.underlying48 (hS := hS))) ?_
       try simp only [opv, n1, n2, n3, n4, Value.cells, List.getElem_toArray, List.getElem_cons_zero, List.getElem_cons_succ]
       rw [hy]
       refine any_step [7] (by kernel_rfl) (by decide) (fun w13 hE => ⟨fun _ => (hS.ext hE).sel (by repeat (first | exact Sel.nil | (refine Sel.cons (by repeat (first | exact Del.head | apply Del.tail)) ?_))), ?_⟩)
       replace hS := hS.ext hE
       intro i hi
       simp only [List.mem_cons, List.not_mem_nil, or_false] at hi
       subst hi
       ·
        refine any_op (by rfl) ?_
        refine m_buildRow (cells := #[_]) Try.underlying65 ti48 (hc := by simp only [List.map_toArray, List.map_cons, List.map_nil, opv, n1, n2, n3, n4, Value.cells, List.toList_toArray]; (repeat (refine fill_cons rfl rfl (Nat.le_of_ble_eq_true rfl) ?_)); rfl) (hS := hS) (h := fun w14 g14 hS => ?_)
        try simp only [opv, n1, n2, n3, n4, Value.cells, Array.toArray_toList] at hS ⊢
        replace hS := hS.obj_rd (sz := 1) (n := 1) rfl .head
        refine x_nil ?_
        refine any_step [8] (by kernel_rfl) (by decide) (fun w15 hE => ⟨fun _ => (hS.ext hE).sel (by repeat (first | exact Sel.nil | (refine Sel.cons (by repeat (first | exact Del.head | apply Del.tail)) ?_))), ?_⟩)
        replace hS := hS.ext hE
        intro i hi
        simp only [List.mem_cons, List.not_mem_nil, or_false] at hi
        subst hi
        ·
         refine any_op (by rfl) ?_
         refine m_append Try.underlying65 ti48 (hS := hS) (news := [y].map (Value.int .u64)) (h := fun w16 A16 C16 hS => ?_)
         try simp only [← List.map_append, ← List.map_drop, ← List.map_take, Nat.mul_one, Nat.zero_mul, Nat.sub_zero, List.drop_zero, List.nil_append, Nat.zero_add] at hS ⊢
         try simp only [opv, n1, n2, n3, n4, Value.cells, Array.toArray_toList] at hS ⊢
         refine x_nil ?_
         first | refine any_go (i := 9) (by rfl) (by decide +kernel) (by decide +kernel) (by unfold noLate; decide) (go_yields w_none (fun w hS => m_fieldAddr Try.underlying67 (hi := ti65))) ?_ | refine any_go (i := 9) (by rfl) (by decide +kernel) (by decide +kernel) (by unfold noLate; decide) (go_yields w_none (fun w hS => m_fieldAddr_rd Try.underlying67 (hi := ti65) (hS := hS))) ?_ | refine any_go (i := 9) (by rfl) (by decide +kernel) (by decide +kernel) (by unfold noLate; decide) (go_yields w_none (fun w hS => m_fieldAddr_vec Try.underlying67 (hi := ti65) (hS := hS))) ?_
         try simp only [opv, n1, n2, n3, n4, Value.cells, Nat.zero_add, Nat.add_zero, List.getElem_toArray, List.getElem_cons_zero, List.getElem_cons_succ]
         refine any_step [10] (by kernel_rfl) (by decide) (fun w17 hE => ⟨fun _ => (hS.ext hE).sel (by repeat (first | exact Sel.nil | (refine Sel.cons (by repeat (first | exact Del.head | apply Del.tail)) ?_))), ?_⟩)
         replace hS := hS.ext hE
         intro i hi
         simp only [List.mem_cons, List.not_mem_nil, or_false] at hi
         subst hi
         ·
          refine any_op (by rfl) ?_
          refine m_store_obj ti65 (hS := hS) (hfit := by rw [setC_size (by assumption)]; omega) (hc := set_put16 (by assumption) _ _) (h := fun w18 hS => ?_)
          try simp only [opv, n1, n2, n3, n4, Value.cells, Array.toArray_toList] at hS ⊢
          refine x_nil ?_
          refine any_nil (by kernel_rfl) (fun w19 hE => ?_)
          replace hS := hS.ext hE
          refine ⟨fun hl => absurd (hl 10 (by decide)) (by decide +kernel), ?_⟩
          refine mix_leaf (by simp only [clob, List.foldl, n1, n2, n3, n4]) ?_
          try simp only [n1, n2]
          rw [show o2.length + 1 = (o2 ++ [y]).length by rw [List.length_append]; rfl] at hS
          exact ⟨_, _, hS.sel (by repeat (first | exact Sel.nil | (refine Sel.cons (by repeat (first | exact Del.head | apply Del.tail)) ?_)))⟩
      intro fm1 w20 hM
      obtain ⟨E2, ec2, hS⟩ := hM
      simp only [clob, List.foldl, n3, n4]
      refine hK12 _ _ ?_
      refine x_region ?_
      refine s_go (s_move) ?_
      try simp only [opv, n1, n2, n3, n4, Value.cells]
      refine s_go (s_add (hc := by first | exact wr_i64 (by omega) (by omega) | rfl)) ?_
      try simp only [opv, n1, n2, n3, n4, Value.cells]
      refine s_go (s_assign) ?_
      try simp only [opv, n1, n2, n3, n4, Value.cells]
      refine x_nil ?_
      refine loop_back (m' := cl.length - (k + 1)) (by simp only [clob, List.foldl, n1, n2, n3, n4]) ?_ ?_
      · try simp only [opv, n1, n2, n3, n4, Value.cells]
        exact ⟨k + 1, _, _, o2 ++ [y], _, by omega, by omega, by rfl, by rfl, hst2, by simp only [List.length_append, List.length_cons, List.length_nil]; omega, hS.sel (by repeat (first | exact Sel.nil | (refine Sel.cons (by repeat (first | exact Del.head | apply Del.tail)) ?_)))⟩
      · omega
     ·
      try simp only [decide_eq_true_eq, decide_eq_false_iff_not, Bool.not_eq_true', Bool.not_eq_false', Int.not_lt, Int.not_le, ne_eq, Decidable.not_not, bne_iff_ne, beq_iff_eq, not_true_eq_false, not_false_eq_true] at hc4
      try have hst2 := hps.trans (if_neg (fun h => by have := h.2; omega))
      obtain ⟨o2, ho2⟩ : ∃ z, z = o := ⟨_, rfl⟩
      rw [← ho2] at hst2 hS
      have hol2 : o2.length ≤ 2 * k + 1 := by rw [ho2]; omega
      obtain ⟨E9, hE9⟩ : ∃ z, z = E := ⟨_, rfl⟩
      obtain ⟨ec9, hec9⟩ : ∃ z, z = ec := ⟨_, rfl⟩
      rw [← hE9, ← hec9] at hS
      refine x_skip ?_
      refine hK13 _ _ ?_
      refine x_mixed_c (Lc := [.obj gbo (.cells (SetC x (.slice E9 o2.length ec9)) 67 (0, 0)), .obj gbr (.cells (SetC (List.replicate 16 0) (.slice none 0 0)) 67 (0, 0)), .obj gba (.cells (SetC x (.slice A cl.length c)) 67 (0, 0)), .rd A 1 cl.length (List.map (Value.int .u64) cl)]) [10] 0 [44, 45, 46, 47, 48, 49, 50, 51, 52, 53] (fun f w => ∃ (E2 : Option Addr) (ec2 : Nat), St NoB w0 w [.obj gbo (.cells (SetC x (.slice E2 (o2 ++ [y]).length ec2)) 67 (0, 0)), .vec E2 ec2 48 1 (o2 ++ [y]).length (List.map (Value.int .u64) (o2 ++ [y])), .obj gbr (.cells (SetC (List.replicate 16 0) (.slice none 0 0)) 67 (0, 0)), .obj gba (.cells (SetC x (.slice A cl.length c)) 67 (0, 0)), .rd A 1 cl.length (List.map (Value.int .u64) cl)]) (by kernel_rfl) (by kernel_rfl) (by kernel_rfl) (by decide) hS (fun w21 hS => ?mixpre1102) ?mixrest1102
      case mixpre1102 =>
       refine p_nil ?_
       simp only [List.length_cons, List.length_nil, Nat.reduceAdd, Nat.reduceSub]
       first | refine any_go (i := 0) (by rfl) (by decide +kernel) (by decide +kernel) (by unfold noLate; decide) (go_yields w_none (fun w hS => m_fieldAddr Try.underlying67 (hi := ti65))) ?_ | refine any_go (i := 0) (by rfl) (by decide +kernel) (by decide +kernel) (by unfold noLate; decide) (go_yields w_none (fun w hS => m_fieldAddr_rd Try.underlying67 (hi := ti65) (hS := hS))) ?_ | refine any_go (i := 0) (by rfl) (by decide +kernel) (by decide +kernel) (by unfold noLate; decide) (go_yields w_none (fun w hS => m_fieldAddr_vec Try.underlying67 (hi := ti65) (hS := hS))) ?_
       try simp only [opv, n1, n2, n3, n4, Value.cells, Nat.zero_add, Nat.add_zero, List.getElem_toArray, List.getElem_cons_zero, List.getElem_cons_succ]
       refine any_go (i := 1) (by rfl) (by decide +kernel) (by decide +kernel) (by unfold noLate; decide) (go_yields w_none (fun w hS => m_load_obj Try.underlying65 (hS := hS) (hv := set_sl (by assumption) _))) ?_
       try simp only [opv, n1, n2, n3, n4, Value.cells, List.getElem_toArray, List.getElem_cons_zero, List.getElem_cons_succ]
       first | refine any_go (i := 2) (by rfl) (by decide +kernel) (by decide +kernel) (by unfold noLate; decide) (go_yields w_none (fun w hS => m_fieldAddr Try.underlying67 (hi := ti65))) ?_ | refine any_go (i := 2) (by rfl) (by decide +kernel) (by decide +kernel) (by unfold noLate; decide) (go_yields w_none (fun w hS => m_fieldAddr_rd Try.underlying67 (hi := ti65) (hS := hS))) ?_ | refine any_go (i := 2) (by rfl) (by decide +kernel) (by decide +kernel) (by unfold noLate; decide) (go_yields w_none (fun w hS => m_fieldAddr_vec Try.underlying67 (hi := ti65) (hS := hS))) ?_
       try simp only [opv, n1, n2, n3, n4, Value.cells, Nat.zero_add, Nat.add_zero, List.getElem_toArray, List.getElem_cons_zero, List.getElem_cons_succ]
       refine any_go (i := 3) (by rfl) (by decide +kernel) (by decide +kernel) (by unfold noLate; decide) (go_yields w_none (fun w hS => m_load_obj Try.underlying65 (hS := hS) (hv := set_sl (by assumption) _))) ?_
       try simp only [opv, n1, n2, n3, n4, Value.cells, List.getElem_toArray, List.getElem_cons_zero, List.getElem_cons_succ]
       refine any_go (i := 4) (by rfl) (by decide +kernel) (by decide +kernel) (by unfold noLate; decide) (go_yields w_none (fun w hS => s_move)) ?_
       try simp only [opv, n1, n2, n3, n4, Value.cells]
       first | refine any_go (i := 5) (by rfl) (by decide +kernel) (by decide +kernel) (by unfold noLate; decide) (go_yields w_none (fun w hS => m_indexAddr_rd Try.underlying65 ti48 (hS := hS))) ?_ | refine any_go (i := 5) (by rfl) (by decide +kernel) (by decide +kernel) (by unfold noLate; decide) (go_yields w_none (fun w hS => m_indexAddr_vec Try.underlying65 ti48 (hS := hS))) ?_
       try simp only [opv, n1, n2, n3, n4, Value.cells, Nat.mul_one, Nat.zero_add, Int.toNat_natCast, Int.reduceToNat]
       first | refine any_go (i := 6) (by rfl) (by decide +kernel) (by decide +kernel) (by unfold noLate; decide) (go_yields w_none (fun w hS => m_load_obj Try.underlying48 (hS := hS))) ?_ | refine any_go (i := 6) (by rfl) (by decide +kernel) (by decide +kernel) (by unfold noLate; decide) (go_yields w_none (fun w hS => m_load_bx Try.underlying48 (hS := hS))) ?_ | refine any_go (i := 6) (by rfl) (by decide +kernel) (by decide +kernel) (by unfold noLate; decide) (go_yields w_none (fun w hS => m_load_rd Try.underlying48 (hS := hS))) ?_ | refine any_go (i := 6) (by rfl) (by decide +kernel) (by decide +kernel) (by unfold noLate; decide) (go_yields w_none (fun w hS => m_load_vec Try.underlying48 (hS := hS))) ?_
       try simp only [opv, n1, n2, n3, n4, Value.cells, List.getElem_toArray, List.getElem_cons_zero, List.getElem_cons_succ]
       rw [hy]
       refine any_step [7] (by kernel_rfl) (by decide) (fun w22 hE => ⟨fun _ => (hS.ext hE).sel (by repeat (first | exact Sel.nil | (refine Sel.cons (by repeat (first | exact Del.head | apply Del.tail)) ?_))), ?_⟩)
       replace hS := hS.ext hE
       intro i hi
       simp only [List.mem_cons, List.not_mem_nil, or_false] at hi
       subst hi
       ·
        refine any_op (by rfl) ?_
        refine m_buildRow (cells := #[_]) Try.underlying65 ti48 (hc := by simp only [List.map_toArray, List.map_cons, List.map_nil, opv, n1, n2, n3, n4, Value.cells, List.toList_toArray]; (repeat (refine fill_cons rfl rfl (Nat.le_of_ble_eq_true rfl) ?_)); rfl) (hS := hS) (h := fun w23 g23 hS => ?_)
        try simp only [opv, n1, n2, n3, n4, Value.cells, Array.toArray_toList] at hS ⊢
        replace hS := hS.obj_rd (sz := 1) (n := 1) rfl .head
        refine x_nil ?_
        refine any_step [8] (by kernel_rfl) (by decide) (fun w24 hE => ⟨fun _ => (hS.ext hE).sel (by repeat (first | exact Sel.nil | (refine Sel.cons (by repeat (first | exact Del.head | apply Del.tail)) ?_))), ?_⟩)
        replace hS := hS.ext hE
        intro i hi
        simp only [List.mem_cons, List.not_mem_nil, or_false] at hi
        subst hi
        ·
         refine any_op (by rfl) ?_
         refine m_append Try.underlying65 ti48 (hS := hS) (news := [y].map (Value.int .u64)) (h := fun w25 A25 C25 hS => ?_)
         try simp only [← List.map_append, ← List.map_drop, ← List.map_take, Nat.mul_one, Nat.zero_mul, Nat.sub_zero, List.drop_zero, List.nil_append, Nat.zero_add] at hS ⊢
         try simp only [opv, n1, n2, n3, n4, Value.cells, Array.toArray_toList] at hS ⊢
         refine x_nil ?_
         first | refine any_go (i := 9) (by rfl) (by decide +kernel) (by decide +kernel) (by unfold noLate; decide) (go_yields w_none (fun w hS => m_fieldAddr Try.underlying67 (hi := ti65))) ?_ | refine any_go (i := 9) (by rfl) (by decide +kernel) (by decide +kernel) (by unfold noLate; decide) (go_yields w_none (fun w hS => m_fieldAddr_rd Try.underlying67 (hi := ti65) (hS := hS))) ?_ | refine any_go (i := 9) (by rfl) (by decide +kernel) (by decide +kernel) (by unfold noLate; decide) (go_yields w_none (fun w hS => m_fieldAddr_vec Try.underlying67 (hi := ti65) (hS := hS))) ?_
         try simp only [opv, n1, n2, n3, n4, Value.cells, Nat.zero_add, Nat.add_zero, List.getElem_toArray, List.getElem_cons_zero, List.getElem_cons_succ]
         refine any_step [10] (by kernel_rfl) (by decide) (fun w26 hE => ⟨fun _ => (hS.ext hE).sel (by repeat (first | exact Sel.nil | (refine Sel.cons (by repeat (first | exact Del.head | apply Del.tail)) ?_))), ?_⟩)
         replace hS := hS.ext hE
         intro i hi
         simp only [List.mem_cons, List.not_mem_nil, or_false] at hi
         subst hi
         ·
          refine any_op (by rfl) ?_
          refine m_store_obj ti65 (hS := hS) (hfit := by rw [setC_size (by assumption)]; omega) (hc := set_put16 (by assumption) _ _) (h := fun w27 hS => ?_)
          try simp only [opv, n1, n2, n3, n4, Value.cells, Array.toArray_toList] at hS ⊢
          refine x_nil ?_
          refine any_nil (by kernel_rfl) (fun w28 hE => ?_)
          replace hS := hS.ext hE
          refine ⟨fun hl => absurd (hl 10 (by decide)) (by decide +kernel), ?_⟩
          refine mix_leaf (by simp only [clob, List.foldl, n1, n2, n3, n4]) ?_
          try simp only [n1, n2]
          rw [show o2.length + 1 = (o2 ++ [y]).length by rw [List.length_append]; rfl] at hS
          exact ⟨_, _, hS.sel (by repeat (first | exact Sel.nil | (refine Sel.cons (by repeat (first | exact Del.head | apply Del.tail)) ?_)))⟩
      intro fm2 w29 hM
      obtain ⟨E2, ec2, hS⟩ := hM
      simp only [clob, List.foldl, n3, n4]
      refine hK12 _ _ ?_
      refine x_region ?_
      refine s_go (s_move) ?_
      try simp only [opv, n1, n2, n3, n4, Value.cells]
      refine s_go (s_add (hc := by first | exact wr_i64 (by omega) (by omega) | rfl)) ?_
      try simp only [opv, n1, n2, n3, n4, Value.cells]
      refine s_go (s_assign) ?_
      try simp only [opv, n1, n2, n3, n4, Value.cells]
      refine x_nil ?_
      refine loop_back (m' := cl.length - (k + 1)) (by simp only [clob, List.foldl, n1, n2, n3, n4]) ?_ ?_
      · try simp only [opv, n1, n2, n3, n4, Value.cells]
        exact ⟨k + 1, _, _, o2 ++ [y], _, by omega, by omega, by rfl, by rfl, hst2, by simp only [List.length_append, List.length_cons, List.length_nil]; omega, hS.sel (by repeat (first | exact Sel.nil | (refine Sel.cons (by repeat (first | exact Del.head | apply Del.tail)) ?_)))⟩
      · omega
    ·
     try simp only [n3, n4]
     try simp only [decide_eq_true_eq, decide_eq_false_iff_not, Bool.not_eq_true', Bool.not_eq_false', Int.not_lt, Int.not_le, ne_eq, Decidable.not_not] at hp2
     obtain rfl : dn = true := by simpa using hp2
     have hst2 := hps.trans (if_neg (by simp))
     refine g_off (yi (t := 29) rfl rfl) ?_
     try simp only [opv, n1, n2, n3, n4, Value.cells]
     refine g_off (yi (t := 29) rfl rfl) ?_
     try simp only [opv, n1, n2, n3, n4, Value.cells]
     refine g_off (yi (t := 29) rfl rfl) ?_
     try simp only [opv, n1, n2, n3, n4, Value.cells]
     refine g_off (yi (t := 29) rfl rfl) ?_
     try simp only [opv, n1, n2, n3, n4, Value.cells]
     refine g_off (yi (t := 29) rfl rfl) ?_
     try simp only [opv, n1, n2, n3, n4, Value.cells]
     refine g_off (yi (t := 29) rfl rfl) ?_
     try simp only [opv, n1, n2, n3, n4, Value.cells]
     refine g_off (yi (t := 29) rfl rfl) ?_
     try simp only [opv, n1, n2, n3, n4, Value.cells]
     first | refine s_go (s_pick_t) ?_ | refine s_go (s_pick_f) ?_
     try simp only [opv, n1, n2, n3, n4, Value.cells]
     refine x_nil ?_
     refine hK14 _ _ ?_
     refine x_cond_f (h := ?_)
     try have hst2 := hps.trans (if_neg (fun h => by have := h.2; omega))
     obtain ⟨o2, ho2⟩ : ∃ z, z = o := ⟨_, rfl⟩
     rw [← ho2] at hst2 hS
     have hol2 : o2.length ≤ 2 * k + 1 := by rw [ho2]; omega
     obtain ⟨E9, hE9⟩ : ∃ z, z = E := ⟨_, rfl⟩
     obtain ⟨ec9, hec9⟩ : ∃ z, z = ec := ⟨_, rfl⟩
     rw [← hE9, ← hec9] at hS
     refine x_skip ?_
     refine hK13 _ _ ?_
     refine x_mixed_c (Lc := [.obj gbo (.cells (SetC x (.slice E9 o2.length ec9)) 67 (0, 0)), .obj gbr (.cells (SetC (List.replicate 16 0) (.slice none 0 0)) 67 (0, 0)), .obj gba (.cells (SetC x (.slice A cl.length c)) 67 (0, 0)), .rd A 1 cl.length (List.map (Value.int .u64) cl)]) [10] 0 [44, 45, 46, 47, 48, 49, 50, 51, 52, 53] (fun f w => ∃ (E2 : Option Addr) (ec2 : Nat), St NoB w0 w [.obj gbo (.cells (SetC x (.slice E2 (o2 ++ [y]).length ec2)) 67 (0, 0)), .vec E2 ec2 48 1 (o2 ++ [y]).length (List.map (Value.int .u64) (o2 ++ [y])), .obj gbr (.cells (SetC (List.replicate 16 0) (.slice none 0 0)) 67 (0, 0)), .obj gba (.cells (SetC x (.slice A cl.length c)) 67 (0, 0)), .rd A 1 cl.length (List.map (Value.int .u64) cl)]) (by kernel_rfl) (by kernel_rfl) (by kernel_rfl) (by decide) hS (fun w30 hS => ?mixpre1103) ?mixrest1103
     case mixpre1103 =>
      refine p_nil ?_
      simp only [List.length_cons, List.length_nil, Nat.reduceAdd, Nat.reduceSub]
      first | refine any_go (i := 0) (by rfl) (by decide +kernel) (by decide +kernel) (by unfold noLate; decide) (go_yields w_none (fun w hS => m_fieldAddr Try.underlying67 (hi := ti65))) ?_ | refine any_go (i := 0) (by rfl) (by decide +kernel) (by decide +kernel) (by unfold noLate; decide) (go_yields w_none (fun w hS => m_fieldAddr_rd Try.underlying67 (hi := ti65) (hS := hS))) ?_ | refine any_go (i := 0) (by rfl) (by decide +kernel) (by decide +kernel) (by unfold noLate; decide) (go_yields w_none (fun w hS => m_fieldAddr_vec Try.underlying67 (hi := ti65) (hS := hS))) ?_
      try simp only [opv, n1, n2, n3, n4, Value.cells, Nat.zero_add, Nat.add_zero, List.getElem_toArray, List.getElem_cons_zero, List.getElem_cons_succ]
      refine any_go (i := 1) (by rfl) (by decide +kernel) (by decide +kernel) (by unfold noLate; decide) (go_yields w_none (fun w hS => m_load_obj Try.underlying65 (hS := hS) (hv := set_sl (by assumption) _))) ?_
      try simp only [opv, n1, n2, n3, n4, Value.cells, List.getElem_toArray, List.getElem_cons_zero, List.getElem_cons_succ]
      first | refine any_go (i := 2) (by rfl) (by decide +kernel) (by decide +kernel) (by unfold noLate; decide) (go_yields w_none (fun w hS => m_fieldAddr Try.underlying67 (hi := ti65))) ?_ | refine any_go (i := 2) (by rfl) (by decide +kernel) (by decide +kernel) (by unfold noLate; decide) (go_yields w_none (fun w hS => m_fieldAddr_rd Try.underlying67 (hi := ti65) (hS := hS))) ?_ | refine any_go (i := 2) (by rfl) (by decide +kernel) (by decide +kernel) (by unfold noLate; decide) (go_yields w_none (fun w hS => m_fieldAddr_vec Try.underlying67 (hi := ti65) (hS := hS))) ?_
      try simp only [opv, n1, n2, n3, n4, Value.cells, Nat.zero_add, Nat.add_zero, List.getElem_toArray, List.getElem_cons_zero, List.getElem_cons_succ]
      refine any_go (i := 3) (by rfl) (by decide +kernel) (by decide +kernel) (by unfold noLate; decide) (go_yields w_none (fun w hS => m_load_obj Try.underlying65 (hS := hS) (hv := set_sl (by assumption) _))) ?_
      try simp only [opv, n1, n2, n3, n4, Value.cells, List.getElem_toArray, List.getElem_cons_zero, List.getElem_cons_succ]
      refine any_go (i := 4) (by rfl) (by decide +kernel) (by decide +kernel) (by unfold noLate; decide) (go_yields w_none (fun w hS => s_move)) ?_
      try simp only [opv, n1, n2, n3, n4, Value.cells]
      first | refine any_go (i := 5) (by rfl) (by decide +kernel) (by decide +kernel) (by unfold noLate; decide) (go_yields w_none (fun w hS => m_indexAddr_rd Try.underlying65 ti48 (hS := hS))) ?_ | refine any_go (i := 5) (by rfl) (by decide +kernel) (by decide +kernel) (by unfold noLate; decide) (go_yields w_none (fun w hS => m_indexAddr_vec Try.underlying65 ti48 (hS := hS))) ?_
      try simp only [opv, n1, n2, n3, n4, Value.cells, Nat.mul_one, Nat.zero_add, Int.toNat_natCast, Int.reduceToNat]
      first | refine any_go (i := 6) (by rfl) (by decide +kernel) (by decide +kernel) (by unfold noLate; decide) (go_yields w_none (fun w hS => m_load_obj Try.underlying48 (hS := hS))) ?_ | refine any_go (i := 6) (by rfl) (by decide +kernel) (by decide +kernel) (by unfold noLate; decide) (go_yields w_none (fun w hS => m_load_bx Try.underlying48 (hS := hS))) ?_ | refine any_go (i := 6) (by rfl) (by decide +kernel) (by decide +kernel) (by unfold noLate; decide) (go_yields w_none (fun w hS => m_load_rd Try.underlying48 (hS := hS))) ?_ | refine any_go (i := 6) (by rfl) (by decide +kernel) (by decide +kernel) (by unfold noLate; decide) (go_yields w_none (fun w hS => m_load_vec Try.underlying48 (hS := hS))) ?_
      try simp only [opv, n1, n2, n3, n4, Value.cells, List.getElem_toArray, List.getElem_cons_zero, List.getElem_cons_succ]
      rw [hy]
      refine any_step [7] (by kernel_rfl) (by decide) (fun w31 hE => ⟨fun _ => (hS.ext hE).sel (by repeat (first | exact Sel.nil | (refine Sel.cons (by repeat (first | exact Del.head | apply Del.tail)) ?_))), ?_⟩)
      replace hS := hS.ext hE
      intro i hi
      simp only [List.mem_cons, List.not_mem_nil, or_false] at hi
      subst hi
      ·
       refine any_op (by rfl) ?_
       refine m_buildRow (cells := #[_]) Try.underlying65 ti48 (hc := by simp only [List.map_toArray, List.map_cons, List.map_nil, opv, n1, n2, n3, n4, Value.cells, List.toList_toArray]; (repeat (refine fill_cons rfl rfl (Nat.le_of_ble_eq_true rfl) ?_)); rfl) (hS := hS) (h := fun w32 g32 hS => ?_)
       try simp only [opv, n1, n2, n3, n4, Value.cells, Array.toArray_toList] at hS ⊢
       replace hS := hS.obj_rd (sz := 1) (n := 1) rfl .head
       refine x_nil ?_
       refine any_step [8] (by kernel_rfl) (by decide) (fun w33 hE => ⟨fun _ => (hS.ext hE).sel (by repeat (first | exact Sel.nil | (refine Sel.cons (by repeat (first | exact Del.head | apply Del.tail)) ?_))), ?_⟩)
       replace hS := hS.ext hE
       intro i hi
       simp only [List.mem_cons, List.not_mem_nil, or_false] at hi
       subst hi
       ·
        refine any_op (by rfl) ?_
        refine m_append Try.underlying65 ti48 (hS := hS) (news := [y].map (Value.int .u64)) (h := fun w34 A34 C34 hS => ?_)
        try simp only [← List.map_append, ← List.map_drop, ← List.map_take, Nat.mul_one, Nat.zero_mul, Nat.sub_zero, List.drop_zero, List.nil_append, Nat.zero_add] at hS ⊢
        try simp only [opv, n1, n2, n3, n4, Value.cells, Array.toArray_toList] at hS ⊢
        refine x_nil ?_
        first | refine any_go (i := 9) (by rfl) (by decide +kernel) (by decide +kernel) (by unfold noLate; decide) (go_yields w_none (fun w hS => m_fieldAddr Try.underlying67 (hi := ti65))) ?_ | refine any_go (i := 9) (by rfl) (by decide +kernel) (by decide +kernel) (by unfold noLate; decide) (go_yields w_none (fun w hS => m_fieldAddr_rd Try.underlying67 (hi := ti65) (hS := hS))) ?_ | refine any_go (i := 9) (by rfl) (by decide +kernel) (by decide +kernel) (by unfold noLate; decide) (go_yields w_none (fun w hS => m_fieldAddr_vec Try.underlying67 (hi := ti65) (hS := hS))) ?_
        try simp only [opv, n1, n2, n3, n4, Value.cells, Nat.zero_add, Nat.add_zero, List.getElem_toArray, List.getElem_cons_zero, List.getElem_cons_succ]
        refine any_step [10] (by kernel_rfl) (by decide) (fun w35 hE => ⟨fun _ => (hS.ext hE).sel (by repeat (first | exact Sel.nil | (refine Sel.cons (by repeat (first | exact Del.head | apply Del.tail)) ?_))), ?_⟩)
        replace hS := hS.ext hE
        intro i hi
        simp only [List.mem_cons, List.not_mem_nil, or_false] at hi
        subst hi
        ·
         refine any_op (by rfl) ?_
         refine m_store_obj ti65 (hS := hS) (hfit := by rw [setC_size (by assumption)]; omega) (hc := set_put16 (by assumption) _ _) (h := fun w36 hS => ?_)
         try simp only [opv, n1, n2, n3, n4, Value.cells, Array.toArray_toList] at hS ⊢
         refine x_nil ?_
         refine any_nil (by kernel_rfl) (fun w37 hE => ?_)
         replace hS := hS.ext hE
         refine ⟨fun hl => absurd (hl 10 (by decide)) (by decide +kernel), ?_⟩
         refine mix_leaf (by simp only [clob, List.foldl, n1, n2, n3, n4]) ?_
         try simp only [n1, n2]
         rw [show o2.length + 1 = (o2 ++ [y]).length by rw [List.length_append]; rfl] at hS
         exact ⟨_, _, hS.sel (by repeat (first | exact Sel.nil | (refine Sel.cons (by repeat (first | exact Del.head | apply Del.tail)) ?_)))⟩
     intro fm3 w38 hM
     obtain ⟨E2, ec2, hS⟩ := hM
     simp only [clob, List.foldl, n3, n4]
     refine hK12 _ _ ?_
     refine x_region ?_
     refine s_go (s_move) ?_
     try simp only [opv, n1, n2, n3, n4, Value.cells]
     refine s_go (s_add (hc := by first | exact wr_i64 (by omega) (by omega) | rfl)) ?_
     try simp only [opv, n1, n2, n3, n4, Value.cells]
     refine s_go (s_assign) ?_
     try simp only [opv, n1, n2, n3, n4, Value.cells]
     refine x_nil ?_
     refine loop_back (m' := cl.length - (k + 1)) (by simp only [clob, List.foldl, n1, n2, n3, n4]) ?_ ?_
     · try simp only [opv, n1, n2, n3, n4, Value.cells]
       exact ⟨k + 1, _, _, o2 ++ [y], _, by omega, by omega, by rfl, by rfl, hst2, by simp only [List.length_append, List.length_cons, List.length_nil]; omega, hS.sel (by repeat (first | exact Sel.nil | (refine Sel.cons (by repeat (first | exact Del.head | apply Del.tail)) ?_)))⟩
     · omega
   ·
    try simp only [decide_eq_true_eq, decide_eq_false_iff_not, Bool.not_eq_true', Bool.not_eq_false', Int.not_lt, Int.not_le, ne_eq, Decidable.not_not, bne_iff_ne, beq_iff_eq, not_true_eq_false, not_false_eq_true] at hc3
    obtain rfl : k = cl.length := by omega
    rw [List.take_of_length_le (Nat.le_refl _)] at hpo
    have hpi := pI_ins (q : Int) cl []
    rw [hpo] at hpi
    simp only [List.nil_append] at hpi
    refine x_exit (look_here ?_)
    refine hK8 _ _ ?_
    refine x_seq fun K16 hK16 => ?_
    refine x_seq fun K17 hK17 => ?_
    refine x_region ?_
    refine s_go (s_move) ?_
    try simp only [opv, n1, n2, n3, n4, Value.cells]
    refine s_go (s_not) ?_
    try simp only [opv, n1, n2, n3, n4, Value.cells]
    refine x_nil ?_
    refine hK17 _ _ ?_
    refine x_cond (ht := fun hc6 => ?_) (hf := fun hc6 => ?_)
    ·
     try simp only [decide_eq_true_eq, decide_eq_false_iff_not, Bool.not_eq_true', Bool.not_eq_false', Int.not_lt, Int.not_le, ne_eq, Decidable.not_not, bne_iff_ne, beq_iff_eq, not_true_eq_false, not_false_eq_true] at hc6
     obtain rfl : dn = false := by simpa using hc6
     refine x_region ?_
     first | refine s_go (m_fieldAddr Try.underlying67 (hi := ti65)) ?_ | refine s_go (m_fieldAddr_rd Try.underlying67 (hi := ti65) (hS := hS)) ?_ | refine s_go (m_fieldAddr_vec Try.underlying67 (hi := ti65) (hS := hS)) ?_
     try simp only [opv, n1, n2, n3, n4, Value.cells, Nat.zero_add, Nat.add_zero, List.getElem_toArray, List.getElem_cons_zero, List.getElem_cons_succ]
     refine s_go (m_load_obj Try.underlying65 (hS := hS) (hv := set_sl (by assumption) _)) ?_
     try simp only [opv, n1, n2, n3, n4, Value.cells, List.getElem_toArray, List.getElem_cons_zero, List.getElem_cons_succ]
     refine s_go (s_move) ?_
     try simp only [opv, n1, n2, n3, n4, Value.cells]
     refine m_buildRow (cells := #[_]) Try.underlying65 ti48 (hc := by simp only [List.map_toArray, List.map_cons, List.map_nil, opv, n1, n2, n3, n4, Value.cells, List.toList_toArray]; (repeat (refine fill_cons rfl rfl (Nat.le_of_ble_eq_true rfl) ?_)); rfl) (hS := hS) (h := fun w39 g39 hS => ?_)
     try simp only [opv, n1, n2, n3, n4, Value.cells, Array.toArray_toList] at hS ⊢
     replace hS := hS.obj_rd (sz := 1) (n := 1) rfl .head
     refine m_append Try.underlying65 ti48 (hS := hS) (news := [(q : Int)].map (Value.int .u64)) (h := fun w40 A40 C40 hS => ?_)
     try simp only [← List.map_append, ← List.map_drop, ← List.map_take, Nat.mul_one, Nat.zero_mul, Nat.sub_zero, List.drop_zero, List.nil_append, Nat.zero_add] at hS ⊢
     try simp only [opv, n1, n2, n3, n4, Value.cells, Array.toArray_toList] at hS ⊢
     first | refine s_go (m_fieldAddr Try.underlying67 (hi := ti65)) ?_ | refine s_go (m_fieldAddr_rd Try.underlying67 (hi := ti65) (hS := hS)) ?_ | refine s_go (m_fieldAddr_vec Try.underlying67 (hi := ti65) (hS := hS)) ?_
     try simp only [opv, n1, n2, n3, n4, Value.cells, Nat.zero_add, Nat.add_zero, List.getElem_toArray, List.getElem_cons_zero, List.getElem_cons_succ]
     refine m_store_obj ti65 (hS := hS) (hfit := by rw [setC_size (by assumption)]; omega) (hc := set_put16 (by assumption) _ _) (h := fun w41 hS => ?_)
     try simp only [opv, n1, n2, n3, n4, Value.cells, Array.toArray_toList] at hS ⊢
     refine x_nil ?_
     refine hK16 _ _ ?_
     refine x_seq fun K18 hK18 => ?_
     refine x_region ?_
     refine s_go (m_load_row Try.underlying67 (hi := ti67) (hS := hS) (hfit := by rw [setC_size (by assumption)])) ?_
     try simp only [opv, n1, n2, n3, n4, Value.cells, List.getElem_toArray, List.getElem_cons_zero, List.getElem_cons_succ]
     refine m_store_obj ti67 (hS := hS) (hv := setC_size (by assumption) _) (h1 := set_one _ _ _ _) (hfit := by rw [setC_size (by assumption)]; omega) (hc := set_whole (by assumption) (by assumption) _ _) (h := fun w42 hS => ?_)
     try simp only [opv, n1, n2, n3, n4, Value.cells, Array.toArray_toList] at hS ⊢
     refine x_nil ?_
     refine hK18 _ _ ?_
     refine x_ret ?_
     refine r_cell_agg rfl Try.underlying67 ti67 (hS := hS) (hfit := by rw [setC_size (by assumption)]) (hR := ?_)
     first
     | (rw [hpe]; exact ⟨_, _, rfl, uback_self hS.ext_of (hS.hasRd (by repeat (first | exact Has.head | apply Has.tail))) rfl⟩)
     | (rw [hpe, ← hpi, if_neg (by decide), show o.length + 1 = (o ++ [(q : Int)]).length by rw [List.length_append]; rfl]; rw [show o.length + 1 = (o ++ [(q : Int)]).length by rw [List.length_append]; rfl] at hS; exact ⟨_, _, rfl, uback_vec hS (by repeat (first | exact Has.head | apply Has.tail))⟩)
     | (rw [hpe, ← hpi, if_pos rfl]; exact ⟨_, _, rfl, uback_vec hS (by repeat (first | exact Has.head | apply Has.tail))⟩)
    ·
     try simp only [decide_eq_true_eq, decide_eq_false_iff_not, Bool.not_eq_true', Bool.not_eq_false', Int.not_lt, Int.not_le, ne_eq, Decidable.not_not, bne_iff_ne, beq_iff_eq, not_true_eq_false, not_false_eq_true] at hc6
     obtain rfl : dn = true := by simpa using hc6
     refine x_skip ?_
     refine hK16 _ _ ?_
     refine x_seq fun K19 hK19 => ?_
     refine x_region ?_
     refine s_go (m_load_row Try.underlying67 (hi := ti67) (hS := hS) (hfit := by rw [setC_size (by assumption)])) ?_
     try simp only [opv, n1, n2, n3, n4, Value.cells, List.getElem_toArray, List.getElem_cons_zero, List.getElem_cons_succ]
     refine m_store_obj ti67 (hS := hS) (hv := setC_size (by assumption) _) (h1 := set_one _ _ _ _) (hfit := by rw [setC_size (by assumption)]; omega) (hc := set_whole (by assumption) (by assumption) _ _) (h := fun w43 hS => ?_)
     try simp only [opv, n1, n2, n3, n4, Value.cells, Array.toArray_toList] at hS ⊢
     refine x_nil ?_
     refine hK19 _ _ ?_
     refine x_ret ?_
     refine r_cell_agg rfl Try.underlying67 ti67 (hS := hS) (hfit := by rw [setC_size (by assumption)]) (hR := ?_)
     first
     | (rw [hpe]; exact ⟨_, _, rfl, uback_self hS.ext_of (hS.hasRd (by repeat (first | exact Has.head | apply Has.tail))) rfl⟩)
     | (rw [hpe, ← hpi, if_neg (by decide), show o.length + 1 = (o ++ [(q : Int)]).length by rw [List.length_append]; rfl]; rw [show o.length + 1 = (o ++ [(q : Int)]).length by rw [List.length_append]; rfl] at hS; exact ⟨_, _, rfl, uback_vec hS (by repeat (first | exact Has.head | apply Has.tail))⟩)
     | (rw [hpe, ← hpi, if_pos rfl]; exact ⟨_, _, rfl, uback_vec hS (by repeat (first | exact Has.head | apply Has.tail))⟩)
theorem c_ref13settle (w0 : World) (x : List Int) (hx : VOk x) (A : Option Addr) (c : Nat) (cl : List Int) (hr : Rd w0 A 1 cl.length (List.map (Value.int .u64) cl)) (hu : U64s cl) (hn : cl.length ≤ 4000000000) (hP : PreS x cl)  :
    CallR Try.prog 77 #[.agg (SetC x (.slice A cl.length c))] w0 fun v w' => ∃ (D : Option Addr) (e : Nat), v = .agg (SetC (addS x cl).1 (.slice D (addS x cl).2.length e)) ∧ St NoB w0 w' [.vec D e 48 1 (addS x cl).2.length (List.map (Value.int .u64) (addS x cl).2)] := by
 have hS := St.rd1 (S := NoB) hr
 have hxl := hx.len
 have h0l : (List.replicate 16 (0 : Int)).length = 16 := rfl
 refine c_enter (l := [.agg (SetC x (.slice A cl.length c)), undef, undef, undef, undef, undef, undef, undef, undef, undef, undef, undef, undef, undef, undef, undef, undef, undef, undef, undef, undef, undef, undef, undef, undef, undef, undef, undef, undef, undef, undef, undef, undef, undef, undef, undef, undef, undef, undef, undef, undef, undef, undef, undef, undef, undef, undef, undef, undef, undef, undef, undef, undef, undef, undef, undef, undef, undef, undef, undef, undef, undef, undef, undef]) Try.func77 rfl (by simp only [Try.ntmps77, List.size_toArray, List.length_cons, List.length_nil, Nat.reduceAdd, Nat.reduceSub, Array.replicate_succ, Array.replicate_zero, List.push_toArray, List.append_toArray, List.nil_append, List.cons_append]) ?_
 refine x_seq fun K1 hK1 => ?_
 refine x_region ?_
 refine m_box hS (fun w1 g1 hS => ?_)
 try simp only [opv, n1, n2, n3, n4, Value.cells, Array.toArray_toList] at hS ⊢
 obtain ⟨gba, hgba⟩ : ∃ z, z = g1 := ⟨_, rfl⟩
 rw [← hgba] at hS ⊢
 refine m_alloc ti67 hS (fun w2 g2 hS => ?_)
 try simp only [opv, n1, n2, n3, n4, Value.cells, Array.toArray_toList] at hS ⊢
 replace hS : St NoB w0 w2 (.obj g2 (.cells (SetC (List.replicate 16 0) (.slice none 0 0)) 67 (0, 0)) :: _) := hS
 obtain ⟨gbr, hgbr⟩ : ∃ z, z = g2 := ⟨_, rfl⟩
 rw [← hgbr] at hS ⊢
 refine x_nil ?_
 refine hK1 _ _ ?_
 refine x_block ?_
 refine x_loop [3, 4, 5, 6, 7, 8, 9, 10, 11, 12, 13, 14, 15, 16, 17, 18, 19, 20, 21, 22, 23, 24, 25, 26, 27, 28, 29, 30, 31, 32, 33, 34, 35, 36, 37, 38, 39, 40, 41, 42, 43, 44, 45, 46, 47, 48, 49, 50, 51, 52, 53, 54, 55, 56, 57, 58, 59, 60, 61, 62, 63] (fun m f w => ∃ (x2 cl2 : List Int) (A2 : Option Addr) (ca : Nat), PreS x2 cl2 ∧ (∀ y, HasD x2 cl2 y ↔ HasD x cl y) ∧ cl2.length ≤ cl.length ∧ m = cl2.length ∧ St NoB w0 w [.obj gbr (.cells (SetC (List.replicate 16 0) (.slice none 0 0)) 67 (0, 0)), .obj gba (.cells (SetC x2 (.slice A2 cl2.length ca)) 67 (0, 0)), .rd A2 1 cl2.length (List.map (Value.int .u64) cl2)]) (cl.length) ?init1 (fun m1 f1 wl1 hI => ?_)
 case init1 =>
  try simp only [opv, n1, n2, n3, n4, Value.cells]
  exact ⟨x, cl, A, c, hP, (fun y => Iff.rfl), Nat.le_refl _, rfl, hS.sel (by repeat (first | exact Sel.nil | (refine Sel.cons (by repeat (first | exact Del.head | apply Del.tail)) ?_)))⟩
 obtain ⟨x2, cl2, A2, ca, hP2, hh2, hcl2, hm, hS⟩ := hI
 simp only [clob, List.foldl, n3, n4]
 have hx2 := hP2.vok
 have hx2l := hx2.len
 have hu2 := pre_u64 hP2
 refine x_block ?_
 refine x_seq fun K2 hK2 => ?_
 refine x_region ?_
 first | refine s_go (m_fieldAddr Try.underlying67 (hi := ti64)) ?_ | refine s_go (m_fieldAddr_rd Try.underlying67 (hi := ti64) (hS := hS)) ?_ | refine s_go (m_fieldAddr_vec Try.underlying67 (hi := ti64) (hS := hS)) ?_
 try simp only [opv, n1, n2, n3, n4, Value.cells, Nat.zero_add, Nat.add_zero, List.getElem_toArray, List.getElem_cons_zero, List.getElem_cons_succ]
 refine s_go (m_loada_obj Try.underlying64 (hi := ti64) (hS := hS) (hfit := by rw [setC_size (by assumption)]; decide)) ?_
 try simp only [opv, n1, n2, n3, n4, Value.cells, List.getElem_toArray, List.getElem_cons_zero, List.getElem_cons_succ]
 rw [set_flo (by assumption)]
 refine s_go (s_build_struct (cells := (SetC x2 (.slice none 0 0))) Try.underlying67 ti67 bp67 (hc := by simp only [List.map_toArray, List.map_cons, List.map_nil, opv, n1, n2, n3, n4, Value.cells, List.toList_toArray]; exact fill_set (by rfl) hx2l)) ?_
 try simp only [opv, n1, n2, n3, n4, Value.cells]
 refine m_alloc ti67 hS (fun w3 g3 hS => ?_)
 try simp only [opv, n1, n2, n3, n4, Value.cells, Array.toArray_toList] at hS ⊢
 replace hS : St NoB w0 w3 (.obj g3 (.cells (SetC (List.replicate 16 0) (.slice none 0 0)) 67 (0, 0)) :: _) := hS
 obtain ⟨gbo, hgbo⟩ : ∃ z, z = g3 := ⟨_, rfl⟩
 rw [← hgbo] at hS ⊢
 refine m_store_obj ti67 (hS := hS) (hv := setC_size (by assumption) _) (h1 := set_one _ _ _ _) (hfit := by rw [setC_size (by assumption)]; omega) (hc := set_whole (by assumption) (by assumption) _ _) (h := fun w4 hS => ?_)
 try simp only [opv, n1, n2, n3, n4, Value.cells, Array.toArray_toList] at hS ⊢
 refine x_nil ?_
 refine hK2 _ _ ?_
 refine x_seq fun K3 hK3 => ?_
 refine x_seq fun K4 hK4 => ?_
 refine x_region ?_
 refine s_go (s_assign) ?_
 try simp only [opv, n1, n2, n3, n4, Value.cells]
 refine x_nil ?_
 refine hK4 _ _ ?_
 refine x_block ?_
 refine x_loop [4, 5, 6, 7, 11, 12, 13, 14, 15, 16, 17, 18, 19, 20, 21, 22, 23, 24, 25, 26, 27, 28, 29, 30, 31, 32, 33, 34, 35, 36, 37, 38, 39, 40, 41, 42, 43, 44, 45, 46, 47, 48, 49, 50, 51, 52, 53, 54] (fun m f w => ∃ (k : Nat) (E : Option Addr) (ec : Nat), k ≤ cl2.length ∧ m = cl2.length - k ∧ f 4 = .int .i64 (k : Int) ∧ St NoB w0 w [.obj gbo (.cells (SetC ((cl2.take k).foldl setD (x2, [])).1 (.slice E ((cl2.take k).foldl setD (x2, [])).2.length ec)) 67 (0, 0)), .vec E ec 48 1 ((cl2.take k).foldl setD (x2, [])).2.length (List.map (Value.int .u64) ((cl2.take k).foldl setD (x2, [])).2), .obj gbr (.cells (SetC (List.replicate 16 0) (.slice none 0 0)) 67 (0, 0)), .obj gba (.cells (SetC x2 (.slice A2 cl2.length ca)) 67 (0, 0)), .rd A2 1 cl2.length (List.map (Value.int .u64) cl2)]) (cl2.length) ?init2 (fun m2 f2 wl2 hI => ?_)
 case init2 =>
  try simp only [opv, n1, n2, n3, n4, Value.cells]
  replace hS := hS.nil_vec 48 1
  exact ⟨0, none, 0, by omega, rfl, rfl, hS.sel (by repeat (first | exact Sel.nil | (refine Sel.cons (by repeat (first | exact Del.head | apply Del.tail)) ?_)))⟩
 obtain ⟨k, E, ec, hk, hmk, h4, hS⟩ := hI
 simp only [clob, List.foldl, n3, n4, h4]
 obtain ⟨p, hp⟩ : ∃ p, ((cl2.take k).foldl setD (x2, [])) = p := ⟨_, rfl⟩
 rw [hp] at hS
 have hpv : VOk p.1 := by rw [← hp]; exact setD_vok hx2 (fun d hd => hP2.may d (List.mem_of_mem_take hd))
 have hpl := hpv.len
 have hpn := set_len (cl2.take k) (x2, [])
 rw [hp, List.length_take] at hpn
 simp only [List.length_nil] at hpn
 refine x_seq fun K5 hK5 => ?_
 refine x_seq fun K6 hK6 => ?_
 refine x_region ?_
 refine s_go (s_move) ?_
 try simp only [opv, n1, n2, n3, n4, Value.cells]
 first | refine s_go (m_fieldAddr Try.underlying67 (hi := ti65)) ?_ | refine s_go (m_fieldAddr_rd Try.underlying67 (hi := ti65) (hS := hS)) ?_ | refine s_go (m_fieldAddr_vec Try.underlying67 (hi := ti65) (hS := hS)) ?_
 try simp only [opv, n1, n2, n3, n4, Value.cells, Nat.zero_add, Nat.add_zero, List.getElem_toArray, List.getElem_cons_zero, List.getElem_cons_succ]
 refine s_go (m_load_obj Try.underlying65 (hS := hS) (hv := set_sl (by assumption) _)) ?_
 try simp only [opv, n1, n2, n3, n4, Value.cells, List.getElem_toArray, List.getElem_cons_zero, List.getElem_cons_succ]
 refine s_go (s_len_sl Try.underlying65) ?_
 try simp only [opv, n1, n2, n3, n4, Value.cells]
 refine s_go (s_lss) ?_
 try simp only [opv, n1, n2, n3, n4, Value.cells]
 refine x_nil ?_
 refine hK6 _ _ ?_
 refine x_cond (ht := fun hc1 => ?_) (hf := fun hc1 => ?_)
 ·
  try simp only [decide_eq_true_eq, decide_eq_false_iff_not, Bool.not_eq_true', Bool.not_eq_false', Int.not_lt, Int.not_le, ne_eq, Decidable.not_not, bne_iff_ne, beq_iff_eq, not_true_eq_false, not_false_eq_true] at hc1
  have hmd := hP2.may _ (getD_mem' (l := cl2) (k := k) (d := 0) (by omega))
  have hxr := may_u64 hmd
  obtain ⟨q, hq⟩ : ∃ q : Nat, cl2.getD k 0 = (q : Int) := ⟨(cl2.getD k 0).toNat, by omega⟩
  have hft := foldl_take (f := setD) (a := (x2, ([] : List Int))) (l := cl2) (k := k) (by omega)
  rw [hq] at hmd hxr hft
  rw [hp] at hft
  obtain ⟨r, hr0⟩ : ∃ r, r = q / 4294967296 := ⟨_, rfl⟩
  obtain ⟨s, hs0⟩ : ∃ s, s = q % 4294967296 := ⟨_, rfl⟩
  have hdn := may_nat.1 hmd
  rw [← hr0, ← hs0] at hdn
  have hqs : (q : Int) % 4294967296 = (s : Int) := by omega
  have hfq : flo p.1 (q : Int) = p.1.getD r 0 := by rw [flo, dR_nat, hr0]
  have hdr : dR (q : Int) = r := by rw [dR_nat, hr0]
  have hpr := hpv.nat r
  refine x_skip ?_
  refine hK5 _ _ ?_
  refine x_seq fun K7 hK7 => ?_
  refine x_block ?_
  refine x_seq fun K8 hK8 => ?_
  refine x_region ?_
  first | refine s_go (m_fieldAddr Try.underlying67 (hi := ti65)) ?_ | refine s_go (m_fieldAddr_rd Try.underlying67 (hi := ti65) (hS := hS)) ?_ | refine s_go (m_fieldAddr_vec Try.underlying67 (hi := ti65) (hS := hS)) ?_
  try simp only [opv, n1, n2, n3, n4, Value.cells, Nat.zero_add, Nat.add_zero, List.getElem_toArray, List.getElem_cons_zero, List.getElem_cons_succ]
  refine s_go (m_load_obj Try.underlying65 (hS := hS) (hv := set_sl (by assumption) _)) ?_
  try simp only [opv, n1, n2, n3, n4, Value.cells, List.getElem_toArray, List.getElem_cons_zero, List.getElem_cons_succ]
  refine s_go (s_move) ?_
  try simp only [opv, n1, n2, n3, n4, Value.cells]
  first | refine s_go (m_indexAddr_rd Try.underlying65 ti48 (hS := hS)) ?_ | refine s_go (m_indexAddr_vec Try.underlying65 ti48 (hS := hS)) ?_
  try simp only [opv, n1, n2, n3, n4, Value.cells, Nat.mul_one, Nat.zero_add, Int.toNat_natCast, Int.reduceToNat]
  first | refine s_go (m_load_obj Try.underlying48 (hS := hS)) ?_ | refine s_go (m_load_bx Try.underlying48 (hS := hS)) ?_ | refine s_go (m_load_rd Try.underlying48 (hS := hS)) ?_ | refine s_go (m_load_vec Try.underlying48 (hS := hS)) ?_
  try simp only [opv, n1, n2, n3, n4, Value.cells, List.getElem_toArray, List.getElem_cons_zero, List.getElem_cons_succ]
  rw [hq]
  refine s_go (s_assign) ?_
  try simp only [opv, n1, n2, n3, n4, Value.cells]
  refine x_nil ?_
  refine hK8 _ _ ?_
  refine x_seq fun K9 hK9 => ?_
  refine x_region ?_
  refine s_go (s_move) ?_
  try simp only [opv, n1, n2, n3, n4, Value.cells]
  refine s_go (s_quo (hc := quo_u64 (p := 4294967296) (by omega))) ?_
  try simp only [opv, n1, n2, n3, n4, Value.cells]
  rw [← hr0]
  refine s_go (s_move) ?_
  try simp only [opv, n1, n2, n3, n4, Value.cells]
  refine s_go (s_rem (hc := rem_nat (p := 4294967296))) ?_
  try simp only [opv, n1, n2, n3, n4, Value.cells]
  rw [← hs0]
  refine s_go (s_assign) ?_
  try simp only [opv, n1, n2, n3, n4, Value.cells]
  refine s_go (s_assign) ?_
  try simp only [opv, n1, n2, n3, n4, Value.cells]
  refine x_nil ?_
  refine hK9 _ _ ?_
  refine x_block ?_
  refine x_seq fun K10 hK10 => ?_
  refine x_region ?_
  refine s_go (s_move) ?_
  try simp only [opv, n1, n2, n3, n4, Value.cells]
  refine s_go (s_move) ?_
  try simp only [opv, n1, n2, n3, n4, Value.cells]
  first | refine s_go (m_fieldAddr Try.underlying67 (hi := ti64)) ?_ | refine s_go (m_fieldAddr_rd Try.underlying67 (hi := ti64) (hS := hS)) ?_ | refine s_go (m_fieldAddr_vec Try.underlying67 (hi := ti64) (hS := hS)) ?_
  try simp only [opv, n1, n2, n3, n4, Value.cells, Nat.zero_add, Nat.add_zero, List.getElem_toArray, List.getElem_cons_zero, List.getElem_cons_succ]
  refine s_go (m_indexAddr_arr Try.underlying64 ti29) ?_
  try simp only [opv, n1, n2, n3, n4, Value.cells, Nat.mul_one, Nat.zero_add, Int.toNat_natCast, Int.reduceToNat]
  refine s_go (m_load_obj Try.underlying29 (hS := hS) (hv := set_at hpl _ (by omega))) ?_
  try simp only [opv, n1, n2, n3, n4, Value.cells, List.getElem_toArray, List.getElem_cons_zero, List.getElem_cons_succ]
  refine s_go (s_conv Try.underlying29 Try.underlying48 (hc := wr_u64 (by omega) (by omega))) ?_
  try simp only [opv, n1, n2, n3, n4, Value.cells]
  refine s_go (s_leq) ?_
  try simp only [opv, n1, n2, n3, n4, Value.cells]
  refine s_go (s_assign) ?_
  try simp only [opv, n1, n2, n3, n4, Value.cells]
  refine x_nil ?_
  refine hK10 _ _ ?_
  refine x_cond (ht := fun hc2 => ?_) (hf := fun hc2 => ?_)
  ·
   try simp only [decide_eq_true_eq, decide_eq_false_iff_not, Bool.not_eq_true', Bool.not_eq_false', Int.not_lt, Int.not_le, ne_eq, Decidable.not_not, bne_iff_ne, beq_iff_eq, not_true_eq_false, not_false_eq_true] at hc2
   have hst := hft.trans (if_pos (by rw [hqs, hfq]; exact hc2))
   refine x_skip ?_
   refine hK7 _ _ ?_
   refine x_region ?_
   refine s_go (s_move) ?_
   try simp only [opv, n1, n2, n3, n4, Value.cells]
   refine s_go (s_add (hc := by first | exact wr_i64 (by omega) (by omega) | rfl)) ?_
   try simp only [opv, n1, n2, n3, n4, Value.cells]
   refine s_go (s_assign) ?_
   try simp only [opv, n1, n2, n3, n4, Value.cells]
   refine x_nil ?_
   refine loop_back (m' := cl2.length - (k + 1)) (by simp only [clob, List.foldl, n1, n2, n3, n4]) ?_ ?_
   · try simp only [opv, n1, n2, n3, n4, Value.cells]
     first
     | exact ⟨k + 1, _, _, by omega, by omega, by rfl, by rw [hst]; exact hS.sel (by repeat (first | exact Sel.nil | (refine Sel.cons (by repeat (first | exact Del.head | apply Del.tail)) ?_)))⟩
     | exact ⟨k + 1, _, _, by omega, by omega, by rfl, by rw [hst]; simp only [List.length_append, List.length_cons, List.length_nil, Nat.zero_add]; exact hS.sel (by repeat (first | exact Sel.nil | (refine Sel.cons (by repeat (first | exact Del.head | apply Del.tail)) ?_)))⟩
   · omega
  ·
   try simp only [decide_eq_true_eq, decide_eq_false_iff_not, Bool.not_eq_true', Bool.not_eq_false', Int.not_lt, Int.not_le, ne_eq, Decidable.not_not, bne_iff_ne, beq_iff_eq, not_true_eq_false, not_false_eq_true] at hc2
   refine x_seq fun K11 hK11 => ?_
   refine x_region ?_
   refine s_go (s_move) ?_
   try simp only [opv, n1, n2, n3, n4, Value.cells]
   refine s_go (s_move) ?_
   try simp only [opv, n1, n2, n3, n4, Value.cells]
   first | refine s_go (m_fieldAddr Try.underlying67 (hi := ti64)) ?_ | refine s_go (m_fieldAddr_rd Try.underlying67 (hi := ti64) (hS := hS)) ?_ | refine s_go (m_fieldAddr_vec Try.underlying67 (hi := ti64) (hS := hS)) ?_
   try simp only [opv, n1, n2, n3, n4, Value.cells, Nat.zero_add, Nat.add_zero, List.getElem_toArray, List.getElem_cons_zero, List.getElem_cons_succ]
   refine s_go (m_indexAddr_arr Try.underlying64 ti29) ?_
   try simp only [opv, n1, n2, n3, n4, Value.cells, Nat.mul_one, Nat.zero_add, Int.toNat_natCast, Int.reduceToNat]
   refine s_go (m_load_obj Try.underlying29 (hS := hS) (hv := set_at hpl _ (by omega))) ?_
   try simp only [opv, n1, n2, n3, n4, Value.cells, List.getElem_toArray, List.getElem_cons_zero, List.getElem_cons_succ]
   refine s_go (s_conv Try.underlying29 Try.underlying48 (hc := wr_u64 (by omega) (by omega))) ?_
   try simp only [opv, n1, n2, n3, n4, Value.cells]
   refine s_go (s_add (hc := wr_u64 (by omega) (by omega))) ?_
   try simp only [opv, n1, n2, n3, n4, Value.cells]
   refine s_go (s_eql) ?_
   try simp only [opv, n1, n2, n3, n4, Value.cells]
   refine s_go (s_assign) ?_
   try simp only [opv, n1, n2, n3, n4, Value.cells]
   refine x_nil ?_
   refine hK11 _ _ ?_
   refine x_cond (ht := fun hc3 => ?_) (hf := fun hc3 => ?_)
   ·
    try simp only [decide_eq_true_eq, decide_eq_false_iff_not, Bool.not_eq_true', Bool.not_eq_false', Int.not_lt, Int.not_le, ne_eq, Decidable.not_not, bne_iff_ne, beq_iff_eq, not_true_eq_false, not_false_eq_true] at hc3
    have hst := hft.trans ((if_neg (by rw [hqs, hfq]; omega)).trans (if_pos (by rw [hqs, hfq]; exact hc3)))
    rw [hqs, hdr] at hst
    refine x_region ?_
    refine s_go (s_move) ?_
    try simp only [opv, n1, n2, n3, n4, Value.cells]
    refine s_go (s_move) ?_
    try simp only [opv, n1, n2, n3, n4, Value.cells]
    refine s_go (s_conv Try.underlying48 Try.underlying29 (hc := cv_u32 (Nat.mod_eq_of_lt (by omega)))) ?_
    try simp only [opv, n1, n2, n3, n4, Value.cells]
    first | refine s_go (m_fieldAddr Try.underlying67 (hi := ti64)) ?_ | refine s_go (m_fieldAddr_rd Try.underlying67 (hi := ti64) (hS := hS)) ?_ | refine s_go (m_fieldAddr_vec Try.underlying67 (hi := ti64) (hS := hS)) ?_
    try simp only [opv, n1, n2, n3, n4, Value.cells, Nat.zero_add, Nat.add_zero, List.getElem_toArray, List.getElem_cons_zero, List.getElem_cons_succ]
    refine s_go (m_indexAddr_arr Try.underlying64 ti29) ?_
    try simp only [opv, n1, n2, n3, n4, Value.cells, Nat.mul_one, Nat.zero_add, Int.toNat_natCast, Int.reduceToNat]
    refine m_store_obj ti29 (hS := hS) (hfit := by rw [setC_size (by assumption)]; omega) (hc := set_put hpl _ (by omega) _) (h := fun w5 hS => ?_)
    try simp only [opv, n1, n2, n3, n4, Value.cells, Array.toArray_toList] at hS ⊢
    refine x_nil ?_
    refine hK7 _ _ ?_
    refine x_region ?_
    refine s_go (s_move) ?_
    try simp only [opv, n1, n2, n3, n4, Value.cells]
    refine s_go (s_add (hc := by first | exact wr_i64 (by omega) (by omega) | rfl)) ?_
    try simp only [opv, n1, n2, n3, n4, Value.cells]
    refine s_go (s_assign) ?_
    try simp only [opv, n1, n2, n3, n4, Value.cells]
    refine x_nil ?_
    refine loop_back (m' := cl2.length - (k + 1)) (by simp only [clob, List.foldl, n1, n2, n3, n4]) ?_ ?_
    · try simp only [opv, n1, n2, n3, n4, Value.cells]
      first
      | exact ⟨k + 1, _, _, by omega, by omega, by rfl, by rw [hst]; exact hS.sel (by repeat (first | exact Sel.nil | (refine Sel.cons (by repeat (first | exact Del.head | apply Del.tail)) ?_)))⟩
      | exact ⟨k + 1, _, _, by omega, by omega, by rfl, by rw [hst]; simp only [List.length_append, List.length_cons, List.length_nil, Nat.zero_add]; exact hS.sel (by repeat (first | exact Sel.nil | (refine Sel.cons (by repeat (first | exact Del.head | apply Del.tail)) ?_)))⟩
    · omega
   ·
    try simp only [decide_eq_true_eq, decide_eq_false_iff_not, Bool.not_eq_true', Bool.not_eq_false', Int.not_lt, Int.not_le, ne_eq, Decidable.not_not, bne_iff_ne, beq_iff_eq, not_true_eq_false, not_false_eq_true] at hc3
    have hst := hft.trans ((if_neg (by rw [hqs, hfq]; omega)).trans (if_neg (by rw [hqs, hfq]; exact hc3)))
    refine x_region ?_
    first | refine s_go (m_fieldAddr Try.underlying67 (hi := ti65)) ?_ | refine s_go (m_fieldAddr_rd Try.underlying67 (hi := ti65) (hS := hS)) ?_ | refine s_go (m_fieldAddr_vec Try.underlying67 (hi := ti65) (hS := hS)) ?_
    try simp only [opv, n1, n2, n3, n4, Value.cells, Nat.zero_add, Nat.add_zero, List.getElem_toArray, List.getElem_cons_zero, List.getElem_cons_succ]
    refine s_go (m_load_obj Try.underlying65 (hS := hS) (hv := set_sl (by assumption) _)) ?_
    try simp only [opv, n1, n2, n3, n4, Value.cells, List.getElem_toArray, List.getElem_cons_zero, List.getElem_cons_succ]
    refine s_go (s_move) ?_
    try simp only [opv, n1, n2, n3, n4, Value.cells]
    refine m_buildRow (cells := #[_]) Try.underlying65 ti48 (hc := by simp only [List.map_toArray, List.map_cons, List.map_nil, opv, n1, n2, n3, n4, Value.cells, List.toList_toArray]; (repeat (refine fill_cons rfl rfl (Nat.le_of_ble_eq_true rfl) ?_)); rfl) (hS := hS) (h := fun w6 g6 hS => ?_)
    try simp only [opv, n1, n2, n3, n4, Value.cells, Array.toArray_toList] at hS ⊢
    replace hS := hS.obj_rd (sz := 1) (n := 1) rfl .head
    refine m_append Try.underlying65 ti48 (hS := hS) (news := [(q : Int)].map (Value.int .u64)) (h := fun w7 A7 C7 hS => ?_)
    try simp only [← List.map_append, ← List.map_drop, ← List.map_take, Nat.mul_one, Nat.zero_mul, Nat.sub_zero, List.drop_zero, List.nil_append, Nat.zero_add] at hS ⊢
    try simp only [opv, n1, n2, n3, n4, Value.cells, Array.toArray_toList] at hS ⊢
    first | refine s_go (m_fieldAddr Try.underlying67 (hi := ti65)) ?_ | refine s_go (m_fieldAddr_rd Try.underlying67 (hi := ti65) (hS := hS)) ?_ | refine s_go (m_fieldAddr_vec Try.underlying67 (hi := ti65) (hS := hS)) ?_
    try simp only [opv, n1, n2, n3, n4, Value.cells, Nat.zero_add, Nat.add_zero, List.getElem_toArray, List.getElem_cons_zero, List.getElem_cons_succ]
    refine m_store_obj ti65 (hS := hS) (hfit := by rw [setC_size (by assumption)]; omega) (hc := set_put16 (by assumption) _ _) (h := fun w8 hS => ?_)
    try simp only [opv, n1, n2, n3, n4, Value.cells, Array.toArray_toList] at hS ⊢
    refine x_nil ?_
    refine hK7 _ _ ?_
    refine x_region ?_
    refine s_go (s_move) ?_
    try simp only [opv, n1, n2, n3, n4, Value.cells]
    refine s_go (s_add (hc := by first | exact wr_i64 (by omega) (by omega) | rfl)) ?_
    try simp only [opv, n1, n2, n3, n4, Value.cells]
    refine s_go (s_assign) ?_
    try simp only [opv, n1, n2, n3, n4, Value.cells]
    refine x_nil ?_
    refine loop_back (m' := cl2.length - (k + 1)) (by simp only [clob, List.foldl, n1, n2, n3, n4]) ?_ ?_
    · try simp only [opv, n1, n2, n3, n4, Value.cells]
      first
      | exact ⟨k + 1, _, _, by omega, by omega, by rfl, by rw [hst]; exact hS.sel (by repeat (first | exact Sel.nil | (refine Sel.cons (by repeat (first | exact Del.head | apply Del.tail)) ?_)))⟩
      | exact ⟨k + 1, _, _, by omega, by omega, by rfl, by rw [hst]; simp only [List.length_append, List.length_cons, List.length_nil, Nat.zero_add]; exact hS.sel (by repeat (first | exact Sel.nil | (refine Sel.cons (by repeat (first | exact Del.head | apply Del.tail)) ?_)))⟩
    · omega
 ·
  try simp only [decide_eq_true_eq, decide_eq_false_iff_not, Bool.not_eq_true', Bool.not_eq_false', Int.not_lt, Int.not_le, ne_eq, Decidable.not_not, bne_iff_ne, beq_iff_eq, not_true_eq_false, not_false_eq_true] at hc1
  obtain rfl : k = cl2.length := by omega
  rw [List.take_of_length_le (Nat.le_refl _)] at hp
  have hsp := set_pre (l := cl2) (v := x2) (o := []) (by rw [List.nil_append]; exact hP2)
  rw [hp, List.nil_append] at hsp
  refine x_exit (look_here ?_)
  refine hK3 _ _ ?_
  refine x_seq fun K12 hK12 => ?_
  refine x_seq fun K13 hK13 => ?_
  refine x_region ?_
  first | refine s_go (m_fieldAddr Try.underlying67 (hi := ti65)) ?_ | refine s_go (m_fieldAddr_rd Try.underlying67 (hi := ti65) (hS := hS)) ?_ | refine s_go (m_fieldAddr_vec Try.underlying67 (hi := ti65) (hS := hS)) ?_
  try simp only [opv, n1, n2, n3, n4, Value.cells, Nat.zero_add, Nat.add_zero, List.getElem_toArray, List.getElem_cons_zero, List.getElem_cons_succ]
  refine s_go (m_load_obj Try.underlying65 (hS := hS) (hv := set_sl (by assumption) _)) ?_
  try simp only [opv, n1, n2, n3, n4, Value.cells, List.getElem_toArray, List.getElem_cons_zero, List.getElem_cons_succ]
  refine s_go (s_len_sl Try.underlying65) ?_
  try simp only [opv, n1, n2, n3, n4, Value.cells]
  first | refine s_go (m_fieldAddr Try.underlying67 (hi := ti65)) ?_ | refine s_go (m_fieldAddr_rd Try.underlying67 (hi := ti65) (hS := hS)) ?_ | refine s_go (m_fieldAddr_vec Try.underlying67 (hi := ti65) (hS := hS)) ?_
  try simp only [opv, n1, n2, n3, n4, Value.cells, Nat.zero_add, Nat.add_zero, List.getElem_toArray, List.getElem_cons_zero, List.getElem_cons_succ]
  refine s_go (m_load_obj Try.underlying65 (hS := hS) (hv := set_sl (by assumption) _)) ?_
  try simp only [opv, n1, n2, n3, n4, Value.cells, List.getElem_toArray, List.getElem_cons_zero, List.getElem_cons_succ]
  refine s_go (s_len_sl Try.underlying65) ?_
  try simp only [opv, n1, n2, n3, n4, Value.cells]
  refine s_go (s_eql) ?_
  try simp only [opv, n1, n2, n3, n4, Value.cells]
  refine x_nil ?_
  refine hK13 _ _ ?_
  refine x_cond (ht := fun hc4 => ?_) (hf := fun hc4 => ?_)
  ·
   try simp only [decide_eq_true_eq, decide_eq_false_iff_not, Bool.not_eq_true', Bool.not_eq_false', Int.not_lt, Int.not_le, ne_eq, Decidable.not_not, bne_iff_ne, beq_iff_eq, not_true_eq_false, not_false_eq_true] at hc4
   have hend := settle_end hx hP2 hh2 (by rw [hp]; omega)
   rw [hp] at hend
   refine x_seq fun K14 hK14 => ?_
   refine x_region ?_
   refine s_go (m_load_row Try.underlying67 (hi := ti67) (hS := hS) (hfit := by rw [setC_size (by assumption)])) ?_
   try simp only [opv, n1, n2, n3, n4, Value.cells, List.getElem_toArray, List.getElem_cons_zero, List.getElem_cons_succ]
   refine m_store_obj ti67 (hS := hS) (hv := setC_size (by assumption) _) (h1 := set_one _ _ _ _) (hfit := by rw [setC_size (by assumption)]; omega) (hc := set_whole (by assumption) (by assumption) _ _) (h := fun w9 hS => ?_)
   try simp only [opv, n1, n2, n3, n4, Value.cells, Array.toArray_toList] at hS ⊢
   refine x_nil ?_
   refine hK14 _ _ ?_
   refine x_ret ?_
   refine r_cell_agg rfl Try.underlying67 ti67 (hS := hS) (hfit := by rw [setC_size (by assumption)]) (hR := ?_)
   rw [← hend]
   exact ⟨_, _, rfl, hS.sel (by repeat (first | exact Sel.nil | (refine Sel.cons (by repeat (first | exact Del.head | apply Del.tail)) ?_)))⟩
  ·
   try simp only [decide_eq_true_eq, decide_eq_false_iff_not, Bool.not_eq_true', Bool.not_eq_false', Int.not_lt, Int.not_le, ne_eq, Decidable.not_not, bne_iff_ne, beq_iff_eq, not_true_eq_false, not_false_eq_true] at hc4
   have hnl : ¬ p.2.length = cl2.length := by omega
   refine x_skip ?_
   refine hK12 _ _ ?_
   refine x_region ?_
   refine s_go (m_load_row Try.underlying67 (hi := ti67) (hS := hS) (hfit := by rw [setC_size (by assumption)])) ?_
   try simp only [opv, n1, n2, n3, n4, Value.cells, List.getElem_toArray, List.getElem_cons_zero, List.getElem_cons_succ]
   refine m_store_obj ti67 (hS := hS) (hv := setC_size (by assumption) _) (h1 := set_one _ _ _ _) (hfit := by rw [setC_size (by assumption)]; omega) (hc := set_whole (by assumption) (by assumption) _ _) (h := fun w10 hS => ?_)
   try simp only [opv, n1, n2, n3, n4, Value.cells, Array.toArray_toList] at hS ⊢
   refine x_nil ?_
   refine loop_back (m' := p.2.length) (by simp only [clob, List.foldl, n1, n2, n3, n4]) ?_ ?_
   · try simp only [opv, n1, n2, n3, n4, Value.cells]
     exact ⟨_, _, _, _, hsp.1, (fun y => (hsp.2 y).trans (hh2 y)), by omega, rfl, (hS.vec_rd (by repeat (first | exact Upd.head | apply Upd.tail))).sel (by repeat (first | exact Sel.nil | (refine Sel.cons (by repeat (first | exact Del.head | apply Del.tail)) ?_)))⟩
   · omega
end Go.Proofs.Ytffmanidnlbjjaa
set_option linter.unusedSimpArgs false
set_option linter.unusedVariables false
set_option maxHeartbeats 800000
set_option maxRecDepth 100000
namespace Go.Proofs.Ytffmanidnlbjjaa
open Go.RowKit
/-- a row that is turned, number by number, up to place k -/
def mixv (op : Int → Int → Int) (a b : List Int) (k : Nat) : List Int := List.zipWith op (a.take k) (b.take k) ++ a.drop k
section
variable {op : Int → Int → Int} {a b : List Int} {k : Nat}
theorem mixv_len (h : b.length = a.length) : (mixv op a b k).length = a.length := by simp [mixv, h]; omega
theorem set_getD0 (l : List Int) (d : Nat) : l.set d (l.getD d 0) = l := by
  by_cases h : d < l.length
  · rw [List.getD_eq_getElem?_getD, List.getElem?_eq_getElem h]; simp
  · rw [List.set_eq_of_length_le (by omega)]
theorem mixv_zero : mixv op a b 0 = a := by simp [mixv]
theorem mixv_all (h : b.length = a.length) : mixv op a b a.length = List.zipWith op a b := by
  have e : b.take a.length = b := by rw [← h, List.take_length]
  simp [mixv, e]
theorem mixv_get (h : b.length = a.length) (hk : k < a.length) : (mixv op a b k).getD k 0 = a.getD k 0 := by
  have hl : (List.zipWith op (a.take k) (b.take k)).length = k := by simp [h]; omega
  simp only [mixv, List.getD_eq_getElem?_getD]
  rw [List.getElem?_append_right (by omega), hl, Nat.sub_self, List.getElem?_drop]; simp
theorem mixv_set (h : b.length = a.length) (hk : k < a.length) : (mixv op a b k).set k (op (a.getD k 0) (b.getD k 0)) = mixv op a b (k + 1) := by
  have hl : (List.zipWith op (a.take k) (b.take k)).length = k := by simp [h]; omega
  simp only [mixv]
  rw [List.set_append_right _ _ (by omega), hl, Nat.sub_self, List.drop_eq_getElem_cons hk, List.set_cons_zero]
  have hk' : k < b.length := by omega
  rw [List.take_succ_eq_append_getElem hk, List.take_succ_eq_append_getElem hk', List.zipWith_append (by simp [h])]
  simp [List.getD_eq_getElem?_getD, List.getElem?_eq_getElem hk, List.getElem?_eq_getElem hk']
end

theorem c_vecJoin1 (x y : Int) (w0 : World) :
    CallR Try.prog 109 #[.int .u32 x, .int .u32 y] w0 fun v w' => v = .int .u32 (max x y) ∧ w0 = w' := by
 have hS : St NoB w0 w0 [] := St.start w0
 refine c_enter (l := [.int .u32 x, .int .u32 y, undef, undef, undef, undef, undef, undef]) Try.func109 rfl (by simp only [Try.ntmps109, List.size_toArray, List.length_cons, List.length_nil, Nat.reduceAdd, Nat.reduceSub, Array.replicate_succ, Array.replicate_zero, List.push_toArray, List.append_toArray, List.nil_append, List.cons_append]) ?_
 refine x_seq fun K1 hK1 => ?_
 refine x_region ?_
 refine s_go (s_assign) ?_
 try simp only [opv, n1, n2, n3, n4, Value.cells]
 refine x_nil ?_
 refine hK1 _ _ ?_
 refine x_seq fun K2 hK2 => ?_
 refine x_region ?_
 refine s_go (s_move) ?_
 try simp only [opv, n1, n2, n3, n4, Value.cells]
 refine s_go (s_move) ?_
 try simp only [opv, n1, n2, n3, n4, Value.cells]
 refine s_go (s_max) ?_
 try simp only [opv, n1, n2, n3, n4, Value.cells]
 refine s_go (s_assign) ?_
 try simp only [opv, n1, n2, n3, n4, Value.cells]
 refine x_nil ?_
 refine hK2 _ _ ?_
 refine x_ret ?_
 refine r_tmp rfl ?_
 exact ⟨rfl, rfl⟩
theorem c_vecBothJoin (a b : List Int) (ha : a.length = 16) (hb : b.length = 16) (w0 : World) :
    CallR Try.prog 108 #[.agg (ic .u32 a), .agg (ic .u32 b), .func (.func 109) #[] #[]] w0 fun v w' => v = .agg (ic .u32 (List.zipWith max a b)) ∧ Ext w0 w' := by
 have hS : St NoB w0 w0 [] := St.start w0
 refine c_enter (l := [.agg (ic .u32 a), .agg (ic .u32 b), .func (.func 109) #[] #[], undef, undef, undef, undef, undef, undef, undef, undef, undef, undef, undef, undef, undef, undef, undef, undef, undef, undef, undef, undef, undef]) Try.func108 rfl (by simp only [Try.ntmps108, List.size_toArray, List.length_cons, List.length_nil, Nat.reduceAdd, Nat.reduceSub, Array.replicate_succ, Array.replicate_zero, List.push_toArray, List.append_toArray, List.nil_append, List.cons_append]) ?_
 refine x_seq fun K1 hK1 => ?_
 refine x_region ?_
 refine m_box hS (fun w1 g1 hS => ?_)
 try simp only [opv, n1, n2, n3, n4, Value.cells, Array.toArray_toList] at hS ⊢
 refine m_box hS (fun w2 g2 hS => ?_)
 try simp only [opv, n1, n2, n3, n4, Value.cells, Array.toArray_toList] at hS ⊢
 refine m_alloc ti70 hS (fun w3 g3 hS => ?_)
 try simp only [opv, n1, n2, n3, n4, Value.cells, Array.toArray_toList] at hS ⊢
 refine x_nil ?_
 refine hK1 _ _ ?_
 refine x_seq fun K2 hK2 => ?_
 refine x_seq fun K3 hK3 => ?_
 refine x_region ?_
 refine s_go (m_load_row Try.underlying70 (hi := ti70) (hS := hS)) ?_
 try simp only [opv, n1, n2, n3, n4, Value.cells, List.getElem_toArray, List.getElem_cons_zero, List.getElem_cons_succ]
 refine s_go (s_move) ?_
 try simp only [opv, n1, n2, n3, n4, Value.cells]
 refine x_nil ?_
 refine hK3 _ _ ?_
 refine x_block ?_
 refine x_loop [7, 8, 10, 11, 12, 13, 14, 15, 16, 17, 18, 19, 20, 21, 22] (fun m f w => ∃ k : Nat, k ≤ 16 ∧ m = 16 - k ∧ f 10 = .int .i64 (k : Int) ∧ St NoB w0 w [.obj g3 (.cells (ic .u32 (List.replicate 16 0)) 70 (0, 0)), .obj g2 (.cells (ic .u32 b) 70 (0, 0)), .obj g1 (.cells (ic .u32 (mixv max a b k)) 70 (0, 0))]) (16) ?init1 (fun m1 f1 wl1 hI => ?_)
 case init1 =>
  try simp only [opv, n1, n2, n3, n4, Value.cells]
  exact ⟨0, by omega, rfl, rfl, by rw [mixv_zero]; exact hS⟩
 obtain ⟨k, hk, hm, h10, hS⟩ := hI
 simp only [clob, List.foldl, n3, n4, h10]
 have hml : (mixv max a b k).length = 16 := by rw [mixv_len (by omega), ha]
 refine x_seq fun K4 hK4 => ?_
 refine x_region ?_
 refine s_go (s_lss) ?_
 try simp only [opv, n1, n2, n3, n4, Value.cells]
 refine x_nil ?_
 refine hK4 _ _ ?_
 refine x_seq fun K5 hK5 => ?_
 refine x_cond (ht := fun hc1 => ?_) (hf := fun hc1 => ?_)
 ·
  try simp only [decide_eq_true_eq, decide_eq_false_iff_not, Bool.not_eq_true', Bool.not_eq_false', Int.not_lt, Int.not_le, ne_eq, Decidable.not_not, bne_iff_ne, beq_iff_eq, not_true_eq_false, not_false_eq_true] at hc1
  refine x_skip ?_
  refine hK5 _ _ ?_
  refine x_seq fun K6 hK6 => ?_
  refine x_block ?_
  refine x_seq fun K7 hK7 => ?_
  refine x_region ?_
  refine s_go (s_move) ?_
  try simp only [opv, n1, n2, n3, n4, Value.cells]
  refine s_go (s_index_one Try.underlying70 ti29 Try.underlying29) ?_
  try simp only [opv, n1, n2, n3, n4, Value.cells, Nat.mul_one, Nat.zero_add, Int.toNat_natCast, Int.reduceToNat]
  refine s_go (s_assign) ?_
  try simp only [opv, n1, n2, n3, n4, Value.cells]
  refine s_go (s_assign) ?_
  try simp only [opv, n1, n2, n3, n4, Value.cells]
  refine x_nil ?_
  refine hK7 _ _ ?_
  refine x_region ?_
  refine s_go (s_move) ?_
  try simp only [opv, n1, n2, n3, n4, Value.cells]
  refine s_go (s_move) ?_
  try simp only [opv, n1, n2, n3, n4, Value.cells]
  refine s_go (s_move) ?_
  try simp only [opv, n1, n2, n3, n4, Value.cells]
  refine s_go (m_indexAddr_arr Try.underlying70 ti29) ?_
  try simp only [opv, n1, n2, n3, n4, Value.cells, Nat.mul_one, Nat.zero_add, Int.toNat_natCast, Int.reduceToNat]
  refine s_go (m_load_obj Try.underlying29 (hS := hS)) ?_
  try simp only [opv, n1, n2, n3, n4, Value.cells, List.getElem_toArray, List.getElem_cons_zero, List.getElem_cons_succ]
  refine s_go (s_move) ?_
  try simp only [opv, n1, n2, n3, n4, Value.cells]
  refine s_callv (hv := rfl) en109 ?_
  try simp only [opv, n1, n2, n3, n4, Value.cells, List.map_toArray, List.map_cons, List.map_nil, List.append_toArray, List.cons_append, List.nil_append, Array.append_empty]
  refine CallR.mono (c_vecJoin1 _ _ _) ?_
  rintro _ _ ⟨rfl, rfl⟩
  try simp only [opv, n1, n2, n3, n4, Value.cells]
  refine s_go (m_indexAddr_arr Try.underlying70 ti29) ?_
  try simp only [opv, n1, n2, n3, n4, Value.cells, Nat.mul_one, Nat.zero_add, Int.toNat_natCast, Int.reduceToNat]
  refine m_store_obj ti29 (hS := hS) (h := fun w5 hS => ?_)
  try simp only [opv, n1, n2, n3, n4, Value.cells, Array.toArray_toList] at hS ⊢
  refine x_nil ?_
  refine hK6 _ _ ?_
  refine x_region ?_
  refine s_go (s_add (hc := by exact wr_i64 (by omega) (by omega))) ?_
  try simp only [opv, n1, n2, n3, n4, Value.cells]
  refine s_go (s_move) ?_
  try simp only [opv, n1, n2, n3, n4, Value.cells]
  refine x_nil ?_
  refine loop_back (m' := 16 - (k + 1)) (by simp only [clob, List.foldl, n1, n2, n3, n4]) ?_ ?_
  · try simp only [opv, n1, n2, n3, n4, Value.cells]
    exact ⟨k + 1, by omega, by omega, by rfl, by rw [← mixv_set (by omega) (by omega), ← mixv_get (op := max) (b := b) (k := k) (by omega) (by omega)]; exact hS⟩
  · omega
 ·
  try simp only [decide_eq_true_eq, decide_eq_false_iff_not, Bool.not_eq_true', Bool.not_eq_false', Int.not_lt, Int.not_le, ne_eq, Decidable.not_not, bne_iff_ne, beq_iff_eq, not_true_eq_false, not_false_eq_true] at hc1
  obtain rfl : k = 16 := by omega
  refine x_exit (look_here ?_)
  refine hK2 _ _ ?_
  refine x_seq fun K8 hK8 => ?_
  refine x_region ?_
  refine s_go (m_load_row Try.underlying70 (hi := ti70) (hS := hS)) ?_
  try simp only [opv, n1, n2, n3, n4, Value.cells, List.getElem_toArray, List.getElem_cons_zero, List.getElem_cons_succ]
  refine m_store_obj ti70 (hS := hS) (h := fun w6 hS => ?_)
  try simp only [opv, n1, n2, n3, n4, Value.cells, Array.toArray_toList] at hS ⊢
  refine x_nil ?_
  refine hK8 _ _ ?_
  refine x_ret ?_
  refine r_cell_agg rfl Try.underlying70 ti70 (hS := hS) (hR := ?_)
  exact ⟨by rw [← mixv_all (by omega), ha], hS.ext_of⟩

def vjoin (a b : List Int) : List Int := List.zipWith max a b
def vmeet (a b : List Int) : List Int := List.zipWith min a b
@[simp] theorem vjoin_len (a b : List Int) : (vjoin a b).length = min a.length b.length := by simp [vjoin]
@[simp] theorem vmeet_len (a b : List Int) : (vmeet a b).length = min a.length b.length := by simp [vmeet]
theorem c_vecJoin (a b : List Int) (ha : a.length = 16) (hb : b.length = 16) (w0 : World) :
    CallR Try.prog 86 #[.agg (ic .u32 a), .agg (ic .u32 b)] w0 fun v w' => v = .agg (ic .u32 (vjoin a b)) ∧ Ext w0 w' := by
 have hS : St NoB w0 w0 [] := St.start w0
 refine c_enter (l := [.agg (ic .u32 a), .agg (ic .u32 b), undef, undef, undef, undef, undef, undef]) Try.func86 rfl (by simp only [Try.ntmps86, List.size_toArray, List.length_cons, List.length_nil, Nat.reduceAdd, Nat.reduceSub, Array.replicate_succ, Array.replicate_zero, List.push_toArray, List.append_toArray, List.nil_append, List.cons_append]) ?_
 refine x_seq fun K1 hK1 => ?_
 refine x_region ?_
 refine m_box hS (fun w1 g1 hS => ?_)
 try simp only [opv, n1, n2, n3, n4, Value.cells, Array.toArray_toList] at hS ⊢
 refine m_box hS (fun w2 g2 hS => ?_)
 try simp only [opv, n1, n2, n3, n4, Value.cells, Array.toArray_toList] at hS ⊢
 refine m_alloc ti70 hS (fun w3 g3 hS => ?_)
 try simp only [opv, n1, n2, n3, n4, Value.cells, Array.toArray_toList] at hS ⊢
 refine x_nil ?_
 refine hK1 _ _ ?_
 refine x_seq fun K2 hK2 => ?_
 refine x_region ?_
 refine s_go (m_load_row Try.underlying70 (hi := ti70) (hS := hS)) ?_
 try simp only [opv, n1, n2, n3, n4, Value.cells, List.getElem_toArray, List.getElem_cons_zero, List.getElem_cons_succ]
 refine s_go (m_load_row Try.underlying70 (hi := ti70) (hS := hS)) ?_
 try simp only [opv, n1, n2, n3, n4, Value.cells, List.getElem_toArray, List.getElem_cons_zero, List.getElem_cons_succ]
 refine s_call en108 ?_
 try simp only [opv, n1, n2, n3, n4, Value.cells, List.map_toArray, List.map_cons, List.map_nil, List.append_toArray, List.cons_append, List.nil_append, Array.append_empty]
 refine CallR.mono (c_vecBothJoin a b ha hb _) ?_
 rintro _ w4 ⟨rfl, hE4⟩
 replace hS := hS.ext hE4
 try simp only [opv, n1, n2, n3, n4, Value.cells]
 refine m_store_obj ti70 (hS := hS) (h := fun w5 hS => ?_)
 try simp only [opv, n1, n2, n3, n4, Value.cells, Array.toArray_toList] at hS ⊢
 refine x_nil ?_
 refine hK2 _ _ ?_
 refine x_ret ?_
 refine r_cell_agg rfl Try.underlying70 ti70 (hS := hS) (hR := ?_)
 exact ⟨rfl, hS.ext_of⟩
theorem c_ref12Join (a b : List Int) (ha : a.length = 16) (hb : b.length = 16) (w0 : World) :
    CallR Try.prog 87 #[.agg (ic .u32 a), .agg (ic .u32 b)] w0 fun v w' => v = .agg (ic .u32 (vjoin a b)) ∧ Ext w0 w' := by
 have hS : St NoB w0 w0 [] := St.start w0
 refine c_enter (l := [.agg (ic .u32 a), .agg (ic .u32 b), undef, undef, undef, undef, undef, undef, undef, undef, undef, undef, undef, undef, undef, undef, undef, undef, undef, undef, undef, undef, undef]) Try.func87 rfl (by simp only [Try.ntmps87, List.size_toArray, List.length_cons, List.length_nil, Nat.reduceAdd, Nat.reduceSub, Array.replicate_succ, Array.replicate_zero, List.push_toArray, List.append_toArray, List.nil_append, List.cons_append]) ?_
 refine x_seq fun K1 hK1 => ?_
 refine x_region ?_
 refine m_box hS (fun w1 g1 hS => ?_)
 try simp only [opv, n1, n2, n3, n4, Value.cells, Array.toArray_toList] at hS ⊢
 refine m_box hS (fun w2 g2 hS => ?_)
 try simp only [opv, n1, n2, n3, n4, Value.cells, Array.toArray_toList] at hS ⊢
 refine m_alloc ti64 hS (fun w3 g3 hS => ?_)
 try simp only [opv, n1, n2, n3, n4, Value.cells, Array.toArray_toList] at hS ⊢
 refine x_nil ?_
 refine hK1 _ _ ?_
 refine x_seq fun K2 hK2 => ?_
 refine x_seq fun K3 hK3 => ?_
 refine x_region ?_
 refine s_go (s_assign) ?_
 try simp only [opv, n1, n2, n3, n4, Value.cells]
 refine x_nil ?_
 refine hK3 _ _ ?_
 refine x_block ?_
 refine x_loop [5, 6, 7, 8, 9, 10, 11, 12, 13, 14, 15, 16, 17, 18, 19, 20, 21] (fun m f w => ∃ k : Nat, k ≤ 16 ∧ m = 16 - k ∧ f 5 = .int .i64 (k : Int) ∧ St NoB w0 w [.obj g3 (.cells (ic .u32 (List.replicate 16 0)) 64 (0, 0)), .obj g2 (.cells (ic .u32 b) 64 (0, 0)), .obj g1 (.cells (ic .u32 (mixv max a b k)) 64 (0, 0))]) (16) ?init1 (fun m1 f1 wl1 hI => ?_)
 case init1 =>
  try simp only [opv, n1, n2, n3, n4, Value.cells]
  exact ⟨0, by omega, rfl, rfl, by rw [mixv_zero]; exact hS⟩
 obtain ⟨k, hk, hm, h5, hS⟩ := hI
 simp only [clob, List.foldl, n3, n4, h5]
 have hml : (mixv max a b k).length = 16 := by rw [mixv_len (by omega), ha]
 refine x_seq fun K4 hK4 => ?_
 refine x_seq fun K5 hK5 => ?_
 refine x_region ?_
 refine s_go (s_move) ?_
 try simp only [opv, n1, n2, n3, n4, Value.cells]
 refine s_go (s_lss) ?_
 try simp only [opv, n1, n2, n3, n4, Value.cells]
 refine x_nil ?_
 refine hK5 _ _ ?_
 refine x_cond (ht := fun hc1 => ?_) (hf := fun hc1 => ?_)
 ·
  try simp only [decide_eq_true_eq, decide_eq_false_iff_not, Bool.not_eq_true', Bool.not_eq_false', Int.not_lt, Int.not_le, ne_eq, Decidable.not_not, bne_iff_ne, beq_iff_eq, not_true_eq_false, not_false_eq_true] at hc1
  refine x_skip ?_
  refine hK4 _ _ ?_
  refine x_seq fun K6 hK6 => ?_
  refine x_block ?_
  refine x_seq fun K7 hK7 => ?_
  refine x_quiet (by kernel_rfl) (by kernel_rfl) hS ?_
  refine q_go (fun w hS => s_move) ?_
  try simp only [opv, n1, n2, n3, n4, Value.cells]
  refine q_go (fun w hS => m_indexAddr_arr Try.underlying64 ti29) ?_
  try simp only [opv, n1, n2, n3, n4, Value.cells, Nat.mul_one, Nat.zero_add, Int.toNat_natCast, Int.reduceToNat]
  refine q_go (fun w hS => m_load_obj Try.underlying29 (hS := hS)) ?_
  try simp only [opv, n1, n2, n3, n4, Value.cells, List.getElem_toArray, List.getElem_cons_zero, List.getElem_cons_succ]
  refine q_go (fun w hS => s_move) ?_
  try simp only [opv, n1, n2, n3, n4, Value.cells]
  refine q_go (fun w hS => m_indexAddr_arr Try.underlying64 ti29) ?_
  try simp only [opv, n1, n2, n3, n4, Value.cells, Nat.mul_one, Nat.zero_add, Int.toNat_natCast, Int.reduceToNat]
  refine q_go (fun w hS => m_load_obj Try.underlying29 (hS := hS)) ?_
  try simp only [opv, n1, n2, n3, n4, Value.cells, List.getElem_toArray, List.getElem_cons_zero, List.getElem_cons_succ]
  refine q_go (fun w hS => s_gtr) ?_
  try simp only [opv, n1, n2, n3, n4, Value.cells]
  clear hS
  refine q_nil fun w4 hS => ?_
  refine hK7 _ _ ?_
  refine x_cond (ht := fun hc2 => ?_) (hf := fun hc2 => ?_)
  ·
   try simp only [decide_eq_true_eq, decide_eq_false_iff_not, Bool.not_eq_true', Bool.not_eq_false', Int.not_lt, Int.not_le, ne_eq, Decidable.not_not, bne_iff_ne, beq_iff_eq, not_true_eq_false, not_false_eq_true] at hc2
   refine x_region ?_
   refine s_go (s_move) ?_
   try simp only [opv, n1, n2, n3, n4, Value.cells]
   refine s_go (s_move) ?_
   try simp only [opv, n1, n2, n3, n4, Value.cells]
   refine s_go (m_indexAddr_arr Try.underlying64 ti29) ?_
   try simp only [opv, n1, n2, n3, n4, Value.cells, Nat.mul_one, Nat.zero_add, Int.toNat_natCast, Int.reduceToNat]
   refine s_go (m_load_obj Try.underlying29 (hS := hS)) ?_
   try simp only [opv, n1, n2, n3, n4, Value.cells, List.getElem_toArray, List.getElem_cons_zero, List.getElem_cons_succ]
   refine s_go (m_indexAddr_arr Try.underlying64 ti29) ?_
   try simp only [opv, n1, n2, n3, n4, Value.cells, Nat.mul_one, Nat.zero_add, Int.toNat_natCast, Int.reduceToNat]
   refine m_store_obj ti29 (hS := hS) (h := fun w5 hS => ?_)
   try simp only [opv, n1, n2, n3, n4, Value.cells, Array.toArray_toList] at hS ⊢
   refine x_nil ?_
   refine hK6 _ _ ?_
   refine x_region ?_
   refine s_go (s_move) ?_
   try simp only [opv, n1, n2, n3, n4, Value.cells]
   refine s_go (s_add (hc := by exact wr_i64 (by omega) (by omega))) ?_
   try simp only [opv, n1, n2, n3, n4, Value.cells]
   refine s_go (s_assign) ?_
   try simp only [opv, n1, n2, n3, n4, Value.cells]
   refine x_nil ?_
   refine loop_back (m' := 16 - (k + 1)) (by simp only [clob, List.foldl, n1, n2, n3, n4]) ?_ ?_
   · try simp only [opv, n1, n2, n3, n4, Value.cells]
     exact ⟨k + 1, by omega, by omega, by rfl, by rw [mixv_get (by omega) (by omega)] at hc2; (rw [← mixv_set (by omega) (by omega), show max (a.getD k 0) (b.getD k 0) = b.getD k 0 by omega]; exact hS)⟩
   · omega
  ·
   try simp only [decide_eq_true_eq, decide_eq_false_iff_not, Bool.not_eq_true', Bool.not_eq_false', Int.not_lt, Int.not_le, ne_eq, Decidable.not_not, bne_iff_ne, beq_iff_eq, not_true_eq_false, not_false_eq_true] at hc2
   refine x_skip ?_
   refine hK6 _ _ ?_
   refine x_region ?_
   refine s_go (s_move) ?_
   try simp only [opv, n1, n2, n3, n4, Value.cells]
   refine s_go (s_add (hc := by exact wr_i64 (by omega) (by omega))) ?_
   try simp only [opv, n1, n2, n3, n4, Value.cells]
   refine s_go (s_assign) ?_
   try simp only [opv, n1, n2, n3, n4, Value.cells]
   refine x_nil ?_
   refine loop_back (m' := 16 - (k + 1)) (by simp only [clob, List.foldl, n1, n2, n3, n4]) ?_ ?_
   · try simp only [opv, n1, n2, n3, n4, Value.cells]
     exact ⟨k + 1, by omega, by omega, by rfl, by rw [mixv_get (by omega) (by omega)] at hc2; (rw [← mixv_set (by omega) (by omega), show max (a.getD k 0) (b.getD k 0) = a.getD k 0 by omega, ← mixv_get (op := max) (b := b) (k := k) (by omega) (by omega), set_getD0]; exact hS)⟩
   · omega
 ·
  try simp only [decide_eq_true_eq, decide_eq_false_iff_not, Bool.not_eq_true', Bool.not_eq_false', Int.not_lt, Int.not_le, ne_eq, Decidable.not_not, bne_iff_ne, beq_iff_eq, not_true_eq_false, not_false_eq_true] at hc1
  obtain rfl : k = 16 := by omega
  refine x_exit (look_here ?_)
  refine hK2 _ _ ?_
  refine x_seq fun K8 hK8 => ?_
  refine x_region ?_
  refine s_go (m_load_row Try.underlying64 (hi := ti64) (hS := hS)) ?_
  try simp only [opv, n1, n2, n3, n4, Value.cells, List.getElem_toArray, List.getElem_cons_zero, List.getElem_cons_succ]
  refine m_store_obj ti64 (hS := hS) (h := fun w6 hS => ?_)
  try simp only [opv, n1, n2, n3, n4, Value.cells, Array.toArray_toList] at hS ⊢
  refine x_nil ?_
  refine hK8 _ _ ?_
  refine x_ret ?_
  refine r_cell_agg rfl Try.underlying64 ti64 (hS := hS) (hR := ?_)
  exact ⟨by rw [vjoin, ← mixv_all (by omega), ha], hS.ext_of⟩

end Go.Proofs.Ytffmanidnlbjjaa
set_option linter.unusedSimpArgs false
set_option linter.unusedVariables false
set_option maxHeartbeats 3000000
set_option maxRecDepth 100000
namespace Go.Proofs.Ytffmanidnlbjjaa
open Go.RowKit

theorem vok_join {a b : List Int} (ha : VOk a) (hb : VOk b) : VOk (vjoin a b) := ⟨by rw [vjoin_len, ha.len, hb.len]; rfl, fun i => by
  by_cases h : i < 16
  · have h1 := ha.len; have h2 := hb.len
    have e : (vjoin a b).getD i 0 = max (a.getD i 0) (b.getD i 0) := by
      rw [List.getD_eq_getElem?_getD, vjoin, List.getElem?_zipWith, List.getElem?_eq_getElem (by omega), List.getElem?_eq_getElem (by omega), List.getD_eq_getElem?_getD, List.getD_eq_getElem?_getD, List.getElem?_eq_getElem (by omega), List.getElem?_eq_getElem (by omega)]; rfl
    have h3 := ha.nat i; have h4 := hb.nat i
    rw [e]; omega
  · rw [List.getD_eq_getElem?_getD, List.getElem?_eq_none (by rw [vjoin_len, ha.len, hb.len]; omega)]; simp⟩
theorem has_app {v a b : List Int} {x : Int} : HasD v (a ++ b) x ↔ HasD v a x ∨ (MayD x ∧ x ∈ b) := by
  unfold HasD
  rw [List.mem_append]
  constructor
  · rintro ⟨h, h2 | h2 | h2⟩
    · exact .inl ⟨h, .inl h2⟩
    · exact .inl ⟨h, .inr h2⟩
    · exact .inr ⟨h, h2⟩
  · rintro (⟨h, h2⟩ | ⟨h, h2⟩)
    · exact ⟨h, h2.imp id .inl⟩
    · exact ⟨h, .inr (.inr h2)⟩
theorem add_add {v : List Int} (hv : VOk v) (l m : List Int) : addS (addS v l).1 ((addS v l).2 ++ m) = addS v (l ++ m) := by
  have h := add_nrm hv l
  refine (add_nrm h.ns.vok _).uniq (add_nrm hv _) fun x => ?_
  rw [has_app, has_app, h.has]
def joinS (a b : List Int × List Int) : List Int × List Int := addS (vjoin a.1 b.1) (a.2 ++ b.2)
theorem sum_take {v : List Int} {k : Nat} (hk : k < v.length) : (v.take (k + 1)).sum = (v.take k).sum + v.getD k 0 := by
  rw [List.take_succ_eq_append_getElem hk, List.sum_append, ← getD_ltz hk]; simp
theorem sum_bd : ∀ {v : List Int} {k : Nat}, (∀ i : Nat, 0 ≤ v.getD i 0 ∧ v.getD i 0 ≤ 4294967295) → k ≤ v.length → 0 ≤ (v.take k).sum ∧ (v.take k).sum ≤ 4294967295 * k
  | v, 0, _, _ => by simp
  | v, k + 1, h, hk => by
    have ih := sum_bd (v := v) (k := k) h (by omega)
    have h2 := h k
    rw [sum_take (by omega)]
    omega
/-- what of a set another one lacks -/
def lesS (p : List Int) (y cm : List Int) : List Int := p.filter fun d => !decide (HasD y cm d)
theorem les_take {p y cm : List Int} {k : Nat} (hk : k < p.length) : (HasD y cm (p.getD k 0) → lesS (p.take (k + 1)) y cm = lesS (p.take k) y cm) ∧ (¬ HasD y cm (p.getD k 0) → lesS (p.take (k + 1)) y cm = lesS (p.take k) y cm ++ [p.getD k 0]) := by
  rw [List.take_succ_eq_append_getElem hk, ← getD_ltz hk, lesS, List.filter_append]
  refine ⟨fun h => ?_, fun h => ?_⟩
  · rw [List.filter_cons_of_neg (by simpa using h)]; simp [lesS]
  · rw [List.filter_cons_of_pos (by simpa using h)]; rfl
theorem les_len (p y cm : List Int) : (lesS p y cm).length ≤ p.length := List.length_filter_le _ _
theorem les_u64 {p y cm : List Int} (h : U64s p) : U64s (lesS p y cm) := fun x hx => h x (List.mem_filter.1 hx).1

theorem c_ref13Add (w0 : World) (x : List Int) (hx : VOk x) (A : Option Addr) (c : Nat) (cl : List Int) (hr : Rd w0 A 1 cl.length (List.map (Value.int .u64) cl)) (hu : U64s cl) (B : Option Addr) (d : Nat) (l : List Int) (hr2 : Rd w0 B 1 l.length (List.map (Value.int .u64) l)) (hu2 : U64s l) (hn : cl.length + l.length ≤ 4000000000)  :
    CallR Try.prog 35 #[.agg (SetC x (.slice A cl.length c)), .slice B l.length d] w0 fun v w' => ∃ (D : Option Addr) (e : Nat), v = .agg (SetC (addS x (cl ++ l)).1 (.slice D (addS x (cl ++ l)).2.length e)) ∧ St NoB w0 w' [.vec D e 48 1 (addS x (cl ++ l)).2.length (List.map (Value.int .u64) (addS x (cl ++ l)).2)] := by
 have hS := St.rd2 (S := NoB) hr hr2
 have hxl := hx.len
 have h0l : (List.replicate 16 (0 : Int)).length = 16 := rfl
 refine c_enter (l := [.agg (SetC x (.slice A cl.length c)), .slice B l.length d, undef, undef, undef, undef, undef, undef, undef, undef, undef, undef, undef, undef, undef, undef, undef, undef, undef, undef, undef, undef, undef, undef, undef, undef, undef, undef, undef, undef, undef, undef, undef, undef, undef, undef, undef, undef, undef]) Try.func35 rfl (by simp only [Try.ntmps35, List.size_toArray, List.length_cons, List.length_nil, Nat.reduceAdd, Nat.reduceSub, Array.replicate_succ, Array.replicate_zero, List.push_toArray, List.append_toArray, List.nil_append, List.cons_append]) ?_
 refine x_seq fun K1 hK1 => ?_
 refine x_region ?_
 refine m_box hS (fun w1 g1 hS => ?_)
 try simp only [opv, n1, n2, n3, n4, Value.cells, Array.toArray_toList] at hS ⊢
 obtain ⟨gba, hgba⟩ : ∃ z, z = g1 := ⟨_, rfl⟩
 rw [← hgba] at hS ⊢
 refine m_alloc ti67 hS (fun w2 g2 hS => ?_)
 try simp only [opv, n1, n2, n3, n4, Value.cells, Array.toArray_toList] at hS ⊢
 replace hS : St NoB w0 w2 (.obj g2 (.cells (SetC (List.replicate 16 0) (.slice none 0 0)) 67 (0, 0)) :: _) := hS
 obtain ⟨gbr, hgbr⟩ : ∃ z, z = g2 := ⟨_, rfl⟩
 rw [← hgbr] at hS ⊢
 refine x_nil ?_
 refine hK1 _ _ ?_
 refine x_seq fun K2 hK2 => ?_
 refine x_region ?_
 first | refine s_go (m_fieldAddr Try.underlying67 (hi := ti64)) ?_ | refine s_go (m_fieldAddr_rd Try.underlying67 (hi := ti64) (hS := hS)) ?_ | refine s_go (m_fieldAddr_vec Try.underlying67 (hi := ti64) (hS := hS)) ?_
 try simp only [opv, n1, n2, n3, n4, Value.cells, Nat.zero_add, Nat.add_zero, List.getElem_toArray, List.getElem_cons_zero, List.getElem_cons_succ]
 refine s_go (m_loada_obj Try.underlying64 (hi := ti64) (hS := hS) (hfit := by rw [setC_size (by assumption)]; decide)) ?_
 try simp only [opv, n1, n2, n3, n4, Value.cells, List.getElem_toArray, List.getElem_cons_zero, List.getElem_cons_succ]
 rw [set_flo (by assumption)]
 refine s_go (s_build_struct (cells := (SetC x (.slice none 0 0))) Try.underlying67 ti67 bp67 (hc := by simp only [List.map_toArray, List.map_cons, List.map_nil, opv, n1, n2, n3, n4, Value.cells, List.toList_toArray]; exact fill_set (by rfl) hxl)) ?_
 try simp only [opv, n1, n2, n3, n4, Value.cells]
 refine m_alloc ti67 hS (fun w3 g3 hS => ?_)
 try simp only [opv, n1, n2, n3, n4, Value.cells, Array.toArray_toList] at hS ⊢
 replace hS : St NoB w0 w3 (.obj g3 (.cells (SetC (List.replicate 16 0) (.slice none 0 0)) 67 (0, 0)) :: _) := hS
 obtain ⟨gbo, hgbo⟩ : ∃ z, z = g3 := ⟨_, rfl⟩
 rw [← hgbo] at hS ⊢
 refine m_store_obj ti67 (hS := hS) (hv := setC_size (by assumption) _) (h1 := set_one _ _ _ _) (hfit := by rw [setC_size (by assumption)]; omega) (hc := set_whole (by assumption) (by assumption) _ _) (h := fun w4 hS => ?_)
 try simp only [opv, n1, n2, n3, n4, Value.cells, Array.toArray_toList] at hS ⊢
 refine x_nil ?_
 refine hK2 _ _ ?_
 refine x_seq fun K3 hK3 => ?_
 refine x_seq fun K4 hK4 => ?_
 refine x_region ?_
 refine s_go (s_assign) ?_
 try simp only [opv, n1, n2, n3, n4, Value.cells]
 refine x_nil ?_
 refine hK4 _ _ ?_
 refine x_block ?_
 refine x_loop [6, 11, 12, 13, 14, 15, 16, 17, 18, 19, 20, 21, 22, 23, 24] (fun m f w => ∃ (k : Nat) (E : Option Addr) (ec : Nat) (o : List Int), k ≤ cl.length ∧ m = cl.length - k ∧ f 6 = .int .i64 (k : Int) ∧ (cl.take k).foldl (putC x) [] = o ∧ St NoB w0 w [.obj gbo (.cells (SetC x (.slice E o.length ec)) 67 (0, 0)), .rd E 1 o.length (List.map (Value.int .u64) o), .obj gbr (.cells (SetC (List.replicate 16 0) (.slice none 0 0)) 67 (0, 0)), .obj gba (.cells (SetC x (.slice A cl.length c)) 67 (0, 0)), .rd A 1 cl.length (List.map (Value.int .u64) cl), .rd B 1 l.length (List.map (Value.int .u64) l)]) (cl.length) ?init1 (fun m1 f1 wl1 hI => ?_)
 case init1 =>
  try simp only [opv, n1, n2, n3, n4, Value.cells]
  replace hS := hS.rd_none none 1
  exact ⟨0, none, 0, [], by omega, rfl, rfl, rfl, hS.sel (by repeat (first | exact Sel.nil | (refine Sel.cons (by repeat (first | exact Del.head | apply Del.tail)) ?_)))⟩
 obtain ⟨k, E, ec, o, hk, hm, h6, ho, hS⟩ := hI
 simp only [clob, List.foldl, n3, n4, h6]
 have hPo := (puts_pre (l := cl.take k) (pre_nil hx)).1
 have hol := puts_len (l := cl.take k) (pre_nil hx)
 rw [ho] at hPo hol
 rw [List.length_take, List.length_nil] at hol
 refine x_seq fun K5 hK5 => ?_
 refine x_seq fun K6 hK6 => ?_
 refine x_region ?_
 refine s_go (s_move) ?_
 try simp only [opv, n1, n2, n3, n4, Value.cells]
 first | refine s_go (m_fieldAddr Try.underlying67 (hi := ti65)) ?_ | refine s_go (m_fieldAddr_rd Try.underlying67 (hi := ti65) (hS := hS)) ?_ | refine s_go (m_fieldAddr_vec Try.underlying67 (hi := ti65) (hS := hS)) ?_
 try simp only [opv, n1, n2, n3, n4, Value.cells, Nat.zero_add, Nat.add_zero, List.getElem_toArray, List.getElem_cons_zero, List.getElem_cons_succ]
 refine s_go (m_load_obj Try.underlying65 (hS := hS) (hv := set_sl (by assumption) _)) ?_
 try simp only [opv, n1, n2, n3, n4, Value.cells, List.getElem_toArray, List.getElem_cons_zero, List.getElem_cons_succ]
 refine s_go (s_len_sl Try.underlying65) ?_
 try simp only [opv, n1, n2, n3, n4, Value.cells]
 refine s_go (s_lss) ?_
 try simp only [opv, n1, n2, n3, n4, Value.cells]
 refine x_nil ?_
 refine hK6 _ _ ?_
 refine x_cond (ht := fun hc1 => ?_) (hf := fun hc1 => ?_)
 ·
  try simp only [decide_eq_true_eq, decide_eq_false_iff_not, Bool.not_eq_true', Bool.not_eq_false', Int.not_lt, Int.not_le, ne_eq, Decidable.not_not, bne_iff_ne, beq_iff_eq, not_true_eq_false, not_false_eq_true] at hc1
  have hxr := hu.get (k := k) (by omega)
  obtain ⟨q, hq⟩ : ∃ q : Nat, cl.getD k 0 = (q : Int) := ⟨(cl.getD k 0).toNat, by omega⟩
  refine x_skip ?_
  refine hK5 _ _ ?_
  refine x_seq fun K7 hK7 => ?_
  refine x_block ?_
  refine x_mixed_c (Lc := [.obj gbo (.cells (SetC x (.slice E o.length ec)) 67 (0, 0)), .rd E 1 o.length (List.map (Value.int .u64) o), .obj gbr (.cells (SetC (List.replicate 16 0) (.slice none 0 0)) 67 (0, 0)), .obj gba (.cells (SetC x (.slice A cl.length c)) 67 (0, 0)), .rd A 1 cl.length (List.map (Value.int .u64) cl), .rd B 1 l.length (List.map (Value.int .u64) l)]) [7] 0 [18, 19, 20, 21, 22, 23, 24] (fun f w => ∃ (E2 : Option Addr) (ec2 : Nat), St NoB w0 w [.obj gbo (.cells (SetC x (.slice E2 (putC x o (q : Int)).length ec2)) 67 (0, 0)), .rd E2 1 (putC x o (q : Int)).length (List.map (Value.int .u64) (putC x o (q : Int))), .obj gbr (.cells (SetC (List.replicate 16 0) (.slice none 0 0)) 67 (0, 0)), .obj gba (.cells (SetC x (.slice A cl.length c)) 67 (0, 0)), .rd A 1 cl.length (List.map (Value.int .u64) cl), .rd B 1 l.length (List.map (Value.int .u64) l)]) (by kernel_rfl) (by kernel_rfl) (by kernel_rfl) (by decide) hS (fun w5 hS => ?mixpre501) ?mixrest501
  case mixpre501 =>
   refine p_nil ?_
   simp only [List.length_cons, List.length_nil, Nat.reduceAdd, Nat.reduceSub]
   refine any_go (i := 0) (by rfl) (by decide +kernel) (by decide +kernel) (by unfold noLate; decide) (go_yields w_none (fun w hS => m_load_row Try.underlying67 (hi := ti67) (hS := hS) (hfit := by rw [setC_size (by assumption)]))) ?_
   try simp only [opv, n1, n2, n3, n4, Value.cells, List.getElem_toArray, List.getElem_cons_zero, List.getElem_cons_succ]
   first | refine any_go (i := 1) (by rfl) (by decide +kernel) (by decide +kernel) (by unfold noLate; decide) (go_yields w_none (fun w hS => m_fieldAddr Try.underlying67 (hi := ti65))) ?_ | refine any_go (i := 1) (by rfl) (by decide +kernel) (by decide +kernel) (by unfold noLate; decide) (go_yields w_none (fun w hS => m_fieldAddr_rd Try.underlying67 (hi := ti65) (hS := hS))) ?_ | refine any_go (i := 1) (by rfl) (by decide +kernel) (by decide +kernel) (by unfold noLate; decide) (go_yields w_none (fun w hS => m_fieldAddr_vec Try.underlying67 (hi := ti65) (hS := hS))) ?_
   try simp only [opv, n1, n2, n3, n4, Value.cells, Nat.zero_add, Nat.add_zero, List.getElem_toArray, List.getElem_cons_zero, List.getElem_cons_succ]
   refine any_go (i := 2) (by rfl) (by decide +kernel) (by decide +kernel) (by unfold noLate; decide) (go_yields w_none (fun w hS => m_load_obj Try.underlying65 (hS := hS) (hv := set_sl (by assumption) _))) ?_
   try simp only [opv, n1, n2, n3, n4, Value.cells, List.getElem_toArray, List.getElem_cons_zero, List.getElem_cons_succ]
   refine any_go (i := 3) (by rfl) (by decide +kernel) (by decide +kernel) (by unfold noLate; decide) (go_yields w_none (fun w hS => s_move)) ?_
   try simp only [opv, n1, n2, n3, n4, Value.cells]
   first | refine any_go (i := 4) (by rfl) (by decide +kernel) (by decide +kernel) (by unfold noLate; decide) (go_yields w_none (fun w hS => m_indexAddr_rd Try.underlying65 ti48 (hS := hS))) ?_ | refine any_go (i := 4) (by rfl) (by decide +kernel) (by decide +kernel) (by unfold noLate; decide) (go_yields w_none (fun w hS => m_indexAddr_vec Try.underlying65 ti48 (hS := hS))) ?_
   try simp only [opv, n1, n2, n3, n4, Value.cells, Nat.mul_one, Nat.zero_add, Int.toNat_natCast, Int.reduceToNat]
   first | refine any_go (i := 5) (by rfl) (by decide +kernel) (by decide +kernel) (by unfold noLate; decide) (go_yields w_none (fun w hS => m_load_obj Try.underlying48 (hS := hS))) ?_ | refine any_go (i := 5) (by rfl) (by decide +kernel) (by decide +kernel) (by unfold noLate; decide) (go_yields w_none (fun w hS => m_load_bx Try.underlying48 (hS := hS))) ?_ | refine any_go (i := 5) (by rfl) (by decide +kernel) (by decide +kernel) (by unfold noLate; decide) (go_yields w_none (fun w hS => m_load_rd Try.underlying48 (hS := hS))) ?_ | refine any_go (i := 5) (by rfl) (by decide +kernel) (by decide +kernel) (by unfold noLate; decide) (go_yields w_none (fun w hS => m_load_vec Try.underlying48 (hS := hS))) ?_
   try simp only [opv, n1, n2, n3, n4, Value.cells, List.getElem_toArray, List.getElem_cons_zero, List.getElem_cons_succ]
   rw [hq]
   refine any_step [6] (by kernel_rfl) (by decide) (fun w6 hE => ⟨fun _ => (hS.ext hE).sel (by repeat (first | exact Sel.nil | (refine Sel.cons (by repeat (first | exact Del.head | apply Del.tail)) ?_))), ?_⟩)
   replace hS := hS.ext hE
   intro i hi
   simp only [List.mem_cons, List.not_mem_nil, or_false] at hi
   subst hi
   ·
    refine any_op (by rfl) ?_
    refine s_call en76 ?_
    try simp only [opv, n1, n2, n3, n4, Value.cells, List.map_toArray, List.map_cons, List.map_nil, List.append_toArray, List.cons_append, List.nil_append, Array.append_empty]
    refine CallR.mono (c_ref13put _ x hx E ec o (hS.hasRd (by repeat (first | exact Has.head | apply Has.tail))) (pre_u64 hPo) (by omega) q (by omega) hPo) ?_
    rintro _ w7 ⟨E7, ec7, rfl, hU7⟩
    replace hS := hS.uback hU7
    try simp only [opv, n1, n2, n3, n4, Value.cells]
    refine x_nil ?_
    refine any_step [7] (by kernel_rfl) (by decide) (fun w8 hE => ⟨fun _ => (hS.ext hE).sel (by repeat (first | exact Sel.nil | (refine Sel.cons (by repeat (first | exact Del.head | apply Del.tail)) ?_))), ?_⟩)
    replace hS := hS.ext hE
    intro i hi
    simp only [List.mem_cons, List.not_mem_nil, or_false] at hi
    subst hi
    ·
     refine any_op (by rfl) ?_
     refine m_store_obj ti67 (hS := hS) (hv := setC_size (by assumption) _) (h1 := set_one _ _ _ _) (hfit := by rw [setC_size (by assumption)]; omega) (hc := set_whole (by assumption) (by assumption) _ _) (h := fun w9 hS => ?_)
     try simp only [opv, n1, n2, n3, n4, Value.cells, Array.toArray_toList] at hS ⊢
     refine x_nil ?_
     refine any_nil (by kernel_rfl) (fun w10 hE => ?_)
     replace hS := hS.ext hE
     refine ⟨fun hl => absurd (hl 7 (by decide)) (by decide +kernel), ?_⟩
     refine mix_leaf (by simp only [clob, List.foldl, n1, n2, n3, n4]) ?_
     try simp only [n1, n2]
     exact ⟨_, _, hS.sel (by repeat (first | exact Sel.nil | (refine Sel.cons (by repeat (first | exact Del.head | apply Del.tail)) ?_)))⟩
  intro fm1 w11 hM
  obtain ⟨E2, ec2, hS⟩ := hM
  simp only [clob, List.foldl, n3, n4]
  refine hK7 _ _ ?_
  refine x_region ?_
  refine s_go (s_move) ?_
  try simp only [opv, n1, n2, n3, n4, Value.cells]
  refine s_go (s_add (hc := by first | exact wr_i64 (by omega) (by omega) | rfl)) ?_
  try simp only [opv, n1, n2, n3, n4, Value.cells]
  refine s_go (s_assign) ?_
  try simp only [opv, n1, n2, n3, n4, Value.cells]
  refine x_nil ?_
  refine loop_back (m' := cl.length - (k + 1)) (by simp only [clob, List.foldl, n1, n2, n3, n4]) ?_ ?_
  · try simp only [opv, n1, n2, n3, n4, Value.cells]
    exact ⟨k + 1, _, _, _, by omega, by omega, by rfl, by rw [foldl_take (by omega), ho, hq], hS.sel (by repeat (first | exact Sel.nil | (refine Sel.cons (by repeat (first | exact Del.head | apply Del.tail)) ?_)))⟩
  · omega
 ·
  try simp only [decide_eq_true_eq, decide_eq_false_iff_not, Bool.not_eq_true', Bool.not_eq_false', Int.not_lt, Int.not_le, ne_eq, Decidable.not_not, bne_iff_ne, beq_iff_eq, not_true_eq_false, not_false_eq_true] at hc1
  obtain rfl : k = cl.length := by omega
  rw [List.take_of_length_le (Nat.le_refl _)] at ho
  obtain ⟨o1, ho1⟩ : ∃ z, z = o := ⟨_, rfl⟩
  rw [← ho1] at hPo hol ho hS
  refine x_exit (look_here ?_)
  refine hK3 _ _ ?_
  refine x_seq fun K8 hK8 => ?_
  refine x_seq fun K9 hK9 => ?_
  refine x_region ?_
  refine s_go (s_assign) ?_
  try simp only [opv, n1, n2, n3, n4, Value.cells]
  refine x_nil ?_
  refine hK9 _ _ ?_
  refine x_block ?_
  refine x_loop [7, 25, 26, 27, 28, 29, 30, 31, 32, 33, 34, 35, 36] (fun m f w => ∃ (k : Nat) (E : Option Addr) (ec : Nat) (o : List Int), k ≤ l.length ∧ m = l.length - k ∧ f 7 = .int .i64 (k : Int) ∧ (l.take k).foldl (putC x) o1 = o ∧ St NoB w0 w [.obj gbo (.cells (SetC x (.slice E o.length ec)) 67 (0, 0)), .rd E 1 o.length (List.map (Value.int .u64) o), .obj gbr (.cells (SetC (List.replicate 16 0) (.slice none 0 0)) 67 (0, 0)), .obj gba (.cells (SetC x (.slice A cl.length c)) 67 (0, 0)), .rd A 1 cl.length (List.map (Value.int .u64) cl), .rd B 1 l.length (List.map (Value.int .u64) l)]) (l.length) ?init2 (fun m2 f2 wl2 hI => ?_)
  case init2 =>
   try simp only [opv, n1, n2, n3, n4, Value.cells]
   exact ⟨0, _, _, o1, by omega, rfl, rfl, rfl, hS.sel (by repeat (first | exact Sel.nil | (refine Sel.cons (by repeat (first | exact Del.head | apply Del.tail)) ?_)))⟩
  obtain ⟨k, E, ec, o, hk, hm, h7, ho2, hS⟩ := hI
  simp only [clob, List.foldl, n3, n4, h7]
  have hP1 := hPo
  have hol1 := hol
  clear hPo hol
  have hPo := (puts_pre (l := l.take k) hP1).1
  have hol := puts_len (l := l.take k) hP1
  rw [ho2] at hPo hol
  rw [List.length_take] at hol
  refine x_seq fun K10 hK10 => ?_
  refine x_seq fun K11 hK11 => ?_
  refine x_region ?_
  refine s_go (s_move) ?_
  try simp only [opv, n1, n2, n3, n4, Value.cells]
  refine s_go (s_move) ?_
  try simp only [opv, n1, n2, n3, n4, Value.cells]
  refine s_go (s_len_sl Try.underlying65) ?_
  try simp only [opv, n1, n2, n3, n4, Value.cells]
  refine s_go (s_lss) ?_
  try simp only [opv, n1, n2, n3, n4, Value.cells]
  refine x_nil ?_
  refine hK11 _ _ ?_
  refine x_cond (ht := fun hc2 => ?_) (hf := fun hc2 => ?_)
  ·
   try simp only [decide_eq_true_eq, decide_eq_false_iff_not, Bool.not_eq_true', Bool.not_eq_false', Int.not_lt, Int.not_le, ne_eq, Decidable.not_not, bne_iff_ne, beq_iff_eq, not_true_eq_false, not_false_eq_true] at hc2
   have hxr := hu2.get (k := k) (by omega)
   obtain ⟨q, hq⟩ : ∃ q : Nat, l.getD k 0 = (q : Int) := ⟨(l.getD k 0).toNat, by omega⟩
   refine x_skip ?_
   refine hK10 _ _ ?_
   refine x_seq fun K12 hK12 => ?_
   refine x_block ?_
   refine x_mixed_c (Lc := [.obj gbo (.cells (SetC x (.slice E o.length ec)) 67 (0, 0)), .rd E 1 o.length (List.map (Value.int .u64) o), .obj gbr (.cells (SetC (List.replicate 16 0) (.slice none 0 0)) 67 (0, 0)), .obj gba (.cells (SetC x (.slice A cl.length c)) 67 (0, 0)), .rd A 1 cl.length (List.map (Value.int .u64) cl), .rd B 1 l.length (List.map (Value.int .u64) l)]) [6] 0 [31, 32, 33, 34, 35, 36] (fun f w => ∃ (E2 : Option Addr) (ec2 : Nat), St NoB w0 w [.obj gbo (.cells (SetC x (.slice E2 (putC x o (q : Int)).length ec2)) 67 (0, 0)), .rd E2 1 (putC x o (q : Int)).length (List.map (Value.int .u64) (putC x o (q : Int))), .obj gbr (.cells (SetC (List.replicate 16 0) (.slice none 0 0)) 67 (0, 0)), .obj gba (.cells (SetC x (.slice A cl.length c)) 67 (0, 0)), .rd A 1 cl.length (List.map (Value.int .u64) cl), .rd B 1 l.length (List.map (Value.int .u64) l)]) (by kernel_rfl) (by kernel_rfl) (by kernel_rfl) (by decide) hS (fun w12 hS => ?mixpre902) ?mixrest902
   case mixpre902 =>
    refine p_nil ?_
    simp only [List.length_cons, List.length_nil, Nat.reduceAdd, Nat.reduceSub]
    refine any_go (i := 0) (by rfl) (by decide +kernel) (by decide +kernel) (by unfold noLate; decide) (go_yields w_none (fun w hS => m_load_row Try.underlying67 (hi := ti67) (hS := hS) (hfit := by rw [setC_size (by assumption)]))) ?_
    try simp only [opv, n1, n2, n3, n4, Value.cells, List.getElem_toArray, List.getElem_cons_zero, List.getElem_cons_succ]
    refine any_go (i := 1) (by rfl) (by decide +kernel) (by decide +kernel) (by unfold noLate; decide) (go_yields w_none (fun w hS => s_move)) ?_
    try simp only [opv, n1, n2, n3, n4, Value.cells]
    refine any_go (i := 2) (by rfl) (by decide +kernel) (by decide +kernel) (by unfold noLate; decide) (go_yields w_none (fun w hS => s_move)) ?_
    try simp only [opv, n1, n2, n3, n4, Value.cells]
    first | refine any_go (i := 3) (by rfl) (by decide +kernel) (by decide +kernel) (by unfold noLate; decide) (go_yields w_none (fun w hS => m_indexAddr_rd Try.underlying65 ti48 (hS := hS))) ?_ | refine any_go (i := 3) (by rfl) (by decide +kernel) (by decide +kernel) (by unfold noLate; decide) (go_yields w_none (fun w hS => m_indexAddr_vec Try.underlying65 ti48 (hS := hS))) ?_
    try simp only [opv, n1, n2, n3, n4, Value.cells, Nat.mul_one, Nat.zero_add, Int.toNat_natCast, Int.reduceToNat]
    first | refine any_go (i := 4) (by rfl) (by decide +kernel) (by decide +kernel) (by unfold noLate; decide) (go_yields w_none (fun w hS => m_load_obj Try.underlying48 (hS := hS))) ?_ | refine any_go (i := 4) (by rfl) (by decide +kernel) (by decide +kernel) (by unfold noLate; decide) (go_yields w_none (fun w hS => m_load_bx Try.underlying48 (hS := hS))) ?_ | refine any_go (i := 4) (by rfl) (by decide +kernel) (by decide +kernel) (by unfold noLate; decide) (go_yields w_none (fun w hS => m_load_rd Try.underlying48 (hS := hS))) ?_ | refine any_go (i := 4) (by rfl) (by decide +kernel) (by decide +kernel) (by unfold noLate; decide) (go_yields w_none (fun w hS => m_load_vec Try.underlying48 (hS := hS))) ?_
    try simp only [opv, n1, n2, n3, n4, Value.cells, List.getElem_toArray, List.getElem_cons_zero, List.getElem_cons_succ]
    rw [hq]
    refine any_step [5] (by kernel_rfl) (by decide) (fun w13 hE => ⟨fun _ => (hS.ext hE).sel (by repeat (first | exact Sel.nil | (refine Sel.cons (by repeat (first | exact Del.head | apply Del.tail)) ?_))), ?_⟩)
    replace hS := hS.ext hE
    intro i hi
    simp only [List.mem_cons, List.not_mem_nil, or_false] at hi
    subst hi
    ·
     refine any_op (by rfl) ?_
     refine s_call en76 ?_
     try simp only [opv, n1, n2, n3, n4, Value.cells, List.map_toArray, List.map_cons, List.map_nil, List.append_toArray, List.cons_append, List.nil_append, Array.append_empty]
     refine CallR.mono (c_ref13put _ x hx E ec o (hS.hasRd (by repeat (first | exact Has.head | apply Has.tail))) (pre_u64 hPo) (by omega) q (by omega) hPo) ?_
     rintro _ w14 ⟨E14, ec14, rfl, hU14⟩
     replace hS := hS.uback hU14
     try simp only [opv, n1, n2, n3, n4, Value.cells]
     refine x_nil ?_
     refine any_step [6] (by kernel_rfl) (by decide) (fun w15 hE => ⟨fun _ => (hS.ext hE).sel (by repeat (first | exact Sel.nil | (refine Sel.cons (by repeat (first | exact Del.head | apply Del.tail)) ?_))), ?_⟩)
     replace hS := hS.ext hE
     intro i hi
     simp only [List.mem_cons, List.not_mem_nil, or_false] at hi
     subst hi
     ·
      refine any_op (by rfl) ?_
      refine m_store_obj ti67 (hS := hS) (hv := setC_size (by assumption) _) (h1 := set_one _ _ _ _) (hfit := by rw [setC_size (by assumption)]; omega) (hc := set_whole (by assumption) (by assumption) _ _) (h := fun w16 hS => ?_)
      try simp only [opv, n1, n2, n3, n4, Value.cells, Array.toArray_toList] at hS ⊢
      refine x_nil ?_
      refine any_nil (by kernel_rfl) (fun w17 hE => ?_)
      replace hS := hS.ext hE
      refine ⟨fun hl => absurd (hl 6 (by decide)) (by decide +kernel), ?_⟩
      refine mix_leaf (by simp only [clob, List.foldl, n1, n2, n3, n4]) ?_
      try simp only [n1, n2]
      exact ⟨_, _, hS.sel (by repeat (first | exact Sel.nil | (refine Sel.cons (by repeat (first | exact Del.head | apply Del.tail)) ?_)))⟩
   intro fm2 w18 hM
   obtain ⟨E2, ec2, hS⟩ := hM
   simp only [clob, List.foldl, n3, n4]
   refine hK12 _ _ ?_
   refine x_region ?_
   refine s_go (s_move) ?_
   try simp only [opv, n1, n2, n3, n4, Value.cells]
   refine s_go (s_add (hc := by first | exact wr_i64 (by omega) (by omega) | rfl)) ?_
   try simp only [opv, n1, n2, n3, n4, Value.cells]
   refine s_go (s_assign) ?_
   try simp only [opv, n1, n2, n3, n4, Value.cells]
   refine x_nil ?_
   refine loop_back (m' := l.length - (k + 1)) (by simp only [clob, List.foldl, n1, n2, n3, n4]) ?_ ?_
   · try simp only [opv, n1, n2, n3, n4, Value.cells]
     exact ⟨k + 1, _, _, _, by omega, by omega, by rfl, by rw [foldl_take (by omega), ho2, hq], hS.sel (by repeat (first | exact Sel.nil | (refine Sel.cons (by repeat (first | exact Del.head | apply Del.tail)) ?_)))⟩
   · omega
  ·
   try simp only [decide_eq_true_eq, decide_eq_false_iff_not, Bool.not_eq_true', Bool.not_eq_false', Int.not_lt, Int.not_le, ne_eq, Decidable.not_not, bne_iff_ne, beq_iff_eq, not_true_eq_false, not_false_eq_true] at hc2
   obtain rfl : k = l.length := by omega
   rw [List.take_of_length_le (Nat.le_refl _)] at ho2
   have hoe : addS x o = addS x (cl ++ l) := by rw [← refadd_end (l := cl ++ l) hx, List.foldl_append, ho, ho2]
   have hov := (addS_ok hx o).1.len
   refine x_exit (look_here ?_)
   refine hK8 _ _ ?_
   refine x_seq fun K13 hK13 => ?_
   refine x_region ?_
   refine s_go (m_load_row Try.underlying67 (hi := ti67) (hS := hS) (hfit := by rw [setC_size (by assumption)])) ?_
   try simp only [opv, n1, n2, n3, n4, Value.cells, List.getElem_toArray, List.getElem_cons_zero, List.getElem_cons_succ]
   refine s_call en77 ?_
   try simp only [opv, n1, n2, n3, n4, Value.cells, List.map_toArray, List.map_cons, List.map_nil, List.append_toArray, List.cons_append, List.nil_append, Array.append_empty]
   refine CallR.mono (c_ref13settle _ x hx E ec o (hS.hasRd (by repeat (first | exact Has.head | apply Has.tail))) (pre_u64 hPo) (by omega) hPo) ?_
   rintro _ w19 ⟨D, e, rfl, hC19⟩
   replace hS := hS.call hC19
   simp only [List.cons_append, List.nil_append, List.append_nil] at hS ⊢
   try simp only [opv, n1, n2, n3, n4, Value.cells]
   refine m_store_obj ti67 (hS := hS) (hv := setC_size (by assumption) _) (h1 := set_one _ _ _ _) (hfit := by rw [setC_size (by assumption)]; omega) (hc := set_whole (by assumption) (by assumption) _ _) (h := fun w20 hS => ?_)
   try simp only [opv, n1, n2, n3, n4, Value.cells, Array.toArray_toList] at hS ⊢
   refine x_nil ?_
   refine hK13 _ _ ?_
   refine x_ret ?_
   refine r_cell_agg rfl Try.underlying67 ti67 (hS := hS) (hfit := by rw [setC_size (by assumption)]) (hR := ?_)
   rw [← hoe]
   exact ⟨_, _, rfl, hS.sel (by repeat (first | exact Sel.nil | (refine Sel.cons (by repeat (first | exact Del.head | apply Del.tail)) ?_)))⟩
end Go.Proofs.Ytffmanidnlbjjaa
set_option linter.unusedSimpArgs false
set_option linter.unusedVariables false
set_option maxHeartbeats 3000000
set_option maxRecDepth 100000
namespace Go.Proofs.Ytffmanidnlbjjaa
open Go.RowKit
theorem c_from13 (x : List Int) (hx : x.length = 16) (A : Option Addr) (n c : Nat)  (w0 : World) :
    CallR Try.prog 33 #[.agg (SetC x (.slice A n c))] w0 fun v w' => v = .agg (SetC x (.slice A n c)) ∧ Ext w0 w' := by
 have hS : St NoB w0 w0 [] := St.start w0
 have h0l : (List.replicate 16 (0 : Int)).length = 16 := rfl
 refine c_enter (l := [.agg (SetC x (.slice A n c)), undef, undef, undef, undef, undef, undef, undef]) Try.func33 rfl (by simp only [Try.ntmps33, List.size_toArray, List.length_cons, List.length_nil, Nat.reduceAdd, Nat.reduceSub, Array.replicate_succ, Array.replicate_zero, List.push_toArray, List.append_toArray, List.nil_append, List.cons_append]) ?_
 refine x_seq fun K1 hK1 => ?_
 refine x_region ?_
 refine m_box hS (fun w1 g1 hS => ?_)
 try simp only [opv, n1, n2, n3, n4, Value.cells, Array.toArray_toList] at hS ⊢
 refine m_alloc ti67 hS (fun w2 g2 hS => ?_)
 try simp only [opv, n1, n2, n3, n4, Value.cells, Array.toArray_toList] at hS ⊢
 replace hS : St NoB w0 w2 (.obj g2 (.cells (SetC (List.replicate 16 0) (.slice none 0 0)) 67 (0, 0)) :: _) := hS
 refine x_nil ?_
 refine hK1 _ _ ?_
 refine x_seq fun K2 hK2 => ?_
 refine x_region ?_
 first | refine s_go (m_fieldAddr Try.underlying72 (hi := ti70)) ?_ | refine s_go (m_fieldAddr_rd Try.underlying72 (hi := ti70) (hS := hS)) ?_ | refine s_go (m_fieldAddr_vec Try.underlying72 (hi := ti70) (hS := hS)) ?_
 try simp only [opv, n1, n2, n3, n4, Value.cells, Nat.zero_add, Nat.add_zero, List.getElem_toArray, List.getElem_cons_zero, List.getElem_cons_succ]
 refine s_go (m_loada_obj Try.underlying70 (hi := ti70) (hS := hS) (hfit := by rw [setC_size (by assumption)]; decide)) ?_
 try simp only [opv, n1, n2, n3, n4, Value.cells, List.getElem_toArray, List.getElem_cons_zero, List.getElem_cons_succ]
 rw [set_flo (by assumption)]
 first | refine s_go (m_fieldAddr Try.underlying72 (hi := ti65)) ?_ | refine s_go (m_fieldAddr_rd Try.underlying72 (hi := ti65) (hS := hS)) ?_ | refine s_go (m_fieldAddr_vec Try.underlying72 (hi := ti65) (hS := hS)) ?_
 try simp only [opv, n1, n2, n3, n4, Value.cells, Nat.zero_add, Nat.add_zero, List.getElem_toArray, List.getElem_cons_zero, List.getElem_cons_succ]
 refine s_go (m_load_obj Try.underlying65 (hS := hS) (hv := set_sl (by assumption) _)) ?_
 try simp only [opv, n1, n2, n3, n4, Value.cells, List.getElem_toArray, List.getElem_cons_zero, List.getElem_cons_succ]
 refine s_go (s_build_struct (cells := (SetC x (.slice A n c))) Try.underlying67 ti67 bp67 (hc := by simp only [List.map_toArray, List.map_cons, List.map_nil, opv, n1, n2, n3, n4, Value.cells, List.toList_toArray]; exact fill_set2 (by rfl) (by rfl) hx)) ?_
 try simp only [opv, n1, n2, n3, n4, Value.cells]
 refine m_store_obj ti67 (hS := hS) (hv := setC_size (by assumption) _) (h1 := set_one _ _ _ _) (hfit := by rw [setC_size (by assumption)]; omega) (hc := set_whole (by assumption) (by assumption) _ _) (h := fun w3 hS => ?_)
 try simp only [opv, n1, n2, n3, n4, Value.cells, Array.toArray_toList] at hS ⊢
 refine x_nil ?_
 refine hK2 _ _ ?_
 refine x_ret ?_
 refine r_cell_agg rfl Try.underlying67 ti67 (hS := hS) (hfit := by rw [setC_size (by assumption)]) (hR := ?_)
 exact ⟨rfl, hS.ext_of⟩
theorem c_to13 (x : List Int) (hx : x.length = 16) (A : Option Addr) (n c : Nat)  (w0 : World) :
    CallR Try.prog 37 #[.agg (SetC x (.slice A n c))] w0 fun v w' => v = .agg (SetC x (.slice A n c)) ∧ Ext w0 w' := by
 have hS : St NoB w0 w0 [] := St.start w0
 have h0l : (List.replicate 16 (0 : Int)).length = 16 := rfl
 refine c_enter (l := [.agg (SetC x (.slice A n c)), undef, undef, undef, undef, undef, undef, undef]) Try.func37 rfl (by simp only [Try.ntmps37, List.size_toArray, List.length_cons, List.length_nil, Nat.reduceAdd, Nat.reduceSub, Array.replicate_succ, Array.replicate_zero, List.push_toArray, List.append_toArray, List.nil_append, List.cons_append]) ?_
 refine x_seq fun K1 hK1 => ?_
 refine x_region ?_
 refine m_box hS (fun w1 g1 hS => ?_)
 try simp only [opv, n1, n2, n3, n4, Value.cells, Array.toArray_toList] at hS ⊢
 refine m_alloc ti72 hS (fun w2 g2 hS => ?_)
 try simp only [opv, n1, n2, n3, n4, Value.cells, Array.toArray_toList] at hS ⊢
 replace hS : St NoB w0 w2 (.obj g2 (.cells (SetC (List.replicate 16 0) (.slice none 0 0)) 72 (0, 0)) :: _) := hS
 refine x_nil ?_
 refine hK1 _ _ ?_
 refine x_seq fun K2 hK2 => ?_
 refine x_region ?_
 first | refine s_go (m_fieldAddr Try.underlying67 (hi := ti64)) ?_ | refine s_go (m_fieldAddr_rd Try.underlying67 (hi := ti64) (hS := hS)) ?_ | refine s_go (m_fieldAddr_vec Try.underlying67 (hi := ti64) (hS := hS)) ?_
 try simp only [opv, n1, n2, n3, n4, Value.cells, Nat.zero_add, Nat.add_zero, List.getElem_toArray, List.getElem_cons_zero, List.getElem_cons_succ]
 refine s_go (m_loada_obj Try.underlying64 (hi := ti64) (hS := hS) (hfit := by rw [setC_size (by assumption)]; decide)) ?_
 try simp only [opv, n1, n2, n3, n4, Value.cells, List.getElem_toArray, List.getElem_cons_zero, List.getElem_cons_succ]
 rw [set_flo (by assumption)]
 first | refine s_go (m_fieldAddr Try.underlying67 (hi := ti65)) ?_ | refine s_go (m_fieldAddr_rd Try.underlying67 (hi := ti65) (hS := hS)) ?_ | refine s_go (m_fieldAddr_vec Try.underlying67 (hi := ti65) (hS := hS)) ?_
 try simp only [opv, n1, n2, n3, n4, Value.cells, Nat.zero_add, Nat.add_zero, List.getElem_toArray, List.getElem_cons_zero, List.getElem_cons_succ]
 refine s_go (m_load_obj Try.underlying65 (hS := hS) (hv := set_sl (by assumption) _)) ?_
 try simp only [opv, n1, n2, n3, n4, Value.cells, List.getElem_toArray, List.getElem_cons_zero, List.getElem_cons_succ]
 refine s_go (s_build_struct (cells := (SetC x (.slice A n c))) Try.underlying72 ti72 bp72 (hc := by simp only [List.map_toArray, List.map_cons, List.map_nil, opv, n1, n2, n3, n4, Value.cells, List.toList_toArray]; exact fill_set2 (by rfl) (by rfl) hx)) ?_
 try simp only [opv, n1, n2, n3, n4, Value.cells]
 refine m_store_obj ti72 (hS := hS) (hv := setC_size (by assumption) _) (h1 := set_one _ _ _ _) (hfit := by rw [setC_size (by assumption)]; omega) (hc := set_whole (by assumption) (by assumption) _ _) (h := fun w3 hS => ?_)
 try simp only [opv, n1, n2, n3, n4, Value.cells, Array.toArray_toList] at hS ⊢
 refine x_nil ?_
 refine hK2 _ _ ?_
 refine x_ret ?_
 refine r_cell_agg rfl Try.underlying72 ti72 (hS := hS) (hfit := by rw [setC_size (by assumption)]) (hR := ?_)
 exact ⟨rfl, hS.ext_of⟩
theorem c_dotsOf (w0 : World) (B : Option Addr) (d : Nat) (l : List Int) (hr2 : Rd w0 B 1 l.length (List.map (Value.int .u64) l)) (hu2 : U64s l) (hn : l.length ≤ 4000000000)  :
    CallR Try.prog 34 #[.slice B l.length d] w0 fun v w' => ∃ (D : Option Addr) (e : Nat), v = .agg (SetC (addS (List.replicate 16 0) l).1 (.slice D (addS (List.replicate 16 0) l).2.length e)) ∧ St NoB w0 w' [.vec D e 48 1 (addS (List.replicate 16 0) l).2.length (List.map (Value.int .u64) (addS (List.replicate 16 0) l).2)] := by
 have hS := St.rd1 (S := NoB) hr2
 have h0l : (List.replicate 16 (0 : Int)).length = 16 := rfl
 have hps := addS_ok VOk.zero l
 have hpl := hps.1.len
 refine c_enter (l := [.slice B l.length d, undef, undef, undef, undef, undef]) Try.func34 rfl (by simp only [Try.ntmps34, List.size_toArray, List.length_cons, List.length_nil, Nat.reduceAdd, Nat.reduceSub, Array.replicate_succ, Array.replicate_zero, List.push_toArray, List.append_toArray, List.nil_append, List.cons_append]) ?_
 refine x_seq fun K1 hK1 => ?_
 refine x_region ?_
 refine m_alloc ti72 hS (fun w1 g1 hS => ?_)
 try simp only [opv, n1, n2, n3, n4, Value.cells, Array.toArray_toList] at hS ⊢
 replace hS : St NoB w0 w1 (.obj g1 (.cells (SetC (List.replicate 16 0) (.slice none 0 0)) 72 (0, 0)) :: _) := hS
 refine x_nil ?_
 refine hK1 _ _ ?_
 refine x_seq fun K2 hK2 => ?_
 refine x_region ?_
 refine s_go (s_build_struct (cells := #[.int .u32 0, .int .u32 0, .int .u32 0, .int .u32 0, .int .u32 0, .int .u32 0, .int .u32 0, .int .u32 0, .int .u32 0, .int .u32 0, .int .u32 0, .int .u32 0, .int .u32 0, .int .u32 0, .int .u32 0, .int .u32 0, .slice none 0 0]) Try.underlying72 ti72 bp72 (hc := by simp only [List.map_toArray, List.map_cons, List.map_nil, opv, n1, n2, n3, n4, Value.cells, List.toList_toArray]; (repeat (refine fill_cons rfl rfl (Nat.le_of_ble_eq_true rfl) ?_)); rfl)) ?_
 try simp only [opv, n1, n2, n3, n4, Value.cells]
 rw [show (#[.int .u32 0, .int .u32 0, .int .u32 0, .int .u32 0, .int .u32 0, .int .u32 0, .int .u32 0, .int .u32 0, .int .u32 0, .int .u32 0, .int .u32 0, .int .u32 0, .int .u32 0, .int .u32 0, .int .u32 0, .int .u32 0, .slice none 0 0] : Array Value) = SetC (List.replicate 16 0) (.slice none 0 0) from rfl]
 replace hS := hS.rd_none none 1
 refine s_go (s_move) ?_
 try simp only [opv, n1, n2, n3, n4, Value.cells]
 refine s_call en36 ?_
 try simp only [opv, n1, n2, n3, n4, Value.cells, List.map_toArray, List.map_cons, List.map_nil, List.append_toArray, List.cons_append, List.nil_append, Array.append_empty]
 refine CallR.mono (c_dotsAdd _ (List.replicate 16 0) VOk.zero none 0 [] (hS.hasRd (by repeat (first | exact Has.head | apply Has.tail))) U64s.nil B d l (hS.hasRd (by repeat (first | exact Has.head | apply Has.tail))) hu2 (by simpa using hn)) ?_
 rintro _ w2 ⟨D, e, rfl, hC2⟩
 replace hS := hS.call hC2
 simp only [List.cons_append, List.nil_append, List.append_nil] at hS ⊢
 try simp only [opv, n1, n2, n3, n4, Value.cells]
 refine m_store_obj ti72 (hS := hS) (hv := setC_size (by assumption) _) (h1 := set_one _ _ _ _) (hfit := by rw [setC_size (by assumption)]; omega) (hc := set_whole (by assumption) (by assumption) _ _) (h := fun w3 hS => ?_)
 try simp only [opv, n1, n2, n3, n4, Value.cells, Array.toArray_toList] at hS ⊢
 refine x_nil ?_
 refine hK2 _ _ ?_
 refine x_ret ?_
 refine r_cell_agg rfl Try.underlying72 ti72 (hS := hS) (hfit := by rw [setC_size (by assumption)]) (hR := ?_)
 exact ⟨_, _, rfl, hS.sel (by repeat (first | exact Sel.nil | (refine Sel.cons (by repeat (first | exact Del.head | apply Del.tail)) ?_)))⟩
theorem c_dotsHas (w0 : World) (x : List Int) (hx : VOk x) (A : Option Addr) (c : Nat) (cl : List Int) (hr : Rd w0 A 1 cl.length (List.map (Value.int .u64) cl)) (hu : U64s cl) (hn : cl.length ≤ 4000000000) (q : Nat) (hq : q < 18446744073709551616)  :
    CallR Try.prog 40 #[.agg (SetC x (.slice A cl.length c)), .int .u64 (q : Int)] w0 fun v w' => v = .bool (decide (HasD x cl (q : Int))) ∧ Ext w0 w' := by
 have hS := St.rd1 (S := NoB) hr
 have hxl := hx.len
 obtain ⟨r, hr0⟩ : ∃ r, r = q / 4294967296 := ⟨_, rfl⟩
 obtain ⟨s, hs0⟩ : ∃ s, s = q % 4294967296 := ⟨_, rfl⟩
 have hqs : (q : Int) % 4294967296 = (s : Int) := by omega
 have hfq : flo x (q : Int) = x.getD r 0 := by rw [flo, dR_nat, hr0]
 have hsn : s < 4294967296 := by omega
 refine c_enter (l := [.agg (SetC x (.slice A cl.length c)), .int .u64 (q : Int), undef, undef, undef, undef, undef, undef, undef, undef, undef, undef, undef, undef, undef, undef, undef, undef, undef, undef, undef, undef, undef, undef, undef, undef, undef, undef]) Try.func40 rfl (by simp only [Try.ntmps40, List.size_toArray, List.length_cons, List.length_nil, Nat.reduceAdd, Nat.reduceSub, Array.replicate_succ, Array.replicate_zero, List.push_toArray, List.append_toArray, List.nil_append, List.cons_append]) ?_
 refine x_seq fun K1 hK1 => ?_
 refine x_region ?_
 refine m_box hS (fun w1 g1 hS => ?_)
 try simp only [opv, n1, n2, n3, n4, Value.cells, Array.toArray_toList] at hS ⊢
 obtain ⟨gba, hgba⟩ : ∃ z, z = g1 := ⟨_, rfl⟩
 rw [← hgba] at hS ⊢
 refine s_go (s_assign) ?_
 try simp only [opv, n1, n2, n3, n4, Value.cells]
 refine x_nil ?_
 refine hK1 _ _ ?_
 refine x_seq fun K2 hK2 => ?_
 refine x_region ?_
 refine s_go (s_move) ?_
 try simp only [opv, n1, n2, n3, n4, Value.cells]
 refine s_call en83 ?_
 try simp only [opv, n1, n2, n3, n4, Value.cells, List.map_toArray, List.map_cons, List.map_nil, List.append_toArray, List.cons_append, List.nil_append, Array.append_empty]
 refine CallR.mono (c_keyUndot q hq _) ?_
 rintro _ w2 ⟨rfl, hE2⟩
 replace hS := hS.ext hE2
 try simp only [opv, n1, n2, n3, n4, Value.cells]
 rw [← hs0]
 refine s_go (s_move) ?_
 try simp only [opv, n1, n2, n3, n4, Value.cells]
 refine s_go (s_extract (hv := rfl)) ?_
 try simp only [List.getElem_toArray, List.getElem_cons_zero, List.getElem_cons_succ]
 try simp only [opv, n1, n2, n3, n4, Value.cells]
 refine s_go (s_extract (hv := rfl)) ?_
 try simp only [List.getElem_toArray, List.getElem_cons_zero, List.getElem_cons_succ]
 try simp only [opv, n1, n2, n3, n4, Value.cells]
 refine s_go (s_assign) ?_
 try simp only [opv, n1, n2, n3, n4, Value.cells]
 refine s_go (s_assign) ?_
 try simp only [opv, n1, n2, n3, n4, Value.cells]
 refine x_nil ?_
 refine hK2 _ _ ?_
 refine x_seq fun K3 hK3 => ?_
 refine x_region ?_
 refine s_go (s_move) ?_
 try simp only [opv, n1, n2, n3, n4, Value.cells]
 refine s_call en79 ?_
 try simp only [opv, n1, n2, n3, n4, Value.cells, List.map_toArray, List.map_cons, List.map_nil, List.append_toArray, List.cons_append, List.nil_append, Array.append_empty]
 refine CallR.mono (c_dotsMay q hq _) ?_
 rintro _ w3 ⟨rfl, hE3⟩
 replace hS := hS.ext hE3
 try simp only [opv, n1, n2, n3, n4, Value.cells]
 refine s_go (s_move) ?_
 try simp only [opv, n1, n2, n3, n4, Value.cells]
 refine s_part 14 rfl (fun hp1 => ?_) (fun hp1 => ?_)
 ·
  try simp only [n3, n4]
  try simp only [decide_eq_true_eq, decide_eq_false_iff_not, Bool.not_eq_true', Bool.not_eq_false', Int.not_lt, Int.not_le, ne_eq, Decidable.not_not] at hp1
  have hM : MayD (q : Int) := by simpa using hp1
  have hdn := may_nat.1 hM
  rw [← hr0, ← hs0] at hdn
  have hxr := hx.nat r
  rw [show q / 4294967296 % 256 = r by omega]
  refine g_on (yi (t := 14) rfl rfl) ?_
  refine s_go (s_move) ?_
  try simp only [opv, n1, n2, n3, n4, Value.cells]
  refine g_on (yi (t := 14) rfl rfl) ?_
  refine s_go (s_move) ?_
  try simp only [opv, n1, n2, n3, n4, Value.cells]
  refine g_on (yi (t := 14) rfl rfl) ?_
  first | refine s_go (m_fieldAddr Try.underlying72 (hi := ti70)) ?_ | refine s_go (m_fieldAddr_rd Try.underlying72 (hi := ti70) (hS := hS)) ?_ | refine s_go (m_fieldAddr_vec Try.underlying72 (hi := ti70) (hS := hS)) ?_
  try simp only [opv, n1, n2, n3, n4, Value.cells, Nat.zero_add, Nat.add_zero, List.getElem_toArray, List.getElem_cons_zero, List.getElem_cons_succ]
  refine g_on (yi (t := 14) rfl rfl) ?_
  refine s_go (m_indexAddr_arr Try.underlying70 ti29) ?_
  try simp only [opv, n1, n2, n3, n4, Value.cells, Nat.mul_one, Nat.zero_add, Int.toNat_natCast, Int.reduceToNat]
  refine g_on (yi (t := 14) rfl rfl) ?_
  refine s_go (m_load_obj Try.underlying29 (hS := hS) (hv := set_at hxl _ (by omega))) ?_
  try simp only [opv, n1, n2, n3, n4, Value.cells, List.getElem_toArray, List.getElem_cons_zero, List.getElem_cons_succ]
  refine g_on (yi (t := 14) rfl rfl) ?_
  refine s_go (s_leq) ?_
  try simp only [opv, n1, n2, n3, n4, Value.cells]
  refine g_on (yi (t := 14) rfl rfl) ?_
  refine s_go (s_move) ?_
  try simp only [opv, n1, n2, n3, n4, Value.cells]
  refine s_part 21 rfl (fun hp2 => ?_) (fun hp2 => ?_)
  ·
   try simp only [n3, n4]
   try simp only [decide_eq_true_eq, decide_eq_false_iff_not, Bool.not_eq_true', Bool.not_eq_false', Int.not_lt, Int.not_le, ne_eq, Decidable.not_not] at hp2
   have hE : decide (HasD x cl (q : Int)) = true := decide_eq_true ⟨hM, .inl (by omega)⟩
   refine g_off (yi (t := 21) rfl rfl) ?_
   try simp only [opv, n1, n2, n3, n4, Value.cells]
   refine g_off (yi (t := 21) rfl rfl) ?_
   try simp only [opv, n1, n2, n3, n4, Value.cells]
   refine g_off (yi (t := 21) rfl rfl) ?_
   try simp only [opv, n1, n2, n3, n4, Value.cells]
   refine g_off (yi (t := 21) rfl rfl) ?_
   try simp only [opv, n1, n2, n3, n4, Value.cells]
   refine g_on (yi (t := 14) rfl rfl) ?_
   first | refine s_go (s_pick_t) ?_ | refine s_go (s_pick_f) ?_
   try simp only [opv, n1, n2, n3, n4, Value.cells]
   first | refine s_go (s_pick_t) ?_ | refine s_go (s_pick_f) ?_
   try simp only [opv, n1, n2, n3, n4, Value.cells]
   refine s_go (s_assign) ?_
   try simp only [opv, n1, n2, n3, n4, Value.cells]
   refine x_nil ?_
   refine hK3 _ _ ?_
   refine x_ret ?_
   refine r_tmp rfl ?_
   exact ⟨by rw [hE]; rfl, hS.ext_of⟩
  ·
   try simp only [n3, n4]
   try simp only [decide_eq_true_eq, decide_eq_false_iff_not, Bool.not_eq_true', Bool.not_eq_false', Int.not_lt, Int.not_le, ne_eq, Decidable.not_not] at hp2
   have hnf : ¬ (s : Int) ≤ x.getD r 0 := by simpa using hp2
   have hE : decide (HasD x cl (q : Int)) = decide ((q : Int) ∈ cl) := decide_eq_decide.2 ⟨fun h => h.2.elim (fun a => by omega) id, fun h => ⟨hM, .inr h⟩⟩
   refine g_on (yi (t := 21) rfl rfl) ?_
   first | refine s_go (m_fieldAddr Try.underlying72 (hi := ti65)) ?_ | refine s_go (m_fieldAddr_rd Try.underlying72 (hi := ti65) (hS := hS)) ?_ | refine s_go (m_fieldAddr_vec Try.underlying72 (hi := ti65) (hS := hS)) ?_
   try simp only [opv, n1, n2, n3, n4, Value.cells, Nat.zero_add, Nat.add_zero, List.getElem_toArray, List.getElem_cons_zero, List.getElem_cons_succ]
   refine g_on (yi (t := 21) rfl rfl) ?_
   refine s_go (m_load_obj Try.underlying65 (hS := hS) (hv := set_sl (by assumption) _)) ?_
   try simp only [opv, n1, n2, n3, n4, Value.cells, List.getElem_toArray, List.getElem_cons_zero, List.getElem_cons_succ]
   refine g_on (yi (t := 21) rfl rfl) ?_
   refine s_go (s_move) ?_
   try simp only [opv, n1, n2, n3, n4, Value.cells]
   refine g_on (yi (t := 21) rfl rfl) ?_
   refine s_call en85 ?_
   try simp only [opv, n1, n2, n3, n4, Value.cells, List.map_toArray, List.map_cons, List.map_nil, List.append_toArray, List.cons_append, List.nil_append, Array.append_empty]
   refine CallR.mono (c_slContains _ A c cl (hS.hasRd (by repeat (first | exact Has.head | apply Has.tail))) hu hn (q : Int)) ?_
   rintro _ w4 ⟨rfl, hE4⟩
   replace hS := hS.ext hE4
   try simp only [opv, n1, n2, n3, n4, Value.cells]
   refine g_on (yi (t := 14) rfl rfl) ?_
   first | refine s_go (s_pick_t) ?_ | refine s_go (s_pick_f) ?_
   try simp only [opv, n1, n2, n3, n4, Value.cells]
   first | refine s_go (s_pick_t) ?_ | refine s_go (s_pick_f) ?_
   try simp only [opv, n1, n2, n3, n4, Value.cells]
   refine s_go (s_assign) ?_
   try simp only [opv, n1, n2, n3, n4, Value.cells]
   refine x_nil ?_
   refine hK3 _ _ ?_
   refine x_ret ?_
   refine r_tmp rfl ?_
   exact ⟨by rw [hE]; rfl, hS.ext_of⟩
 ·
  try simp only [n3, n4]
  try simp only [decide_eq_true_eq, decide_eq_false_iff_not, Bool.not_eq_true', Bool.not_eq_false', Int.not_lt, Int.not_le, ne_eq, Decidable.not_not] at hp1
  have hE : decide (HasD x cl (q : Int)) = false := decide_eq_false (fun h => by have h1 := h.1; first | exact hp1 h1 | (simp at hp1; exact hp1 h1) | (rw [decide_eq_true h1] at hp1; cases hp1))
  refine g_off (yi (t := 14) rfl rfl) ?_
  try simp only [opv, n1, n2, n3, n4, Value.cells]
  refine g_off (yi (t := 14) rfl rfl) ?_
  try simp only [opv, n1, n2, n3, n4, Value.cells]
  refine g_off (yi (t := 14) rfl rfl) ?_
  try simp only [opv, n1, n2, n3, n4, Value.cells]
  refine g_off (yi (t := 14) rfl rfl) ?_
  try simp only [opv, n1, n2, n3, n4, Value.cells]
  refine g_off (yi (t := 14) rfl rfl) ?_
  try simp only [opv, n1, n2, n3, n4, Value.cells]
  refine g_off (yi (t := 14) rfl rfl) ?_
  try simp only [opv, n1, n2, n3, n4, Value.cells]
  refine g_off (yi (t := 14) rfl rfl) ?_
  try simp only [opv, n1, n2, n3, n4, Value.cells]
  refine g_un (yn (t := 21) rfl rfl) ?_
  try simp only [opv, n1, n2, n3, n4, Value.cells]
  refine g_un (yn (t := 21) rfl rfl) ?_
  try simp only [opv, n1, n2, n3, n4, Value.cells]
  refine g_un (yn (t := 21) rfl rfl) ?_
  try simp only [opv, n1, n2, n3, n4, Value.cells]
  refine g_un (yn (t := 21) rfl rfl) ?_
  try simp only [opv, n1, n2, n3, n4, Value.cells]
  refine g_off (yi (t := 14) rfl rfl) ?_
  try simp only [opv, n1, n2, n3, n4, Value.cells]
  first | refine s_go (s_pick_t) ?_ | refine s_go (s_pick_f) ?_
  try simp only [opv, n1, n2, n3, n4, Value.cells]
  refine s_go (s_assign) ?_
  try simp only [opv, n1, n2, n3, n4, Value.cells]
  refine x_nil ?_
  refine hK3 _ _ ?_
  refine x_ret ?_
  refine r_tmp rfl ?_
  exact ⟨by rw [hE]; rfl, hS.ext_of⟩
theorem c_dotsCount (w0 : World) (x : List Int) (hx : VOk x) (A : Option Addr) (c : Nat) (cl : List Int) (hr : Rd w0 A 1 cl.length (List.map (Value.int .u64) cl)) (hu : U64s cl) (hn : cl.length ≤ 4000000000)  :
    CallR Try.prog 42 #[.agg (SetC x (.slice A cl.length c))] w0 fun v w' => v = .int .u64 (cntS (addS x cl)) ∧ Ext w0 w' := by
 have hS := St.rd1 (S := NoB) hr
 have hxl := hx.len
 have hps := addS_ok hx cl
 obtain ⟨hpv, hpu, hpn⟩ := hps
 have hpl := hpv.len
 have hpnat := hpv.nat
 refine c_enter (l := [.agg (SetC x (.slice A cl.length c)), undef, undef, undef, undef, undef, undef, undef, undef, undef, undef, undef, undef, undef, undef, undef, undef, undef, undef, undef, undef, undef, undef]) Try.func42 rfl (by simp only [Try.ntmps42, List.size_toArray, List.length_cons, List.length_nil, Nat.reduceAdd, Nat.reduceSub, Array.replicate_succ, Array.replicate_zero, List.push_toArray, List.append_toArray, List.nil_append, List.cons_append]) ?_
 refine x_seq fun K1 hK1 => ?_
 refine x_region ?_
 refine m_box hS (fun w1 g1 hS => ?_)
 try simp only [opv, n1, n2, n3, n4, Value.cells, Array.toArray_toList] at hS ⊢
 obtain ⟨gba, hgba⟩ : ∃ z, z = g1 := ⟨_, rfl⟩
 rw [← hgba] at hS ⊢
 replace hS := hS.rd_none none 1
 refine s_go (s_assign) ?_
 try simp only [opv, n1, n2, n3, n4, Value.cells]
 refine x_nil ?_
 refine hK1 _ _ ?_
 refine x_seq fun K2 hK2 => ?_
 refine x_region ?_
 refine s_go (m_load_row Try.underlying72 (hi := ti72) (hS := hS) (hfit := by rw [setC_size (by assumption)])) ?_
 try simp only [opv, n1, n2, n3, n4, Value.cells, List.getElem_toArray, List.getElem_cons_zero, List.getElem_cons_succ]
 refine s_call en36 ?_
 try simp only [opv, n1, n2, n3, n4, Value.cells, List.map_toArray, List.map_cons, List.map_nil, List.append_toArray, List.cons_append, List.nil_append, Array.append_empty]
 refine CallR.mono (c_dotsAdd _ x hx A c cl (hS.hasRd (by repeat (first | exact Has.head | apply Has.tail))) hu none 0 [] (hS.hasRd (by repeat (first | exact Has.head | apply Has.tail))) U64s.nil (by rw [List.length_nil]; omega)) ?_
 rintro _ w2 ⟨D, e, rfl, hC2⟩
 replace hS := hS.call hC2
 simp only [List.cons_append, List.nil_append, List.append_nil] at hS ⊢
 try simp only [opv, n1, n2, n3, n4, Value.cells]
 refine m_store_obj ti72 (hS := hS) (hv := setC_size (by assumption) _) (h1 := set_one _ _ _ _) (hfit := by rw [setC_size (by assumption)]; omega) (hc := set_whole (by assumption) (by assumption) _ _) (h := fun w3 hS => ?_)
 try simp only [opv, n1, n2, n3, n4, Value.cells, Array.toArray_toList] at hS ⊢
 refine x_nil ?_
 refine hK2 _ _ ?_
 refine x_seq fun K3 hK3 => ?_
 refine x_region ?_
 first | refine s_go (m_fieldAddr Try.underlying72 (hi := ti65)) ?_ | refine s_go (m_fieldAddr_rd Try.underlying72 (hi := ti65) (hS := hS)) ?_ | refine s_go (m_fieldAddr_vec Try.underlying72 (hi := ti65) (hS := hS)) ?_
 try simp only [opv, n1, n2, n3, n4, Value.cells, Nat.zero_add, Nat.add_zero, List.getElem_toArray, List.getElem_cons_zero, List.getElem_cons_succ]
 refine s_go (m_load_obj Try.underlying65 (hS := hS) (hv := set_sl (by assumption) _)) ?_
 try simp only [opv, n1, n2, n3, n4, Value.cells, List.getElem_toArray, List.getElem_cons_zero, List.getElem_cons_succ]
 refine s_go (s_len_sl Try.underlying65) ?_
 try simp only [opv, n1, n2, n3, n4, Value.cells]
 refine s_go (s_conv Try.underlying3 Try.underlying48 (hc := wr_u64 (by omega) (by omega))) ?_
 try simp only [opv, n1, n2, n3, n4, Value.cells]
 refine s_go (s_assign) ?_
 try simp only [opv, n1, n2, n3, n4, Value.cells]
 refine x_nil ?_
 refine hK3 _ _ ?_
 refine x_seq fun K4 hK4 => ?_
 refine x_seq fun K5 hK5 => ?_
 refine x_region ?_
 first | refine s_go (m_fieldAddr Try.underlying72 (hi := ti70)) ?_ | refine s_go (m_fieldAddr_rd Try.underlying72 (hi := ti70) (hS := hS)) ?_ | refine s_go (m_fieldAddr_vec Try.underlying72 (hi := ti70) (hS := hS)) ?_
 try simp only [opv, n1, n2, n3, n4, Value.cells, Nat.zero_add, Nat.add_zero, List.getElem_toArray, List.getElem_cons_zero, List.getElem_cons_succ]
 refine s_go (m_loada_obj Try.underlying70 (hi := ti70) (hS := hS) (hfit := by rw [setC_size (by assumption)]; decide)) ?_
 try simp only [opv, n1, n2, n3, n4, Value.cells, List.getElem_toArray, List.getElem_cons_zero, List.getElem_cons_succ]
 rw [set_flo (by assumption)]
 refine s_go (s_move) ?_
 try simp only [opv, n1, n2, n3, n4, Value.cells]
 refine x_nil ?_
 refine hK5 _ _ ?_
 refine x_block ?_
 refine x_loop [3, 5, 14, 15, 16, 17, 18, 19, 20, 21] (fun m f w => ∃ k : Nat, k ≤ 16 ∧ m = 16 - k ∧ f 14 = .int .i64 (k : Int) ∧ f 3 = .int .u64 (((addS x cl).2.length : Int) + ((addS x cl).1.take k).sum) ∧ St NoB w0 w [.obj gba (.cells (SetC (addS x cl).1 (.slice D (addS x cl).2.length e)) 72 (0, 0)), .vec D e 48 1 (addS x cl).2.length (List.map (Value.int .u64) (addS x cl).2)]) (16) ?init1 (fun m1 f1 wl1 hI => ?_)
 case init1 =>
  try simp only [opv, n1, n2, n3, n4, Value.cells]
  exact ⟨0, by omega, rfl, rfl, by simp, hS.sel (by repeat (first | exact Sel.nil | (refine Sel.cons (by repeat (first | exact Del.head | apply Del.tail)) ?_)))⟩
 obtain ⟨k, hk, hmk, hfi, h3, hS⟩ := hI
 simp only [clob, List.foldl, n3, n4, hfi, h3]
 have hsb := sum_bd hpnat (k := k) (by omega)
 have hkn := hpnat k
 refine x_seq fun K6 hK6 => ?_
 refine x_region ?_
 refine s_go (s_lss) ?_
 try simp only [opv, n1, n2, n3, n4, Value.cells]
 refine x_nil ?_
 refine hK6 _ _ ?_
 refine x_seq fun K7 hK7 => ?_
 refine x_cond (ht := fun hc1 => ?_) (hf := fun hc1 => ?_)
 ·
  try simp only [decide_eq_true_eq, decide_eq_false_iff_not, Bool.not_eq_true', Bool.not_eq_false', Int.not_lt, Int.not_le, ne_eq, Decidable.not_not, bne_iff_ne, beq_iff_eq, not_true_eq_false, not_false_eq_true] at hc1
  refine x_skip ?_
  refine hK7 _ _ ?_
  refine x_seq fun K8 hK8 => ?_
  refine x_block ?_
  refine x_seq fun K9 hK9 => ?_
  refine x_region ?_
  refine s_go (s_index_one Try.underlying70 ti29 Try.underlying29 (hv := ic_get (by omega))) ?_
  try simp only [opv, n1, n2, n3, n4, Value.cells, Nat.mul_one, Nat.zero_add, Int.toNat_natCast, Int.reduceToNat]
  refine s_go (s_assign) ?_
  try simp only [opv, n1, n2, n3, n4, Value.cells]
  refine x_nil ?_
  refine hK9 _ _ ?_
  refine x_region ?_
  refine s_go (s_move) ?_
  try simp only [opv, n1, n2, n3, n4, Value.cells]
  refine s_go (s_move) ?_
  try simp only [opv, n1, n2, n3, n4, Value.cells]
  refine s_go (s_conv Try.underlying29 Try.underlying48 (hc := wr_u64 (by omega) (by omega))) ?_
  try simp only [opv, n1, n2, n3, n4, Value.cells]
  refine s_go (s_add (hc := wr_u64 (by omega) (by omega))) ?_
  try simp only [opv, n1, n2, n3, n4, Value.cells]
  refine s_go (s_assign) ?_
  try simp only [opv, n1, n2, n3, n4, Value.cells]
  refine x_nil ?_
  refine hK8 _ _ ?_
  refine x_region ?_
  refine s_go (s_add (hc := by first | exact wr_i64 (by omega) (by omega) | rfl)) ?_
  try simp only [opv, n1, n2, n3, n4, Value.cells]
  refine s_go (s_move) ?_
  try simp only [opv, n1, n2, n3, n4, Value.cells]
  refine x_nil ?_
  refine loop_back (m' := 16 - (k + 1)) (by simp only [clob, List.foldl, n1, n2, n3, n4]) ?_ ?_
  · try simp only [opv, n1, n2, n3, n4, Value.cells]
    exact ⟨k + 1, by omega, by omega, by rfl, by rw [sum_take (by omega), Int.add_assoc], hS⟩
  · omega
 ·
  try simp only [decide_eq_true_eq, decide_eq_false_iff_not, Bool.not_eq_true', Bool.not_eq_false', Int.not_lt, Int.not_le, ne_eq, Decidable.not_not, bne_iff_ne, beq_iff_eq, not_true_eq_false, not_false_eq_true] at hc1
  obtain rfl : k = 16 := by omega
  rw [List.take_of_length_le (by omega)]
  refine x_exit (look_here ?_)
  refine hK4 _ _ ?_
  refine x_seq fun K10 hK10 => ?_
  refine x_region ?_
  refine s_go (s_move) ?_
  try simp only [opv, n1, n2, n3, n4, Value.cells]
  refine s_go (s_assign) ?_
  try simp only [opv, n1, n2, n3, n4, Value.cells]
  refine x_nil ?_
  refine hK10 _ _ ?_
  refine x_ret ?_
  refine r_tmp rfl ?_
  exact ⟨rfl, hS.ext_of⟩
theorem c_dotsSame (w0 : World) (x y : List Int) (hx : VOk x) (hy : VOk y) (A : Option Addr) (c : Nat) (cl : List Int) (hr : Rd w0 A 1 cl.length (List.map (Value.int .u64) cl)) (hu : U64s cl) (B : Option Addr) (d : Nat) (cm : List Int) (hr2 : Rd w0 B 1 cm.length (List.map (Value.int .u64) cm)) (hu2 : U64s cm) (hn : cl.length + cm.length ≤ 4000000000)  :
    CallR Try.prog 46 #[.agg (SetC x (.slice A cl.length c)), .agg (SetC y (.slice B cm.length d))] w0 fun v w' => v = .bool (decide (addS x cl = addS y cm)) ∧ Ext w0 w' := by
 have hS := St.rd2 (S := NoB) hr hr2
 have hxl := hx.len
 have hyl := hy.len
 have h0l : (List.replicate 16 (0 : Int)).length = 16 := rfl
 have hpx := addS_ok hx cl
 have hpy := addS_ok hy cm
 have hpxl := hpx.1.len
 have hpyl := hpy.1.len
 have hpxu := hpx.2.1
 have hpyu := hpy.2.1
 have hpxn := hpx.2.2
 have hpyn := hpy.2.2
 refine c_enter (l := [.agg (SetC x (.slice A cl.length c)), .agg (SetC y (.slice B cm.length d)), undef, undef, undef, undef, undef, undef, undef, undef]) Try.func46 rfl (by simp only [Try.ntmps46, List.size_toArray, List.length_cons, List.length_nil, Nat.reduceAdd, Nat.reduceSub, Array.replicate_succ, Array.replicate_zero, List.push_toArray, List.append_toArray, List.nil_append, List.cons_append]) ?_
 refine x_seq fun K1 hK1 => ?_
 refine x_region ?_
 refine m_box hS (fun w1 g1 hS => ?_)
 try simp only [opv, n1, n2, n3, n4, Value.cells, Array.toArray_toList] at hS ⊢
 obtain ⟨gx, hgx⟩ : ∃ z, z = g1 := ⟨_, rfl⟩
 rw [← hgx] at hS ⊢
 refine m_box hS (fun w2 g2 hS => ?_)
 try simp only [opv, n1, n2, n3, n4, Value.cells, Array.toArray_toList] at hS ⊢
 obtain ⟨gy, hgy⟩ : ∃ z, z = g2 := ⟨_, rfl⟩
 rw [← hgy] at hS ⊢
 replace hS := hS.rd_none none 1
 refine s_go (s_assign) ?_
 try simp only [opv, n1, n2, n3, n4, Value.cells]
 refine x_nil ?_
 refine hK1 _ _ ?_
 refine x_seq fun K2 hK2 => ?_
 refine x_mixed_c (Lc := [.obj gx (.cells (SetC x (.slice A cl.length c)) 72 (0, 0)), .obj gy (.cells (SetC y (.slice B cm.length d)) 72 (0, 0)), .rd A 1 cl.length (List.map (Value.int .u64) cl), .rd B 1 cm.length (List.map (Value.int .u64) cm)]) [] 0 [4, 5, 6, 7, 8, 9] (fun f w => f 4 = .bool (decide (addS x cl = addS y cm)) ∧ Ext w0 w) (by kernel_rfl) (by kernel_rfl) (by kernel_rfl) (by decide) hS (fun w3 hS => ?mixpre101) ?mixrest101
 case mixpre101 =>
  refine p_nil ?_
  simp only [List.length_cons, List.length_nil, Nat.reduceAdd, Nat.reduceSub]
  refine any_go (i := 0) (by rfl) (by decide +kernel) (by decide +kernel) noLate_nil (go_yields w_none (fun w hS => m_load_row Try.underlying72 (hi := ti72) (hS := hS) (hfit := by rw [setC_size (by assumption)]))) ?_
  try simp only [opv, n1, n2, n3, n4, Value.cells, List.getElem_toArray, List.getElem_cons_zero, List.getElem_cons_succ]
  refine any_go (i := 2) (by rfl) (by decide +kernel) (by decide +kernel) noLate_nil (go_yields w_none (fun w hS => m_load_row Try.underlying72 (hi := ti72) (hS := hS) (hfit := by rw [setC_size (by assumption)]))) ?_
  try simp only [opv, n1, n2, n3, n4, Value.cells, List.getElem_toArray, List.getElem_cons_zero, List.getElem_cons_succ]
  refine any_step [1] (by kernel_rfl) (by decide) (fun w4 hE => ⟨fun _ => (hS.ext hE).sel (by repeat (first | exact Sel.nil | (refine Sel.cons (by repeat (first | exact Del.head | apply Del.tail)) ?_))), ?_⟩)
  replace hS := hS.ext hE
  intro i hi
  simp only [List.mem_cons, List.not_mem_nil, or_false] at hi
  subst hi
  ·
   refine any_op (by rfl) ?_
   refine s_call en36 ?_
   try simp only [opv, n1, n2, n3, n4, Value.cells, List.map_toArray, List.map_cons, List.map_nil, List.append_toArray, List.cons_append, List.nil_append, Array.append_empty]
   refine CallR.mono (c_dotsAdd _ x hx A c cl (hS.hasRd (by repeat (first | exact Has.head | apply Has.tail))) hu none 0 [] (hS.hasRd (by repeat (first | exact Has.head | apply Has.tail))) U64s.nil (by rw [List.length_nil]; omega)) ?_
   rintro _ w5 ⟨D, e, rfl, hC5⟩
   replace hS := hS.call hC5
   simp only [List.cons_append, List.nil_append, List.append_nil] at hS ⊢
   try simp only [opv, n1, n2, n3, n4, Value.cells]
   refine x_nil ?_
   refine any_step [3] (by kernel_rfl) (by decide) (fun w6 hE => ⟨fun _ => (hS.ext hE).sel (by repeat (first | exact Sel.nil | (refine Sel.cons (by repeat (first | exact Del.head | apply Del.tail)) ?_))), ?_⟩)
   replace hS := hS.ext hE
   intro i hi
   simp only [List.mem_cons, List.not_mem_nil, or_false] at hi
   subst hi
   ·
    refine any_op (by rfl) ?_
    refine s_call en36 ?_
    try simp only [opv, n1, n2, n3, n4, Value.cells, List.map_toArray, List.map_cons, List.map_nil, List.append_toArray, List.cons_append, List.nil_append, Array.append_empty]
    refine CallR.mono (c_dotsAdd _ y hy B d cm (hS.hasRd (by repeat (first | exact Has.head | apply Has.tail))) hu2 none 0 [] (hS.hasRd (by repeat (first | exact Has.head | apply Has.tail))) U64s.nil (by rw [List.length_nil]; omega)) ?_
    rintro _ w7 ⟨D2, e2, rfl, hC7⟩
    replace hS := hS.call hC7
    simp only [List.cons_append, List.nil_append, List.append_nil] at hS ⊢
    try simp only [opv, n1, n2, n3, n4, Value.cells]
    refine x_nil ?_
    refine any_step [4] (by kernel_rfl) (by decide) (fun w8 hE => ⟨fun _ => (hS.ext hE).sel (by repeat (first | exact Sel.nil | (refine Sel.cons (by repeat (first | exact Del.head | apply Del.tail)) ?_))), ?_⟩)
    replace hS := hS.ext hE
    intro i hi
    simp only [List.mem_cons, List.not_mem_nil, or_false] at hi
    subst hi
    ·
     refine any_op (by rfl) ?_
     refine s_call en84 ?_
     try simp only [opv, n1, n2, n3, n4, Value.cells, List.map_toArray, List.map_cons, List.map_nil, List.append_toArray, List.cons_append, List.nil_append, Array.append_empty]
     refine CallR.mono (c_dotsAlike _ _ _ hpxl hpyl D e _ (hS.vecRd (by repeat (first | exact Has.head | apply Has.tail))) hpxu D2 e2 _ (hS.vecRd (by repeat (first | exact Has.head | apply Has.tail))) hpyu (by omega)) ?_
     rintro _ w9 ⟨rfl, hE9⟩
     replace hS := hS.ext hE9
     try simp only [opv, n1, n2, n3, n4, Value.cells]
     refine x_nil ?_
     refine any_go (i := 5) (by rfl) (by decide +kernel) (by decide +kernel) noLate_nil (go_yields w_none (fun w hS => s_assign)) ?_
     try simp only [opv, n1, n2, n3, n4, Value.cells]
     refine any_nil (by kernel_rfl) (fun w10 hE => ?_)
     replace hS := hS.ext hE
     refine ⟨fun _ => hS.sel (by repeat (first | exact Sel.nil | (refine Sel.cons (by repeat (first | exact Del.head | apply Del.tail)) ?_))), ?_⟩
     refine mix_leaf (by simp only [clob, List.foldl, n1, n2, n3, n4]) ?_
     try simp only [n1, n2]
     exact ⟨by first | trivial | rfl, hS.ext_of⟩
 intro fm1 w11 hM
 obtain ⟨h4, hEE⟩ := hM
 simp only [clob, List.foldl, n3, n4, h4]
 refine hK2 _ _ ?_
 refine x_ret ?_
 refine r_tmp rfl ?_
 exact ⟨rfl, hEE⟩
theorem c_dotsJoin (w0 : World) (x y : List Int) (hx : VOk x) (hy : VOk y) (A : Option Addr) (c : Nat) (cl : List Int) (hr : Rd w0 A 1 cl.length (List.map (Value.int .u64) cl)) (hu : U64s cl) (B : Option Addr) (d : Nat) (cm : List Int) (hr2 : Rd w0 B 1 cm.length (List.map (Value.int .u64) cm)) (hu2 : U64s cm) (hn : cl.length + cm.length ≤ 4000000000)  :
    CallR Try.prog 44 #[.agg (SetC x (.slice A cl.length c)), .agg (SetC y (.slice B cm.length d))] w0 fun v w' => ∃ (D : Option Addr) (e : Nat), v = .agg (SetC (joinS (x, cl) (y, cm)).1 (.slice D (joinS (x, cl) (y, cm)).2.length e)) ∧ St NoB w0 w' [.vec D e 48 1 (joinS (x, cl) (y, cm)).2.length (List.map (Value.int .u64) (joinS (x, cl) (y, cm)).2)] := by
 have hS := St.rd2 (S := NoB) hr hr2
 have hxl := hx.len
 have hyl := hy.len
 have h0l : (List.replicate 16 (0 : Int)).length = 16 := rfl
 have hpx := addS_ok hx cl
 have hpy := addS_ok hy cm
 have hpxl := hpx.1.len
 have hpyl := hpy.1.len
 have hpxu := hpx.2.1
 have hpyu := hpy.2.1
 have hpxn := hpx.2.2
 have hpyn := hpy.2.2
 have hvj := vok_join hx hy
 have hvjl := hvj.len
 have hjo := addS_ok hvj (cl ++ cm)
 have hjl := hjo.1.len
 have hucm := hu.app hu2
 have hlcm : (cl ++ cm).length = cl.length + cm.length := List.length_append ..
 refine c_enter (l := [.agg (SetC x (.slice A cl.length c)), .agg (SetC y (.slice B cm.length d)), undef, undef, undef, undef, undef, undef, undef, undef, undef, undef, undef, undef, undef, undef, undef, undef]) Try.func44 rfl (by simp only [Try.ntmps44, List.size_toArray, List.length_cons, List.length_nil, Nat.reduceAdd, Nat.reduceSub, Array.replicate_succ, Array.replicate_zero, List.push_toArray, List.append_toArray, List.nil_append, List.cons_append]) ?_
 refine x_seq fun K1 hK1 => ?_
 refine x_region ?_
 refine m_box hS (fun w1 g1 hS => ?_)
 try simp only [opv, n1, n2, n3, n4, Value.cells, Array.toArray_toList] at hS ⊢
 obtain ⟨gx, hgx⟩ : ∃ z, z = g1 := ⟨_, rfl⟩
 rw [← hgx] at hS ⊢
 refine m_box hS (fun w2 g2 hS => ?_)
 try simp only [opv, n1, n2, n3, n4, Value.cells, Array.toArray_toList] at hS ⊢
 obtain ⟨gy, hgy⟩ : ∃ z, z = g2 := ⟨_, rfl⟩
 rw [← hgy] at hS ⊢
 refine m_alloc ti72 hS (fun w3 g3 hS => ?_)
 try simp only [opv, n1, n2, n3, n4, Value.cells, Array.toArray_toList] at hS ⊢
 replace hS : St NoB w0 w3 (.obj g3 (.cells (SetC (List.replicate 16 0) (.slice none 0 0)) 72 (0, 0)) :: _) := hS
 obtain ⟨gbr, hgbr⟩ : ∃ z, z = g3 := ⟨_, rfl⟩
 rw [← hgbr] at hS ⊢
 replace hS := hS.rd_none none 1
 refine x_nil ?_
 refine hK1 _ _ ?_
 refine x_seq fun K2 hK2 => ?_
 refine x_mixed_c (Lc := [.obj gx (.cells (SetC x (.slice A cl.length c)) 72 (0, 0)), .obj gy (.cells (SetC y (.slice B cm.length d)) 72 (0, 0)), .rd A 1 cl.length (List.map (Value.int .u64) cl), .rd B 1 cm.length (List.map (Value.int .u64) cm), .rd none 1 0 []]) [] 0 [5, 6, 7, 8, 9, 10, 11, 12, 13, 14, 15, 16, 17] (fun f w => ∃ (D : Option Addr) (e : Nat), St NoB w0 w [.obj gbr (.cells (SetC (joinS (x, cl) (y, cm)).1 (.slice D (joinS (x, cl) (y, cm)).2.length e)) 72 (0, 0)), .vec D e 48 1 (joinS (x, cl) (y, cm)).2.length (List.map (Value.int .u64) (joinS (x, cl) (y, cm)).2)]) (by kernel_rfl) (by kernel_rfl) (by kernel_rfl) (by decide) hS (fun w4 hS => ?mixpre101) ?mixrest101
 case mixpre101 =>
  refine p_nil ?_
  simp only [List.length_cons, List.length_nil, Nat.reduceAdd, Nat.reduceSub]
  first | refine any_go (i := 0) (by rfl) (by decide +kernel) (by decide +kernel) noLate_nil (go_yields w_none (fun w hS => m_fieldAddr Try.underlying72 (hi := ti70))) ?_ | refine any_go (i := 0) (by rfl) (by decide +kernel) (by decide +kernel) noLate_nil (go_yields w_none (fun w hS => m_fieldAddr_rd Try.underlying72 (hi := ti70) (hS := hS))) ?_ | refine any_go (i := 0) (by rfl) (by decide +kernel) (by decide +kernel) noLate_nil (go_yields w_none (fun w hS => m_fieldAddr_vec Try.underlying72 (hi := ti70) (hS := hS))) ?_
  try simp only [opv, n1, n2, n3, n4, Value.cells, Nat.zero_add, Nat.add_zero, List.getElem_toArray, List.getElem_cons_zero, List.getElem_cons_succ]
  refine any_go (i := 1) (by rfl) (by decide +kernel) (by decide +kernel) noLate_nil (go_yields w_none (fun w hS => m_loada_obj Try.underlying70 (hi := ti70) (hS := hS) (hfit := by rw [setC_size (by assumption)]; decide))) ?_
  try simp only [opv, n1, n2, n3, n4, Value.cells, List.getElem_toArray, List.getElem_cons_zero, List.getElem_cons_succ]
  rw [set_flo (by assumption)]
  first | refine any_go (i := 2) (by rfl) (by decide +kernel) (by decide +kernel) noLate_nil (go_yields w_none (fun w hS => m_fieldAddr Try.underlying72 (hi := ti70))) ?_ | refine any_go (i := 2) (by rfl) (by decide +kernel) (by decide +kernel) noLate_nil (go_yields w_none (fun w hS => m_fieldAddr_rd Try.underlying72 (hi := ti70) (hS := hS))) ?_ | refine any_go (i := 2) (by rfl) (by decide +kernel) (by decide +kernel) noLate_nil (go_yields w_none (fun w hS => m_fieldAddr_vec Try.underlying72 (hi := ti70) (hS := hS))) ?_
  try simp only [opv, n1, n2, n3, n4, Value.cells, Nat.zero_add, Nat.add_zero, List.getElem_toArray, List.getElem_cons_zero, List.getElem_cons_succ]
  refine any_go (i := 3) (by rfl) (by decide +kernel) (by decide +kernel) noLate_nil (go_yields w_none (fun w hS => m_loada_obj Try.underlying70 (hi := ti70) (hS := hS) (hfit := by rw [setC_size (by assumption)]; decide))) ?_
  try simp only [opv, n1, n2, n3, n4, Value.cells, List.getElem_toArray, List.getElem_cons_zero, List.getElem_cons_succ]
  rw [set_flo (by assumption)]
  apply any_go (i := 4) (by rfl) (by decide +kernel) (by decide +kernel) noLate_nil (call_yields w_none en86 ?H1) ?K1
  case H1 =>
    intro w hS
    try simp only [opv, n1, n2, n3, n4, List.map_toArray, List.map_cons, List.map_nil, List.append_toArray, List.cons_append, List.nil_append, Array.append_empty]
    refine CallR.mono (c_vecJoin x y hxl hyl _) ?_
    rintro _ w1 ⟨rfl, hE⟩; exact ⟨rfl, hE⟩
  try simp only [opv, n1, n2, n3, n4, Value.cells]
  refine any_go (i := 5) (by rfl) (by decide +kernel) (by decide +kernel) noLate_nil (go_yields w_none (fun w hS => s_build_struct (cells := (SetC (vjoin x y) (.slice none 0 0))) Try.underlying72 ti72 bp72 (hc := by simp only [List.map_toArray, List.map_cons, List.map_nil, opv, n1, n2, n3, n4, Value.cells, List.toList_toArray]; exact fill_set (by rfl) hvjl))) ?_
  try simp only [opv, n1, n2, n3, n4, Value.cells]
  first | refine any_go (i := 6) (by rfl) (by decide +kernel) (by decide +kernel) noLate_nil (go_yields w_none (fun w hS => m_fieldAddr Try.underlying72 (hi := ti65))) ?_ | refine any_go (i := 6) (by rfl) (by decide +kernel) (by decide +kernel) noLate_nil (go_yields w_none (fun w hS => m_fieldAddr_rd Try.underlying72 (hi := ti65) (hS := hS))) ?_ | refine any_go (i := 6) (by rfl) (by decide +kernel) (by decide +kernel) noLate_nil (go_yields w_none (fun w hS => m_fieldAddr_vec Try.underlying72 (hi := ti65) (hS := hS))) ?_
  try simp only [opv, n1, n2, n3, n4, Value.cells, Nat.zero_add, Nat.add_zero, List.getElem_toArray, List.getElem_cons_zero, List.getElem_cons_succ]
  refine any_go (i := 7) (by rfl) (by decide +kernel) (by decide +kernel) noLate_nil (go_yields w_none (fun w hS => m_load_obj Try.underlying65 (hS := hS) (hv := set_sl (by assumption) _))) ?_
  try simp only [opv, n1, n2, n3, n4, Value.cells, List.getElem_toArray, List.getElem_cons_zero, List.getElem_cons_succ]
  first | refine any_go (i := 8) (by rfl) (by decide +kernel) (by decide +kernel) noLate_nil (go_yields w_none (fun w hS => m_fieldAddr Try.underlying72 (hi := ti65))) ?_ | refine any_go (i := 8) (by rfl) (by decide +kernel) (by decide +kernel) noLate_nil (go_yields w_none (fun w hS => m_fieldAddr_rd Try.underlying72 (hi := ti65) (hS := hS))) ?_ | refine any_go (i := 8) (by rfl) (by decide +kernel) (by decide +kernel) noLate_nil (go_yields w_none (fun w hS => m_fieldAddr_vec Try.underlying72 (hi := ti65) (hS := hS))) ?_
  try simp only [opv, n1, n2, n3, n4, Value.cells, Nat.zero_add, Nat.add_zero, List.getElem_toArray, List.getElem_cons_zero, List.getElem_cons_succ]
  refine any_go (i := 9) (by rfl) (by decide +kernel) (by decide +kernel) noLate_nil (go_yields w_none (fun w hS => m_load_obj Try.underlying65 (hS := hS) (hv := set_sl (by assumption) _))) ?_
  try simp only [opv, n1, n2, n3, n4, Value.cells, List.getElem_toArray, List.getElem_cons_zero, List.getElem_cons_succ]
  refine any_step [10] (by kernel_rfl) (by decide) (fun w5 hE => ⟨fun _ => (hS.ext hE).sel (by repeat (first | exact Sel.nil | (refine Sel.cons (by repeat (first | exact Del.head | apply Del.tail)) ?_))), ?_⟩)
  replace hS := hS.ext hE
  intro i hi
  simp only [List.mem_cons, List.not_mem_nil, or_false] at hi
  subst hi
  ·
   refine any_op (by rfl) ?_
   refine m_buildRow (cells := #[_, _]) Try.underlying139 ti65 (hc := by simp only [List.map_toArray, List.map_cons, List.map_nil, opv, n1, n2, n3, n4, Value.cells, List.toList_toArray]; (repeat (refine fill_cons rfl rfl (Nat.le_of_ble_eq_true rfl) ?_)); rfl) (hS := hS) (h := fun w6 g6 hS => ?_)
   try simp only [opv, n1, n2, n3, n4, Value.cells, Array.toArray_toList] at hS ⊢
   replace hS := hS.obj_rd (sz := 1) (n := 2) rfl .head
   refine x_nil ?_
   refine any_step [11] (by kernel_rfl) (by decide) (fun w7 hE => ⟨fun _ => (hS.ext hE).sel (by repeat (first | exact Sel.nil | (refine Sel.cons (by repeat (first | exact Del.head | apply Del.tail)) ?_))), ?_⟩)
   replace hS := hS.ext hE
   intro i hi
   simp only [List.mem_cons, List.not_mem_nil, or_false] at hi
   subst hi
   ·
    refine any_op (by rfl) ?_
    refine s_call en78 ?_
    try simp only [opv, n1, n2, n3, n4, Value.cells, List.map_toArray, List.map_cons, List.map_nil, List.append_toArray, List.cons_append, List.nil_append, Array.append_empty]
    refine CallR.mono (c_slConcat _ _ _ A c cl (hS.hasRd (by repeat (first | exact Has.head | apply Has.tail))) hu B d cm (hS.hasRd (by repeat (first | exact Has.head | apply Has.tail))) hu2 (hS.hasRd (by repeat (first | exact Has.head | apply Has.tail))) hn) ?_
    rintro _ w8 ⟨D1, e1, rfl, hC8⟩
    replace hS := hS.call hC8
    simp only [List.cons_append, List.nil_append] at hS
    try simp only [opv, n1, n2, n3, n4, Value.cells]
    refine x_nil ?_
    refine any_step [12] (by kernel_rfl) (by decide) (fun w9 hE => ⟨fun _ => (hS.ext hE).sel (by repeat (first | exact Sel.nil | (refine Sel.cons (by repeat (first | exact Del.head | apply Del.tail)) ?_))), ?_⟩)
    replace hS := hS.ext hE
    intro i hi
    simp only [List.mem_cons, List.not_mem_nil, or_false] at hi
    subst hi
    ·
     refine any_op (by rfl) ?_
     refine s_call en36 ?_
     try simp only [opv, n1, n2, n3, n4, Value.cells, List.map_toArray, List.map_cons, List.map_nil, List.append_toArray, List.cons_append, List.nil_append, Array.append_empty]
     refine CallR.mono (c_dotsAdd _ (vjoin x y) hvj none 0 [] (hS.hasRd (by repeat (first | exact Has.head | apply Has.tail))) U64s.nil D1 e1 (cl ++ cm) (hS.vecRd (by repeat (first | exact Has.head | apply Has.tail))) hucm (by rw [List.length_nil]; omega)) ?_
     rintro _ w10 ⟨D, e, rfl, hC10⟩
     replace hS := hS.call hC10
     simp only [List.cons_append, List.nil_append, List.append_nil] at hS ⊢
     try simp only [opv, n1, n2, n3, n4, Value.cells]
     refine x_nil ?_
     refine any_step [13] (by kernel_rfl) (by decide) (fun w11 hE => ⟨fun _ => (hS.ext hE).sel (by repeat (first | exact Sel.nil | (refine Sel.cons (by repeat (first | exact Del.head | apply Del.tail)) ?_))), ?_⟩)
     replace hS := hS.ext hE
     intro i hi
     simp only [List.mem_cons, List.not_mem_nil, or_false] at hi
     subst hi
     ·
      refine any_op (by rfl) ?_
      refine m_store_obj ti72 (hS := hS) (hv := setC_size (by assumption) _) (h1 := set_one _ _ _ _) (hfit := by rw [setC_size (by assumption)]; omega) (hc := set_whole (by assumption) (by assumption) _ _) (h := fun w12 hS => ?_)
      try simp only [opv, n1, n2, n3, n4, Value.cells, Array.toArray_toList] at hS ⊢
      refine x_nil ?_
      refine any_nil (by kernel_rfl) (fun w13 hE => ?_)
      replace hS := hS.ext hE
      refine ⟨fun _ => hS.sel (by repeat (first | exact Sel.nil | (refine Sel.cons (by repeat (first | exact Del.head | apply Del.tail)) ?_))), ?_⟩
      refine mix_leaf (by simp only [clob, List.foldl, n1, n2, n3, n4]) ?_
      try simp only [n1, n2]
      exact ⟨_, _, hS.sel (by repeat (first | exact Sel.nil | (refine Sel.cons (by repeat (first | exact Del.head | apply Del.tail)) ?_)))⟩
 intro fm1 w14 hM
 obtain ⟨D, e, hS⟩ := hM
 simp only [clob, List.foldl, n3, n4]
 refine hK2 _ _ ?_
 refine x_ret ?_
 refine r_cell_agg rfl Try.underlying72 ti72 (hS := hS) (hfit := by rw [setC_size (by assumption)]) (hR := ?_)
 exact ⟨_, _, rfl, hS.sel (by repeat (first | exact Sel.nil | (refine Sel.cons (by repeat (first | exact Del.head | apply Del.tail)) ?_)))⟩
theorem c_ref13Join (w0 : World) (x y : List Int) (hx : VOk x) (hy : VOk y) (A : Option Addr) (c : Nat) (cl : List Int) (hr : Rd w0 A 1 cl.length (List.map (Value.int .u64) cl)) (hu : U64s cl) (B : Option Addr) (d : Nat) (cm : List Int) (hr2 : Rd w0 B 1 cm.length (List.map (Value.int .u64) cm)) (hu2 : U64s cm) (hn : cl.length + cm.length ≤ 4000000000)  :
    CallR Try.prog 47 #[.agg (SetC x (.slice A cl.length c)), .agg (SetC y (.slice B cm.length d))] w0 fun v w' => ∃ (D : Option Addr) (e : Nat), v = .agg (SetC (joinS (x, cl) (y, cm)).1 (.slice D (joinS (x, cl) (y, cm)).2.length e)) ∧ St NoB w0 w' [.vec D e 48 1 (joinS (x, cl) (y, cm)).2.length (List.map (Value.int .u64) (joinS (x, cl) (y, cm)).2)] := by
 have hS := St.rd2 (S := NoB) hr hr2
 have hxl := hx.len
 have hyl := hy.len
 have h0l : (List.replicate 16 (0 : Int)).length = 16 := rfl
 have hpx := addS_ok hx cl
 have hpy := addS_ok hy cm
 have hpxl := hpx.1.len
 have hpyl := hpy.1.len
 have hpxu := hpx.2.1
 have hpyu := hpy.2.1
 have hpxn := hpx.2.2
 have hpyn := hpy.2.2
 have hvj := vok_join hx hy
 have hvjl := hvj.len
 have hj1 := addS_ok hvj cl
 have hjo := addS_ok hvj (cl ++ cm)
 have hjl := hjo.1.len
 have haa := add_add hvj cl cm
 refine c_enter (l := [.agg (SetC x (.slice A cl.length c)), .agg (SetC y (.slice B cm.length d)), undef, undef, undef, undef, undef, undef, undef, undef, undef, undef, undef, undef, undef, undef, undef]) Try.func47 rfl (by simp only [Try.ntmps47, List.size_toArray, List.length_cons, List.length_nil, Nat.reduceAdd, Nat.reduceSub, Array.replicate_succ, Array.replicate_zero, List.push_toArray, List.append_toArray, List.nil_append, List.cons_append]) ?_
 refine x_seq fun K1 hK1 => ?_
 refine x_region ?_
 refine m_box hS (fun w1 g1 hS => ?_)
 try simp only [opv, n1, n2, n3, n4, Value.cells, Array.toArray_toList] at hS ⊢
 obtain ⟨gx, hgx⟩ : ∃ z, z = g1 := ⟨_, rfl⟩
 rw [← hgx] at hS ⊢
 refine m_box hS (fun w2 g2 hS => ?_)
 try simp only [opv, n1, n2, n3, n4, Value.cells, Array.toArray_toList] at hS ⊢
 obtain ⟨gy, hgy⟩ : ∃ z, z = g2 := ⟨_, rfl⟩
 rw [← hgy] at hS ⊢
 refine m_alloc ti67 hS (fun w3 g3 hS => ?_)
 try simp only [opv, n1, n2, n3, n4, Value.cells, Array.toArray_toList] at hS ⊢
 replace hS : St NoB w0 w3 (.obj g3 (.cells (SetC (List.replicate 16 0) (.slice none 0 0)) 67 (0, 0)) :: _) := hS
 obtain ⟨gbr, hgbr⟩ : ∃ z, z = g3 := ⟨_, rfl⟩
 rw [← hgbr] at hS ⊢
 replace hS := hS.rd_none none 1
 refine x_nil ?_
 refine hK1 _ _ ?_
 refine x_seq fun K2 hK2 => ?_
 refine x_mixed_c (Lc := [.obj gx (.cells (SetC x (.slice A cl.length c)) 67 (0, 0)), .obj gy (.cells (SetC y (.slice B cm.length d)) 67 (0, 0)), .rd A 1 cl.length (List.map (Value.int .u64) cl), .rd B 1 cm.length (List.map (Value.int .u64) cm), .rd none 1 0 []]) [] 0 [5, 6, 7, 8, 9, 10, 11, 12, 13, 14, 15, 16] (fun f w => ∃ (D : Option Addr) (e : Nat), St NoB w0 w [.obj gbr (.cells (SetC (joinS (x, cl) (y, cm)).1 (.slice D (joinS (x, cl) (y, cm)).2.length e)) 67 (0, 0)), .vec D e 48 1 (joinS (x, cl) (y, cm)).2.length (List.map (Value.int .u64) (joinS (x, cl) (y, cm)).2)]) (by kernel_rfl) (by kernel_rfl) (by kernel_rfl) (by decide) hS (fun w4 hS => ?mixpre101) ?mixrest101
 case mixpre101 =>
  refine p_nil ?_
  simp only [List.length_cons, List.length_nil, Nat.reduceAdd, Nat.reduceSub]
  first | refine any_go (i := 0) (by rfl) (by decide +kernel) (by decide +kernel) noLate_nil (go_yields w_none (fun w hS => m_fieldAddr Try.underlying67 (hi := ti64))) ?_ | refine any_go (i := 0) (by rfl) (by decide +kernel) (by decide +kernel) noLate_nil (go_yields w_none (fun w hS => m_fieldAddr_rd Try.underlying67 (hi := ti64) (hS := hS))) ?_ | refine any_go (i := 0) (by rfl) (by decide +kernel) (by decide +kernel) noLate_nil (go_yields w_none (fun w hS => m_fieldAddr_vec Try.underlying67 (hi := ti64) (hS := hS))) ?_
  try simp only [opv, n1, n2, n3, n4, Value.cells, Nat.zero_add, Nat.add_zero, List.getElem_toArray, List.getElem_cons_zero, List.getElem_cons_succ]
  refine any_go (i := 1) (by rfl) (by decide +kernel) (by decide +kernel) noLate_nil (go_yields w_none (fun w hS => m_loada_obj Try.underlying64 (hi := ti64) (hS := hS) (hfit := by rw [setC_size (by assumption)]; decide))) ?_
  try simp only [opv, n1, n2, n3, n4, Value.cells, List.getElem_toArray, List.getElem_cons_zero, List.getElem_cons_succ]
  rw [set_flo (by assumption)]
  first | refine any_go (i := 2) (by rfl) (by decide +kernel) (by decide +kernel) noLate_nil (go_yields w_none (fun w hS => m_fieldAddr Try.underlying67 (hi := ti64))) ?_ | refine any_go (i := 2) (by rfl) (by decide +kernel) (by decide +kernel) noLate_nil (go_yields w_none (fun w hS => m_fieldAddr_rd Try.underlying67 (hi := ti64) (hS := hS))) ?_ | refine any_go (i := 2) (by rfl) (by decide +kernel) (by decide +kernel) noLate_nil (go_yields w_none (fun w hS => m_fieldAddr_vec Try.underlying67 (hi := ti64) (hS := hS))) ?_
  try simp only [opv, n1, n2, n3, n4, Value.cells, Nat.zero_add, Nat.add_zero, List.getElem_toArray, List.getElem_cons_zero, List.getElem_cons_succ]
  refine any_go (i := 3) (by rfl) (by decide +kernel) (by decide +kernel) noLate_nil (go_yields w_none (fun w hS => m_loada_obj Try.underlying64 (hi := ti64) (hS := hS) (hfit := by rw [setC_size (by assumption)]; decide))) ?_
  try simp only [opv, n1, n2, n3, n4, Value.cells, List.getElem_toArray, List.getElem_cons_zero, List.getElem_cons_succ]
  rw [set_flo (by assumption)]
  apply any_go (i := 4) (by rfl) (by decide +kernel) (by decide +kernel) noLate_nil (call_yields w_none en87 ?H1) ?K1
  case H1 =>
    intro w hS
    try simp only [opv, n1, n2, n3, n4, List.map_toArray, List.map_cons, List.map_nil, List.append_toArray, List.cons_append, List.nil_append, Array.append_empty]
    refine CallR.mono (c_ref12Join x y hxl hyl _) ?_
    rintro _ w1 ⟨rfl, hE⟩; exact ⟨rfl, hE⟩
  try simp only [opv, n1, n2, n3, n4, Value.cells]
  refine any_go (i := 5) (by rfl) (by decide +kernel) (by decide +kernel) noLate_nil (go_yields w_none (fun w hS => s_build_struct (cells := (SetC (vjoin x y) (.slice none 0 0))) Try.underlying67 ti67 bp67 (hc := by simp only [List.map_toArray, List.map_cons, List.map_nil, opv, n1, n2, n3, n4, Value.cells, List.toList_toArray]; exact fill_set (by rfl) hvjl))) ?_
  try simp only [opv, n1, n2, n3, n4, Value.cells]
  first | refine any_go (i := 6) (by rfl) (by decide +kernel) (by decide +kernel) noLate_nil (go_yields w_none (fun w hS => m_fieldAddr Try.underlying67 (hi := ti65))) ?_ | refine any_go (i := 6) (by rfl) (by decide +kernel) (by decide +kernel) noLate_nil (go_yields w_none (fun w hS => m_fieldAddr_rd Try.underlying67 (hi := ti65) (hS := hS))) ?_ | refine any_go (i := 6) (by rfl) (by decide +kernel) (by decide +kernel) noLate_nil (go_yields w_none (fun w hS => m_fieldAddr_vec Try.underlying67 (hi := ti65) (hS := hS))) ?_
  try simp only [opv, n1, n2, n3, n4, Value.cells, Nat.zero_add, Nat.add_zero, List.getElem_toArray, List.getElem_cons_zero, List.getElem_cons_succ]
  refine any_go (i := 7) (by rfl) (by decide +kernel) (by decide +kernel) noLate_nil (go_yields w_none (fun w hS => m_load_obj Try.underlying65 (hS := hS) (hv := set_sl (by assumption) _))) ?_
  try simp only [opv, n1, n2, n3, n4, Value.cells, List.getElem_toArray, List.getElem_cons_zero, List.getElem_cons_succ]
  first | refine any_go (i := 9) (by rfl) (by decide +kernel) (by decide +kernel) noLate_nil (go_yields w_none (fun w hS => m_fieldAddr Try.underlying67 (hi := ti65))) ?_ | refine any_go (i := 9) (by rfl) (by decide +kernel) (by decide +kernel) noLate_nil (go_yields w_none (fun w hS => m_fieldAddr_rd Try.underlying67 (hi := ti65) (hS := hS))) ?_ | refine any_go (i := 9) (by rfl) (by decide +kernel) (by decide +kernel) noLate_nil (go_yields w_none (fun w hS => m_fieldAddr_vec Try.underlying67 (hi := ti65) (hS := hS))) ?_
  try simp only [opv, n1, n2, n3, n4, Value.cells, Nat.zero_add, Nat.add_zero, List.getElem_toArray, List.getElem_cons_zero, List.getElem_cons_succ]
  refine any_go (i := 10) (by rfl) (by decide +kernel) (by decide +kernel) noLate_nil (go_yields w_none (fun w hS => m_load_obj Try.underlying65 (hS := hS) (hv := set_sl (by assumption) _))) ?_
  try simp only [opv, n1, n2, n3, n4, Value.cells, List.getElem_toArray, List.getElem_cons_zero, List.getElem_cons_succ]
  refine any_step [8] (by kernel_rfl) (by decide) (fun w5 hE => ⟨fun _ => (hS.ext hE).sel (by repeat (first | exact Sel.nil | (refine Sel.cons (by repeat (first | exact Del.head | apply Del.tail)) ?_))), ?_⟩)
  replace hS := hS.ext hE
  intro i hi
  simp only [List.mem_cons, List.not_mem_nil, or_false] at hi
  subst hi
  ·
   refine any_op (by rfl) ?_
   refine s_call en35 ?_
   try simp only [opv, n1, n2, n3, n4, Value.cells, List.map_toArray, List.map_cons, List.map_nil, List.append_toArray, List.cons_append, List.nil_append, Array.append_empty]
   refine CallR.mono (c_ref13Add _ (vjoin x y) hvj none 0 [] (hS.hasRd (by repeat (first | exact Has.head | apply Has.tail))) U64s.nil A c cl (hS.hasRd (by repeat (first | exact Has.head | apply Has.tail))) hu (by rw [List.length_nil]; omega)) ?_
   rintro _ w6 ⟨D1, e1, rfl, hC6⟩
   replace hS := hS.call hC6
   simp only [List.cons_append, List.nil_append, List.append_nil] at hS ⊢
   try simp only [opv, n1, n2, n3, n4, Value.cells]
   refine x_nil ?_
   refine any_step [11] (by kernel_rfl) (by decide) (fun w7 hE => ⟨fun _ => (hS.ext hE).sel (by repeat (first | exact Sel.nil | (refine Sel.cons (by repeat (first | exact Del.head | apply Del.tail)) ?_))), ?_⟩)
   replace hS := hS.ext hE
   intro i hi
   simp only [List.mem_cons, List.not_mem_nil, or_false] at hi
   subst hi
   ·
    refine any_op (by rfl) ?_
    refine s_call en35 ?_
    try simp only [opv, n1, n2, n3, n4, Value.cells, List.map_toArray, List.map_cons, List.map_nil, List.append_toArray, List.cons_append, List.nil_append, Array.append_empty]
    refine CallR.mono (c_ref13Add _ _ hj1.1 D1 e1 _ (hS.vecRd (by repeat (first | exact Has.head | apply Has.tail))) hj1.2.1 B d cm (hS.hasRd (by repeat (first | exact Has.head | apply Has.tail))) hu2 (by have := hj1.2.2; omega)) ?_
    rintro _ w8 ⟨D, e, rfl, hC8⟩
    replace hS := hS.call hC8
    simp only [List.cons_append, List.nil_append, List.append_nil] at hS ⊢
    rw [haa] at hS ⊢
    try simp only [opv, n1, n2, n3, n4, Value.cells]
    refine x_nil ?_
    refine any_step [12] (by kernel_rfl) (by decide) (fun w9 hE => ⟨fun _ => (hS.ext hE).sel (by repeat (first | exact Sel.nil | (refine Sel.cons (by repeat (first | exact Del.head | apply Del.tail)) ?_))), ?_⟩)
    replace hS := hS.ext hE
    intro i hi
    simp only [List.mem_cons, List.not_mem_nil, or_false] at hi
    subst hi
    ·
     refine any_op (by rfl) ?_
     refine m_store_obj ti67 (hS := hS) (hv := setC_size (by assumption) _) (h1 := set_one _ _ _ _) (hfit := by rw [setC_size (by assumption)]; omega) (hc := set_whole (by assumption) (by assumption) _ _) (h := fun w10 hS => ?_)
     try simp only [opv, n1, n2, n3, n4, Value.cells, Array.toArray_toList] at hS ⊢
     refine x_nil ?_
     refine any_nil (by kernel_rfl) (fun w11 hE => ?_)
     replace hS := hS.ext hE
     refine ⟨fun _ => hS.sel (by repeat (first | exact Sel.nil | (refine Sel.cons (by repeat (first | exact Del.head | apply Del.tail)) ?_))), ?_⟩
     refine mix_leaf (by simp only [clob, List.foldl, n1, n2, n3, n4]) ?_
     try simp only [n1, n2]
     exact ⟨_, _, hS.sel (by repeat (first | exact Sel.nil | (refine Sel.cons (by repeat (first | exact Del.head | apply Del.tail)) ?_)))⟩
 intro fm1 w12 hM
 obtain ⟨D, e, hS⟩ := hM
 simp only [clob, List.foldl, n3, n4]
 refine hK2 _ _ ?_
 refine x_ret ?_
 refine r_cell_agg rfl Try.underlying67 ti67 (hS := hS) (hfit := by rw [setC_size (by assumption)]) (hR := ?_)
 exact ⟨_, _, rfl, hS.sel (by repeat (first | exact Sel.nil | (refine Sel.cons (by repeat (first | exact Del.head | apply Del.tail)) ?_)))⟩
theorem c_dotsLess (w0 : World) (x y : List Int) (hx : VOk x) (hy : VOk y) (A : Option Addr) (c : Nat) (cl : List Int) (hr : Rd w0 A 1 cl.length (List.map (Value.int .u64) cl)) (hu : U64s cl) (B : Option Addr) (d : Nat) (cm : List Int) (hr2 : Rd w0 B 1 cm.length (List.map (Value.int .u64) cm)) (hu2 : U64s cm) (hn : cl.length + cm.length ≤ 4000000000)  :
    CallR Try.prog 49 #[.agg (SetC x (.slice A cl.length c)), .agg (SetC y (.slice B cm.length d))] w0 fun v w' => ∃ (E : Option Addr) (ec : Nat), v = .slice E (lesS (addS x cl).2 y cm).length ec ∧ St NoB w0 w' [.vec E ec 48 1 (lesS (addS x cl).2 y cm).length (List.map (Value.int .u64) (lesS (addS x cl).2 y cm))] := by
 have hS := St.rd2 (S := NoB) hr hr2
 have hxl := hx.len
 have hyl := hy.len
 have h0l : (List.replicate 16 (0 : Int)).length = 16 := rfl
 have hpx := addS_ok hx cl
 have hpy := addS_ok hy cm
 have hpxl := hpx.1.len
 have hpyl := hpy.1.len
 have hpxu := hpx.2.1
 have hpyu := hpy.2.1
 have hpxn := hpx.2.2
 have hpyn := hpy.2.2
 refine c_enter (l := [.agg (SetC x (.slice A cl.length c)), .agg (SetC y (.slice B cm.length d)), undef, undef, undef, undef, undef, undef, undef, undef, undef, undef, undef, undef, undef, undef, undef, undef, undef, undef, undef, undef, undef, undef, undef]) Try.func49 rfl (by simp only [Try.ntmps49, List.size_toArray, List.length_cons, List.length_nil, Nat.reduceAdd, Nat.reduceSub, Array.replicate_succ, Array.replicate_zero, List.push_toArray, List.append_toArray, List.nil_append, List.cons_append]) ?_
 refine x_seq fun K1 hK1 => ?_
 refine x_region ?_
 refine m_box hS (fun w1 g1 hS => ?_)
 try simp only [opv, n1, n2, n3, n4, Value.cells, Array.toArray_toList] at hS ⊢
 obtain ⟨gx, hgx⟩ : ∃ z, z = g1 := ⟨_, rfl⟩
 rw [← hgx] at hS ⊢
 refine m_box hS (fun w2 g2 hS => ?_)
 try simp only [opv, n1, n2, n3, n4, Value.cells, Array.toArray_toList] at hS ⊢
 obtain ⟨gy, hgy⟩ : ∃ z, z = g2 := ⟨_, rfl⟩
 rw [← hgy] at hS ⊢
 replace hS := hS.rd_none none 1
 refine s_go (s_assign) ?_
 try simp only [opv, n1, n2, n3, n4, Value.cells]
 refine x_nil ?_
 refine hK1 _ _ ?_
 refine x_seq fun K2 hK2 => ?_
 refine x_seq fun K3 hK3 => ?_
 refine x_region ?_
 refine s_go (m_load_row Try.underlying72 (hi := ti72) (hS := hS) (hfit := by rw [setC_size (by assumption)])) ?_
 try simp only [opv, n1, n2, n3, n4, Value.cells, List.getElem_toArray, List.getElem_cons_zero, List.getElem_cons_succ]
 refine s_call en36 ?_
 try simp only [opv, n1, n2, n3, n4, Value.cells, List.map_toArray, List.map_cons, List.map_nil, List.append_toArray, List.cons_append, List.nil_append, Array.append_empty]
 refine CallR.mono (c_dotsAdd _ x hx A c cl (hS.hasRd (by repeat (first | exact Has.head | apply Has.tail))) hu none 0 [] (hS.hasRd (by repeat (first | exact Has.head | apply Has.tail))) U64s.nil (by rw [List.length_nil]; omega)) ?_
 rintro _ w3 ⟨D, e, rfl, hC3⟩
 replace hS := hS.call hC3
 simp only [List.cons_append, List.nil_append, List.append_nil] at hS ⊢
 replace hS := hS.vec_rd (by exact Upd.head)
 try simp only [opv, n1, n2, n3, n4, Value.cells]
 refine s_go (s_field_one Try.underlying72 (hu := Try.underlying65) (hv := set_sl hpxl _)) ?_
 try simp only [opv, n1, n2, n3, n4, Value.cells, List.getElem_toArray, List.getElem_cons_zero, List.getElem_cons_succ]
 refine s_go (s_len_sl Try.underlying65) ?_
 try simp only [opv, n1, n2, n3, n4, Value.cells]
 refine s_go (s_move) ?_
 try simp only [opv, n1, n2, n3, n4, Value.cells]
 refine x_nil ?_
 refine hK3 _ _ ?_
 refine x_block ?_
 refine x_loop [4, 6, 11, 12, 13, 14, 15, 16, 17, 18, 19, 20, 21, 22, 23] (fun m f w => ∃ (k : Nat) (E : Option Addr) (ec : Nat), k ≤ (addS x cl).2.length ∧ m = (addS x cl).2.length - k ∧ f 11 = .int .i64 (k : Int) ∧ f 4 = .slice E (lesS ((addS x cl).2.take k) y cm).length ec ∧ St NoB w0 w [.vec E ec 48 1 (lesS ((addS x cl).2.take k) y cm).length (List.map (Value.int .u64) (lesS ((addS x cl).2.take k) y cm)), .rd D 1 (addS x cl).2.length (List.map (Value.int .u64) (addS x cl).2), .obj gy (.cells (SetC y (.slice B cm.length d)) 72 (0, 0)), .rd B 1 cm.length (List.map (Value.int .u64) cm)]) ((addS x cl).2.length) ?init1 (fun m1 f1 wl1 hI => ?_)
 case init1 =>
  try simp only [opv, n1, n2, n3, n4, Value.cells]
  replace hS := hS.nil_vec 48 1
  exact ⟨0, none, 0, by omega, rfl, rfl, rfl, hS.sel (by repeat (first | exact Sel.nil | (refine Sel.cons (by repeat (first | exact Del.head | apply Del.tail)) ?_)))⟩
 obtain ⟨k, E, ec, hk, hm, h11, h4, hS⟩ := hI
 simp only [clob, List.foldl, n3, n4, h11, h4]
 have hll := les_len ((addS x cl).2.take k) y cm
 rw [List.length_take] at hll
 refine x_seq fun K4 hK4 => ?_
 refine x_region ?_
 refine s_go (s_lss) ?_
 try simp only [opv, n1, n2, n3, n4, Value.cells]
 refine x_nil ?_
 refine hK4 _ _ ?_
 refine x_seq fun K5 hK5 => ?_
 refine x_cond (ht := fun hc1 => ?_) (hf := fun hc1 => ?_)
 ·
  try simp only [decide_eq_true_eq, decide_eq_false_iff_not, Bool.not_eq_true', Bool.not_eq_false', Int.not_lt, Int.not_le, ne_eq, Decidable.not_not, bne_iff_ne, beq_iff_eq, not_true_eq_false, not_false_eq_true] at hc1
  have hxr := hpxu.get (k := k) (by omega)
  obtain ⟨q, hq⟩ : ∃ q : Nat, (addS x cl).2.getD k 0 = (q : Int) := ⟨((addS x cl).2.getD k 0).toNat, by omega⟩
  have hlt := les_take (p := (addS x cl).2) (y := y) (cm := cm) (k := k) (by omega)
  rw [hq] at hlt hxr
  refine x_skip ?_
  refine hK5 _ _ ?_
  refine x_seq fun K6 hK6 => ?_
  refine x_block ?_
  refine x_seq fun K7 hK7 => ?_
  refine x_region ?_
  first | refine s_go (m_indexAddr_rd Try.underlying65 ti48 (hS := hS)) ?_ | refine s_go (m_indexAddr_vec Try.underlying65 ti48 (hS := hS)) ?_
  try simp only [opv, n1, n2, n3, n4, Value.cells, Nat.mul_one, Nat.zero_add, Int.toNat_natCast, Int.reduceToNat]
  first | refine s_go (m_load_obj Try.underlying48 (hS := hS)) ?_ | refine s_go (m_load_bx Try.underlying48 (hS := hS)) ?_ | refine s_go (m_load_rd Try.underlying48 (hS := hS)) ?_ | refine s_go (m_load_vec Try.underlying48 (hS := hS)) ?_
  try simp only [opv, n1, n2, n3, n4, Value.cells, List.getElem_toArray, List.getElem_cons_zero, List.getElem_cons_succ]
  rw [hq]
  refine s_go (s_assign) ?_
  try simp only [opv, n1, n2, n3, n4, Value.cells]
  refine x_nil ?_
  refine hK7 _ _ ?_
  refine x_seq fun K8 hK8 => ?_
  refine x_region ?_
  refine s_go (m_load_row Try.underlying72 (hi := ti72) (hS := hS) (hfit := by rw [setC_size (by assumption)])) ?_
  try simp only [opv, n1, n2, n3, n4, Value.cells, List.getElem_toArray, List.getElem_cons_zero, List.getElem_cons_succ]
  refine s_go (s_move) ?_
  try simp only [opv, n1, n2, n3, n4, Value.cells]
  refine s_call en40 ?_
  try simp only [opv, n1, n2, n3, n4, Value.cells, List.map_toArray, List.map_cons, List.map_nil, List.append_toArray, List.cons_append, List.nil_append, Array.append_empty]
  refine CallR.mono (c_dotsHas _ y hy B d cm (hS.hasRd (by repeat (first | exact Has.head | apply Has.tail))) hu2 (by omega) q (by omega)) ?_
  rintro _ w4 ⟨rfl, hE4⟩
  replace hS := hS.ext hE4
  try simp only [opv, n1, n2, n3, n4, Value.cells]
  refine s_go (s_not) ?_
  try simp only [opv, n1, n2, n3, n4, Value.cells]
  refine x_nil ?_
  refine hK8 _ _ ?_
  refine x_cond (ht := fun hc2 => ?_) (hf := fun hc2 => ?_)
  ·
   try simp only [decide_eq_true_eq, decide_eq_false_iff_not, Bool.not_eq_true', Bool.not_eq_false', Int.not_lt, Int.not_le, ne_eq, Decidable.not_not, bne_iff_ne, beq_iff_eq, not_true_eq_false, not_false_eq_true] at hc2
   have hst := hlt.2 (by simpa using hc2)
   refine x_region ?_
   refine s_go (s_move) ?_
   try simp only [opv, n1, n2, n3, n4, Value.cells]
   refine s_go (s_move) ?_
   try simp only [opv, n1, n2, n3, n4, Value.cells]
   refine m_buildRow (cells := #[_]) Try.underlying65 ti48 (hc := by simp only [List.map_toArray, List.map_cons, List.map_nil, opv, n1, n2, n3, n4, Value.cells, List.toList_toArray]; (repeat (refine fill_cons rfl rfl (Nat.le_of_ble_eq_true rfl) ?_)); rfl) (hS := hS) (h := fun w5 g5 hS => ?_)
   try simp only [opv, n1, n2, n3, n4, Value.cells, Array.toArray_toList] at hS ⊢
   replace hS := hS.obj_rd (sz := 1) (n := 1) rfl .head
   refine m_append Try.underlying65 ti48 (hS := hS) (news := [(q : Int)].map (Value.int .u64)) (h := fun w6 A6 C6 hS => ?_)
   try simp only [← List.map_append, ← List.map_drop, ← List.map_take, Nat.mul_one, Nat.zero_mul, Nat.sub_zero, List.drop_zero, List.nil_append, Nat.zero_add] at hS ⊢
   try simp only [opv, n1, n2, n3, n4, Value.cells, Array.toArray_toList] at hS ⊢
   refine s_go (s_assign) ?_
   try simp only [opv, n1, n2, n3, n4, Value.cells]
   refine x_nil ?_
   refine hK6 _ _ ?_
   refine x_region ?_
   refine s_go (s_add (hc := by first | exact wr_i64 (by omega) (by omega) | rfl)) ?_
   try simp only [opv, n1, n2, n3, n4, Value.cells]
   refine s_go (s_move) ?_
   try simp only [opv, n1, n2, n3, n4, Value.cells]
   refine x_nil ?_
   refine loop_back (m' := (addS x cl).2.length - (k + 1)) (by simp only [clob, List.foldl, n1, n2, n3, n4]) ?_ ?_
   · try simp only [opv, n1, n2, n3, n4, Value.cells]
     first
     | exact ⟨k + 1, _, _, by omega, by omega, by rfl, by rw [hst], by rw [hst]; exact hS.sel (by repeat (first | exact Sel.nil | (refine Sel.cons (by repeat (first | exact Del.head | apply Del.tail)) ?_)))⟩
     | exact ⟨k + 1, _, _, by omega, by omega, by rfl, by rw [hst, List.length_append]; rfl, by rw [hst, List.length_append]; exact hS.sel (by repeat (first | exact Sel.nil | (refine Sel.cons (by repeat (first | exact Del.head | apply Del.tail)) ?_)))⟩
   · omega
  ·
   try simp only [decide_eq_true_eq, decide_eq_false_iff_not, Bool.not_eq_true', Bool.not_eq_false', Int.not_lt, Int.not_le, ne_eq, Decidable.not_not, bne_iff_ne, beq_iff_eq, not_true_eq_false, not_false_eq_true] at hc2
   have hst := hlt.1 (by simpa using hc2)
   refine x_skip ?_
   refine hK6 _ _ ?_
   refine x_region ?_
   refine s_go (s_add (hc := by first | exact wr_i64 (by omega) (by omega) | rfl)) ?_
   try simp only [opv, n1, n2, n3, n4, Value.cells]
   refine s_go (s_move) ?_
   try simp only [opv, n1, n2, n3, n4, Value.cells]
   refine x_nil ?_
   refine loop_back (m' := (addS x cl).2.length - (k + 1)) (by simp only [clob, List.foldl, n1, n2, n3, n4]) ?_ ?_
   · try simp only [opv, n1, n2, n3, n4, Value.cells]
     first
     | exact ⟨k + 1, _, _, by omega, by omega, by rfl, by rw [hst], by rw [hst]; exact hS.sel (by repeat (first | exact Sel.nil | (refine Sel.cons (by repeat (first | exact Del.head | apply Del.tail)) ?_)))⟩
     | exact ⟨k + 1, _, _, by omega, by omega, by rfl, by rw [hst, List.length_append]; rfl, by rw [hst, List.length_append]; exact hS.sel (by repeat (first | exact Sel.nil | (refine Sel.cons (by repeat (first | exact Del.head | apply Del.tail)) ?_)))⟩
   · omega
 ·
  try simp only [decide_eq_true_eq, decide_eq_false_iff_not, Bool.not_eq_true', Bool.not_eq_false', Int.not_lt, Int.not_le, ne_eq, Decidable.not_not, bne_iff_ne, beq_iff_eq, not_true_eq_false, not_false_eq_true] at hc1
  obtain rfl : k = (addS x cl).2.length := by omega
  rw [List.take_of_length_le (Nat.le_refl _)] at hS ⊢
  refine x_exit (look_here ?_)
  refine hK2 _ _ ?_
  refine x_seq fun K9 hK9 => ?_
  refine x_region ?_
  refine s_go (s_move) ?_
  try simp only [opv, n1, n2, n3, n4, Value.cells]
  refine s_go (s_assign) ?_
  try simp only [opv, n1, n2, n3, n4, Value.cells]
  refine x_nil ?_
  refine hK9 _ _ ?_
  refine x_ret ?_
  refine r_tmp rfl ?_
  exact ⟨_, _, rfl, hS.sel (by repeat (first | exact Sel.nil | (refine Sel.cons (by repeat (first | exact Del.head | apply Del.tail)) ?_)))⟩
theorem c_ref13Less (w0 : World) (x y : List Int) (hx : VOk x) (hy : VOk y) (A : Option Addr) (c : Nat) (cl : List Int) (hr : Rd w0 A 1 cl.length (List.map (Value.int .u64) cl)) (hu : U64s cl) (B : Option Addr) (d : Nat) (cm : List Int) (hr2 : Rd w0 B 1 cm.length (List.map (Value.int .u64) cm)) (hu2 : U64s cm) (hn : cl.length + cm.length ≤ 4000000000)  :
    CallR Try.prog 50 #[.agg (SetC x (.slice A cl.length c)), .agg (SetC y (.slice B cm.length d))] w0 fun v w' => ∃ (E : Option Addr) (ec : Nat), v = .slice E (lesS (addS x cl).2 y cm).length ec ∧ St NoB w0 w' [.vec E ec 48 1 (lesS (addS x cl).2 y cm).length (List.map (Value.int .u64) (lesS (addS x cl).2 y cm))] := by
 have hS := St.rd2 (S := NoB) hr hr2
 have hxl := hx.len
 have hyl := hy.len
 have h0l : (List.replicate 16 (0 : Int)).length = 16 := rfl
 have hpx := addS_ok hx cl
 have hpy := addS_ok hy cm
 have hpxl := hpx.1.len
 have hpyl := hpy.1.len
 have hpxu := hpx.2.1
 have hpyu := hpy.2.1
 have hpxn := hpx.2.2
 have hpyn := hpy.2.2
 refine c_enter (l := [.agg (SetC x (.slice A cl.length c)), .agg (SetC y (.slice B cm.length d)), undef, undef, undef, undef, undef, undef, undef, undef, undef, undef, undef, undef, undef, undef, undef, undef, undef, undef, undef, undef, undef, undef, undef, undef, undef, undef, undef, undef, undef, undef, undef]) Try.func50 rfl (by simp only [Try.ntmps50, List.size_toArray, List.length_cons, List.length_nil, Nat.reduceAdd, Nat.reduceSub, Array.replicate_succ, Array.replicate_zero, List.push_toArray, List.append_toArray, List.nil_append, List.cons_append]) ?_
 refine x_seq fun K1 hK1 => ?_
 refine x_region ?_
 refine m_box hS (fun w1 g1 hS => ?_)
 try simp only [opv, n1, n2, n3, n4, Value.cells, Array.toArray_toList] at hS ⊢
 obtain ⟨gx, hgx⟩ : ∃ z, z = g1 := ⟨_, rfl⟩
 rw [← hgx] at hS ⊢
 refine m_box hS (fun w2 g2 hS => ?_)
 try simp only [opv, n1, n2, n3, n4, Value.cells, Array.toArray_toList] at hS ⊢
 obtain ⟨gy, hgy⟩ : ∃ z, z = g2 := ⟨_, rfl⟩
 rw [← hgy] at hS ⊢
 replace hS := hS.rd_none none 1
 refine s_go (s_assign) ?_
 try simp only [opv, n1, n2, n3, n4, Value.cells]
 refine x_nil ?_
 refine hK1 _ _ ?_
 refine x_seq fun K2 hK2 => ?_
 refine x_region ?_
 refine s_go (m_load_row Try.underlying67 (hi := ti67) (hS := hS) (hfit := by rw [setC_size (by assumption)])) ?_
 try simp only [opv, n1, n2, n3, n4, Value.cells, List.getElem_toArray, List.getElem_cons_zero, List.getElem_cons_succ]
 refine s_call en35 ?_
 try simp only [opv, n1, n2, n3, n4, Value.cells, List.map_toArray, List.map_cons, List.map_nil, List.append_toArray, List.cons_append, List.nil_append, Array.append_empty]
 refine CallR.mono (c_ref13Add _ x hx A c cl (hS.hasRd (by repeat (first | exact Has.head | apply Has.tail))) hu none 0 [] (hS.hasRd (by repeat (first | exact Has.head | apply Has.tail))) U64s.nil (by rw [List.length_nil]; omega)) ?_
 rintro _ w3 ⟨D, e, rfl, hC3⟩
 replace hS := hS.call hC3
 simp only [List.cons_append, List.nil_append, List.append_nil] at hS ⊢
 replace hS := hS.vec_rd (by exact Upd.head)
 try simp only [opv, n1, n2, n3, n4, Value.cells]
 refine m_store_obj ti67 (hS := hS) (hv := setC_size (by assumption) _) (h1 := set_one _ _ _ _) (hfit := by rw [setC_size (by assumption)]; omega) (hc := set_whole (by assumption) (by assumption) _ _) (h := fun w4 hS => ?_)
 try simp only [opv, n1, n2, n3, n4, Value.cells, Array.toArray_toList] at hS ⊢
 refine x_nil ?_
 refine hK2 _ _ ?_
 refine x_seq fun K3 hK3 => ?_
 refine x_region ?_
 refine s_go (s_assign) ?_
 try simp only [opv, n1, n2, n3, n4, Value.cells]
 refine x_nil ?_
 refine hK3 _ _ ?_
 refine x_seq fun K4 hK4 => ?_
 refine x_seq fun K5 hK5 => ?_
 refine x_region ?_
 refine s_go (s_assign) ?_
 try simp only [opv, n1, n2, n3, n4, Value.cells]
 refine x_nil ?_
 refine hK5 _ _ ?_
 refine x_block ?_
 refine x_loop [5, 6, 9, 10, 11, 12, 13, 14, 15, 16, 17, 18, 19, 20, 21, 22, 23, 24, 25, 26, 27, 28, 29, 30, 31] (fun m f w => ∃ (k : Nat) (E : Option Addr) (ec : Nat), k ≤ (addS x cl).2.length ∧ m = (addS x cl).2.length - k ∧ f 6 = .int .i64 (k : Int) ∧ f 5 = .slice E (lesS ((addS x cl).2.take k) y cm).length ec ∧ St NoB w0 w [.vec E ec 48 1 (lesS ((addS x cl).2.take k) y cm).length (List.map (Value.int .u64) (lesS ((addS x cl).2.take k) y cm)), .obj gx (.cells (SetC (addS x cl).1 (.slice D (addS x cl).2.length e)) 67 (0, 0)), .rd D 1 (addS x cl).2.length (List.map (Value.int .u64) (addS x cl).2), .obj gy (.cells (SetC y (.slice B cm.length d)) 67 (0, 0)), .rd B 1 cm.length (List.map (Value.int .u64) cm)]) ((addS x cl).2.length) ?init1 (fun m1 f1 wl1 hI => ?_)
 case init1 =>
  try simp only [opv, n1, n2, n3, n4, Value.cells]
  replace hS := hS.nil_vec 48 1
  exact ⟨0, none, 0, by omega, rfl, rfl, rfl, hS.sel (by repeat (first | exact Sel.nil | (refine Sel.cons (by repeat (first | exact Del.head | apply Del.tail)) ?_)))⟩
 obtain ⟨k, E, ec, hk, hm, h6, h5, hS⟩ := hI
 simp only [clob, List.foldl, n3, n4, h6, h5]
 have hll := les_len ((addS x cl).2.take k) y cm
 rw [List.length_take] at hll
 refine x_seq fun K6 hK6 => ?_
 refine x_seq fun K7 hK7 => ?_
 refine x_region ?_
 refine s_go (s_move) ?_
 try simp only [opv, n1, n2, n3, n4, Value.cells]
 first | refine s_go (m_fieldAddr Try.underlying67 (hi := ti65)) ?_ | refine s_go (m_fieldAddr_rd Try.underlying67 (hi := ti65) (hS := hS)) ?_ | refine s_go (m_fieldAddr_vec Try.underlying67 (hi := ti65) (hS := hS)) ?_
 try simp only [opv, n1, n2, n3, n4, Value.cells, Nat.zero_add, Nat.add_zero, List.getElem_toArray, List.getElem_cons_zero, List.getElem_cons_succ]
 refine s_go (m_load_obj Try.underlying65 (hS := hS) (hv := set_sl (by assumption) _)) ?_
 try simp only [opv, n1, n2, n3, n4, Value.cells, List.getElem_toArray, List.getElem_cons_zero, List.getElem_cons_succ]
 refine s_go (s_len_sl Try.underlying65) ?_
 try simp only [opv, n1, n2, n3, n4, Value.cells]
 refine s_go (s_lss) ?_
 try simp only [opv, n1, n2, n3, n4, Value.cells]
 refine x_nil ?_
 refine hK7 _ _ ?_
 refine x_cond (ht := fun hc1 => ?_) (hf := fun hc1 => ?_)
 ·
  try simp only [decide_eq_true_eq, decide_eq_false_iff_not, Bool.not_eq_true', Bool.not_eq_false', Int.not_lt, Int.not_le, ne_eq, Decidable.not_not, bne_iff_ne, beq_iff_eq, not_true_eq_false, not_false_eq_true] at hc1
  have hxr := hpxu.get (k := k) (by omega)
  obtain ⟨q, hq⟩ : ∃ q : Nat, (addS x cl).2.getD k 0 = (q : Int) := ⟨((addS x cl).2.getD k 0).toNat, by omega⟩
  have hlt := les_take (p := (addS x cl).2) (y := y) (cm := cm) (k := k) (by omega)
  rw [hq] at hlt hxr
  refine x_skip ?_
  refine hK6 _ _ ?_
  refine x_seq fun K8 hK8 => ?_
  refine x_block ?_
  refine x_seq fun K9 hK9 => ?_
  refine x_quiet (by kernel_rfl) (by kernel_rfl) hS ?_
  refine q_go (fun w hS => m_load_row Try.underlying67 (hi := ti67) (hS := hS) (hfit := by rw [setC_size (by assumption)])) ?_
  try simp only [opv, n1, n2, n3, n4, Value.cells, List.getElem_toArray, List.getElem_cons_zero, List.getElem_cons_succ]
  first | refine q_go (fun w hS => m_fieldAddr Try.underlying67 (hi := ti65)) ?_ | refine q_go (fun w hS => m_fieldAddr_rd Try.underlying67 (hi := ti65) (hS := hS)) ?_ | refine q_go (fun w hS => m_fieldAddr_vec Try.underlying67 (hi := ti65) (hS := hS)) ?_
  try simp only [opv, n1, n2, n3, n4, Value.cells, Nat.zero_add, Nat.add_zero, List.getElem_toArray, List.getElem_cons_zero, List.getElem_cons_succ]
  refine q_go (fun w hS => m_load_obj Try.underlying65 (hS := hS) (hv := set_sl (by assumption) _)) ?_
  try simp only [opv, n1, n2, n3, n4, Value.cells, List.getElem_toArray, List.getElem_cons_zero, List.getElem_cons_succ]
  refine q_go (fun w hS => s_move) ?_
  try simp only [opv, n1, n2, n3, n4, Value.cells]
  first | refine q_go (fun w hS => m_indexAddr_rd Try.underlying65 ti48 (hS := hS)) ?_ | refine q_go (fun w hS => m_indexAddr_vec Try.underlying65 ti48 (hS := hS)) ?_
  try simp only [opv, n1, n2, n3, n4, Value.cells, Nat.mul_one, Nat.zero_add, Int.toNat_natCast, Int.reduceToNat]
  first | refine q_go (fun w hS => m_load_obj Try.underlying48 (hS := hS)) ?_ | refine q_go (fun w hS => m_load_bx Try.underlying48 (hS := hS)) ?_ | refine q_go (fun w hS => m_load_rd Try.underlying48 (hS := hS)) ?_ | refine q_go (fun w hS => m_load_vec Try.underlying48 (hS := hS)) ?_
  try simp only [opv, n1, n2, n3, n4, Value.cells, List.getElem_toArray, List.getElem_cons_zero, List.getElem_cons_succ]
  rw [hq]
  apply q_call en41
  case H =>
    intro w hS
    try simp only [opv, n1, n2, n3, n4, List.map_toArray, List.map_cons, List.map_nil, List.append_toArray, List.cons_append, List.nil_append, Array.append_empty]
    refine CallR.mono (c_ref13Has _ y hy B d cm (hS.hasRd (by repeat (first | exact Has.head | apply Has.tail))) hu2 (by omega) q (by omega)) ?_
    rintro _ w1 ⟨rfl, hE⟩; exact ⟨rfl, hS.ext hE⟩
  try simp only [opv, n1, n2, n3, n4, Value.cells]
  refine q_go (fun w hS => s_not) ?_
  try simp only [opv, n1, n2, n3, n4, Value.cells]
  clear hS
  refine q_nil fun w5 hS => ?_
  refine hK9 _ _ ?_
  refine x_cond (ht := fun hc2 => ?_) (hf := fun hc2 => ?_)
  ·
   try simp only [decide_eq_true_eq, decide_eq_false_iff_not, Bool.not_eq_true', Bool.not_eq_false', Int.not_lt, Int.not_le, ne_eq, Decidable.not_not, bne_iff_ne, beq_iff_eq, not_true_eq_false, not_false_eq_true] at hc2
   have hst := hlt.2 (by simpa using hc2)
   refine x_region ?_
   refine s_go (s_move) ?_
   try simp only [opv, n1, n2, n3, n4, Value.cells]
   first | refine s_go (m_fieldAddr Try.underlying67 (hi := ti65)) ?_ | refine s_go (m_fieldAddr_rd Try.underlying67 (hi := ti65) (hS := hS)) ?_ | refine s_go (m_fieldAddr_vec Try.underlying67 (hi := ti65) (hS := hS)) ?_
   try simp only [opv, n1, n2, n3, n4, Value.cells, Nat.zero_add, Nat.add_zero, List.getElem_toArray, List.getElem_cons_zero, List.getElem_cons_succ]
   refine s_go (m_load_obj Try.underlying65 (hS := hS) (hv := set_sl (by assumption) _)) ?_
   try simp only [opv, n1, n2, n3, n4, Value.cells, List.getElem_toArray, List.getElem_cons_zero, List.getElem_cons_succ]
   refine s_go (s_move) ?_
   try simp only [opv, n1, n2, n3, n4, Value.cells]
   first | refine s_go (m_indexAddr_rd Try.underlying65 ti48 (hS := hS)) ?_ | refine s_go (m_indexAddr_vec Try.underlying65 ti48 (hS := hS)) ?_
   try simp only [opv, n1, n2, n3, n4, Value.cells, Nat.mul_one, Nat.zero_add, Int.toNat_natCast, Int.reduceToNat]
   first | refine s_go (m_load_obj Try.underlying48 (hS := hS)) ?_ | refine s_go (m_load_bx Try.underlying48 (hS := hS)) ?_ | refine s_go (m_load_rd Try.underlying48 (hS := hS)) ?_ | refine s_go (m_load_vec Try.underlying48 (hS := hS)) ?_
   try simp only [opv, n1, n2, n3, n4, Value.cells, List.getElem_toArray, List.getElem_cons_zero, List.getElem_cons_succ]
   rw [hq]
   refine m_buildRow (cells := #[_]) Try.underlying65 ti48 (hc := by simp only [List.map_toArray, List.map_cons, List.map_nil, opv, n1, n2, n3, n4, Value.cells, List.toList_toArray]; (repeat (refine fill_cons rfl rfl (Nat.le_of_ble_eq_true rfl) ?_)); rfl) (hS := hS) (h := fun w6 g6 hS => ?_)
   try simp only [opv, n1, n2, n3, n4, Value.cells, Array.toArray_toList] at hS ⊢
   replace hS := hS.obj_rd (sz := 1) (n := 1) rfl .head
   refine m_append Try.underlying65 ti48 (hS := hS) (news := [(q : Int)].map (Value.int .u64)) (h := fun w7 A7 C7 hS => ?_)
   try simp only [← List.map_append, ← List.map_drop, ← List.map_take, Nat.mul_one, Nat.zero_mul, Nat.sub_zero, List.drop_zero, List.nil_append, Nat.zero_add] at hS ⊢
   try simp only [opv, n1, n2, n3, n4, Value.cells, Array.toArray_toList] at hS ⊢
   refine s_go (s_assign) ?_
   try simp only [opv, n1, n2, n3, n4, Value.cells]
   refine x_nil ?_
   refine hK8 _ _ ?_
   refine x_region ?_
   refine s_go (s_move) ?_
   try simp only [opv, n1, n2, n3, n4, Value.cells]
   refine s_go (s_add (hc := by first | exact wr_i64 (by omega) (by omega) | rfl)) ?_
   try simp only [opv, n1, n2, n3, n4, Value.cells]
   refine s_go (s_assign) ?_
   try simp only [opv, n1, n2, n3, n4, Value.cells]
   refine x_nil ?_
   refine loop_back (m' := (addS x cl).2.length - (k + 1)) (by simp only [clob, List.foldl, n1, n2, n3, n4]) ?_ ?_
   · try simp only [opv, n1, n2, n3, n4, Value.cells]
     first
     | exact ⟨k + 1, _, _, by omega, by omega, by rfl, by rw [hst], by rw [hst]; exact hS.sel (by repeat (first | exact Sel.nil | (refine Sel.cons (by repeat (first | exact Del.head | apply Del.tail)) ?_)))⟩
     | exact ⟨k + 1, _, _, by omega, by omega, by rfl, by rw [hst, List.length_append]; rfl, by rw [hst, List.length_append]; exact hS.sel (by repeat (first | exact Sel.nil | (refine Sel.cons (by repeat (first | exact Del.head | apply Del.tail)) ?_)))⟩
   · omega
  ·
   try simp only [decide_eq_true_eq, decide_eq_false_iff_not, Bool.not_eq_true', Bool.not_eq_false', Int.not_lt, Int.not_le, ne_eq, Decidable.not_not, bne_iff_ne, beq_iff_eq, not_true_eq_false, not_false_eq_true] at hc2
   have hst := hlt.1 (by simpa using hc2)
   refine x_skip ?_
   refine hK8 _ _ ?_
   refine x_region ?_
   refine s_go (s_move) ?_
   try simp only [opv, n1, n2, n3, n4, Value.cells]
   refine s_go (s_add (hc := by first | exact wr_i64 (by omega) (by omega) | rfl)) ?_
   try simp only [opv, n1, n2, n3, n4, Value.cells]
   refine s_go (s_assign) ?_
   try simp only [opv, n1, n2, n3, n4, Value.cells]
   refine x_nil ?_
   refine loop_back (m' := (addS x cl).2.length - (k + 1)) (by simp only [clob, List.foldl, n1, n2, n3, n4]) ?_ ?_
   · try simp only [opv, n1, n2, n3, n4, Value.cells]
     first
     | exact ⟨k + 1, _, _, by omega, by omega, by rfl, by rw [hst], by rw [hst]; exact hS.sel (by repeat (first | exact Sel.nil | (refine Sel.cons (by repeat (first | exact Del.head | apply Del.tail)) ?_)))⟩
     | exact ⟨k + 1, _, _, by omega, by omega, by rfl, by rw [hst, List.length_append]; rfl, by rw [hst, List.length_append]; exact hS.sel (by repeat (first | exact Sel.nil | (refine Sel.cons (by repeat (first | exact Del.head | apply Del.tail)) ?_)))⟩
   · omega
 ·
  try simp only [decide_eq_true_eq, decide_eq_false_iff_not, Bool.not_eq_true', Bool.not_eq_false', Int.not_lt, Int.not_le, ne_eq, Decidable.not_not, bne_iff_ne, beq_iff_eq, not_true_eq_false, not_false_eq_true] at hc1
  obtain rfl : k = (addS x cl).2.length := by omega
  rw [List.take_of_length_le (Nat.le_refl _)] at hS ⊢
  refine x_exit (look_here ?_)
  refine hK4 _ _ ?_
  refine x_seq fun K10 hK10 => ?_
  refine x_region ?_
  refine s_go (s_move) ?_
  try simp only [opv, n1, n2, n3, n4, Value.cells]
  refine s_go (s_assign) ?_
  try simp only [opv, n1, n2, n3, n4, Value.cells]
  refine x_nil ?_
  refine hK10 _ _ ?_
  refine x_ret ?_
  refine r_tmp rfl ?_
  exact ⟨_, _, rfl, hS.sel (by repeat (first | exact Sel.nil | (refine Sel.cons (by repeat (first | exact Del.head | apply Del.tail)) ?_)))⟩
theorem c_ref13Words (w0 : World) (A : Option Addr) (c : Nat) (l : List Int) (hr : Rd w0 A 1 l.length (List.map (Value.int .u64) l)) (hu : U64s l) (B : Option Addr) (d : Nat) (r : List Int) (hr2 : Rd w0 B 1 r.length (List.map (Value.int .u64) r)) (hu2 : U64s r) (hn : l.length ≤ 4000000000 ∧ r.length ≤ 4000000000)  :
    CallR Try.prog 48 #[.slice A l.length c, .slice B r.length d] w0 fun v w' => v = .bool (decide (l = r)) ∧ Ext w0 w' := by
 have hS := St.rd2 (S := NoB) hr hr2
 have h0l : (List.replicate 16 (0 : Int)).length = 16 := rfl
 refine c_enter (l := [.slice A l.length c, .slice B r.length d, undef, undef, undef, undef, undef, undef, undef, undef]) Try.func48 rfl (by simp only [Try.ntmps48, List.size_toArray, List.length_cons, List.length_nil, Nat.reduceAdd, Nat.reduceSub, Array.replicate_succ, Array.replicate_zero, List.push_toArray, List.append_toArray, List.nil_append, List.cons_append]) ?_
 refine x_seq fun K1 hK1 => ?_
 refine x_region ?_
 refine s_go (s_assign) ?_
 try simp only [opv, n1, n2, n3, n4, Value.cells]
 refine x_nil ?_
 refine hK1 _ _ ?_
 refine x_seq fun K2 hK2 => ?_
 refine x_region ?_
 refine s_go (s_move) ?_
 try simp only [opv, n1, n2, n3, n4, Value.cells]
 refine s_go (s_build_struct (cells := #[.int .u32 0, .int .u32 0, .int .u32 0, .int .u32 0, .int .u32 0, .int .u32 0, .int .u32 0, .int .u32 0, .int .u32 0, .int .u32 0, .int .u32 0, .int .u32 0, .int .u32 0, .int .u32 0, .int .u32 0, .int .u32 0, _]) Try.underlying67 ti67 bp67 (hc := by simp only [List.map_toArray, List.map_cons, List.map_nil, opv, n1, n2, n3, n4, Value.cells, List.toList_toArray]; (repeat (refine fill_cons rfl rfl (Nat.le_of_ble_eq_true rfl) ?_)); rfl)) ?_
 try simp only [opv, n1, n2, n3, n4, Value.cells]
 rw [show (#[.int .u32 0, .int .u32 0, .int .u32 0, .int .u32 0, .int .u32 0, .int .u32 0, .int .u32 0, .int .u32 0, .int .u32 0, .int .u32 0, .int .u32 0, .int .u32 0, .int .u32 0, .int .u32 0, .int .u32 0, .int .u32 0, .slice A l.length c] : Array Value) = SetC (List.replicate 16 0) (.slice A l.length c) from rfl]
 refine s_go (s_move) ?_
 try simp only [opv, n1, n2, n3, n4, Value.cells]
 refine s_go (s_build_struct (cells := #[.int .u32 0, .int .u32 0, .int .u32 0, .int .u32 0, .int .u32 0, .int .u32 0, .int .u32 0, .int .u32 0, .int .u32 0, .int .u32 0, .int .u32 0, .int .u32 0, .int .u32 0, .int .u32 0, .int .u32 0, .int .u32 0, _]) Try.underlying67 ti67 bp67 (hc := by simp only [List.map_toArray, List.map_cons, List.map_nil, opv, n1, n2, n3, n4, Value.cells, List.toList_toArray]; (repeat (refine fill_cons rfl rfl (Nat.le_of_ble_eq_true rfl) ?_)); rfl)) ?_
 try simp only [opv, n1, n2, n3, n4, Value.cells]
 rw [show (#[.int .u32 0, .int .u32 0, .int .u32 0, .int .u32 0, .int .u32 0, .int .u32 0, .int .u32 0, .int .u32 0, .int .u32 0, .int .u32 0, .int .u32 0, .int .u32 0, .int .u32 0, .int .u32 0, .int .u32 0, .int .u32 0, .slice B r.length d] : Array Value) = SetC (List.replicate 16 0) (.slice B r.length d) from rfl]
 refine s_call en32 ?_
 try simp only [opv, n1, n2, n3, n4, Value.cells, List.map_toArray, List.map_cons, List.map_nil, List.append_toArray, List.cons_append, List.nil_append, Array.append_empty]
 refine CallR.mono (c_ref13Same _ _ _ h0l h0l A c l (hS.hasRd (by repeat (first | exact Has.head | apply Has.tail))) hu B d r (hS.hasRd (by repeat (first | exact Has.head | apply Has.tail))) hu2 hn) ?_
 rintro _ w1 ⟨rfl, hE1⟩
 replace hS := hS.ext hE1
 try simp only [opv, n1, n2, n3, n4, Value.cells]
 refine s_go (s_assign) ?_
 try simp only [opv, n1, n2, n3, n4, Value.cells]
 refine x_nil ?_
 refine hK2 _ _ ?_
 refine x_ret ?_
 refine r_tmp rfl ?_
 exact ⟨congrArg Value.bool (decide_eq_decide.2 ⟨fun h => (Prod.mk.inj h).2, fun h => by rw [h]⟩), hS.ext_of⟩
end Go.Proofs.Ytffmanidnlbjjaa
set_option linter.unusedSimpArgs false
set_option linter.unusedVariables false
set_option maxHeartbeats 3000000
set_option maxRecDepth 100000
namespace Go.Proofs.Ytffmanidnlbjjaa
open Go.RowKit

def fl2 : List Int := (List.replicate 16 (0 : Int)).set 0 2
def fl4 : List Int := (List.replicate 16 (0 : Int)).set 0 4
theorem set_ext {v : List Int} (h : v.length = 16) (s : Value) : (SetC v s).extract 0 (0 + 16) = ic .u32 v := by
  rw [← set_flo h s]; apply Array.ext'; simp
theorem dal_1 : addS (List.replicate 16 0) [1, 2, 4] = (fl2, [4]) := by decide +kernel
theorem dal_2 : addS fl2 [4, 3] = (fl4, []) := by decide +kernel
theorem dal_3 : cntS (addS fl2 [4]) = 3 := by decide +kernel
theorem fl2_ok : VOk fl2 := VOk.zero.set (by decide) (by decide)
theorem u_one {x : Int} (h : 0 ≤ x ∧ x < 18446744073709551616) : U64s [x] := fun y hy => by rw [List.mem_singleton] at hy; rw [hy]; exact h

theorem c_law13alive  (w0 : World) :
    CallR Try.prog 31 #[] w0 fun v w' => v = .bool true ∧ Ext w0 w' := by
 have hS : St NoB w0 w0 [] := St.start w0
 have h2l : fl2.length = 16 := rfl
 have h4l : fl4.length = 16 := rfl
 refine c_enter (l := [undef, undef, undef, undef, undef, undef, undef, undef, undef, undef, undef, undef, undef, undef, undef, undef, undef, undef, undef, undef, undef, undef, undef, undef, undef, undef, undef]) Try.func31 rfl (by simp only [Try.ntmps31, List.size_toArray, List.length_cons, List.length_nil, Nat.reduceAdd, Nat.reduceSub, Array.replicate_succ, Array.replicate_zero, List.push_toArray, List.append_toArray, List.nil_append, List.cons_append]) ?_
 refine x_seq fun K1 hK1 => ?_
 refine x_region ?_
 refine s_go (s_assign) ?_
 try simp only [opv, n1, n2, n3, n4, Value.cells]
 refine x_nil ?_
 refine hK1 _ _ ?_
 refine x_seq fun K2 hK2 => ?_
 refine x_region ?_
 refine m_buildRow (cells := #[_, _, _]) Try.underlying65 ti48 (hc := by simp only [List.map_toArray, List.map_cons, List.map_nil, opv, n1, n2, n3, n4, Value.cells, List.toList_toArray]; (repeat (refine fill_cons rfl rfl (Nat.le_of_ble_eq_true rfl) ?_)); rfl) (hS := hS) (h := fun w1 g1 hS => ?_)
 try simp only [opv, n1, n2, n3, n4, Value.cells, Array.toArray_toList] at hS ⊢
 replace hS := hS.obj_rd (sz := 1) (n := 3) rfl .head
 refine s_call en34 ?_
 try simp only [opv, n1, n2, n3, n4, Value.cells, List.map_toArray, List.map_cons, List.map_nil, List.append_toArray, List.cons_append, List.nil_append, Array.append_empty]
 refine CallR.mono (c_dotsOf _ _ _ [1, 2, 4] (hS.hasRd (by repeat (first | exact Has.head | apply Has.tail))) (by unfold U64s; decide) (by decide)) ?_
 rintro _ w2 ⟨D, e, rfl, hC2⟩
 replace hS := hS.call hC2
 simp only [List.cons_append, List.nil_append, List.append_nil] at hS ⊢
 rw [dal_1] at hS ⊢
 try simp only [opv, n1, n2, n3, n4, Value.cells]
 refine m_alloc ti72 hS (fun w3 g3 hS => ?_)
 try simp only [opv, n1, n2, n3, n4, Value.cells, Array.toArray_toList] at hS ⊢
 replace hS : St NoB w0 w3 (.obj g3 (.cells (SetC (List.replicate 16 0) (.slice none 0 0)) 72 (0, 0)) :: _) := hS
 have h0l : (List.replicate 16 (0 : Int)).length = 16 := rfl
 refine m_store_obj ti72 (hS := hS) (hv := setC_size (by assumption) _) (h1 := set_one _ _ _ _) (hfit := by rw [setC_size (by assumption)]; omega) (hc := set_whole (by assumption) (by assumption) _ _) (h := fun w4 hS => ?_)
 try simp only [opv, n1, n2, n3, n4, Value.cells, Array.toArray_toList] at hS ⊢
 refine x_nil ?_
 refine hK2 _ _ ?_
 refine x_seq fun K3 hK3 => ?_
 refine x_region ?_
 first | refine s_go (m_fieldAddr Try.underlying72 (hi := ti70)) ?_ | refine s_go (m_fieldAddr_rd Try.underlying72 (hi := ti70) (hS := hS)) ?_ | refine s_go (m_fieldAddr_vec Try.underlying72 (hi := ti70) (hS := hS)) ?_
 try simp only [opv, n1, n2, n3, n4, Value.cells, Nat.zero_add, Nat.add_zero, List.getElem_toArray, List.getElem_cons_zero, List.getElem_cons_succ]
 refine s_go (m_loada_obj Try.underlying70 (hi := ti70) (hS := hS) (hfit := by rw [setC_size (by assumption)]; decide)) ?_
 try simp only [opv, n1, n2, n3, n4, Value.cells, List.getElem_toArray, List.getElem_cons_zero, List.getElem_cons_succ]
 rw [set_flo (by assumption)]
 refine s_go (s_build_arr (cells := #[_, .int .u32 0, .int .u32 0, .int .u32 0, .int .u32 0, .int .u32 0, .int .u32 0, .int .u32 0, .int .u32 0, .int .u32 0, .int .u32 0, .int .u32 0, .int .u32 0, .int .u32 0, .int .u32 0, .int .u32 0]) Try.underlying70 ti70 ti29 (hc := by simp only [List.map_toArray, List.map_cons, List.map_nil, opv, n1, n2, n3, n4, Value.cells, List.toList_toArray]; (repeat (refine fill_cons rfl rfl (Nat.le_of_ble_eq_true rfl) ?_)); rfl)) ?_
 try simp only [opv, n1, n2, n3, n4, Value.cells]
 rw [show (#[.int .u32 2, .int .u32 0, .int .u32 0, .int .u32 0, .int .u32 0, .int .u32 0, .int .u32 0, .int .u32 0, .int .u32 0, .int .u32 0, .int .u32 0, .int .u32 0, .int .u32 0, .int .u32 0, .int .u32 0, .int .u32 0] : Array Value) = ic .u32 fl2 from rfl]
 refine s_go (s_eql_agg eqv70 (hg := eg70) (hX := zi_ic (by assumption)) (hY := zi_ic (by assumption)) (h1 := by assumption) (h2 := by assumption)) ?_
 try simp only [opv, n1, n2, n3, n4, Value.cells]
 try simp only [eq_self, decide_true, beq_self_eq_true, Bool.and_self]
 refine s_go (s_move) ?_
 try simp only [opv, n1, n2, n3, n4, Value.cells]
 refine g_on (yi (t := 8) rfl rfl) ?_
 first | refine s_go (m_fieldAddr Try.underlying72 (hi := ti65)) ?_ | refine s_go (m_fieldAddr_rd Try.underlying72 (hi := ti65) (hS := hS)) ?_ | refine s_go (m_fieldAddr_vec Try.underlying72 (hi := ti65) (hS := hS)) ?_
 try simp only [opv, n1, n2, n3, n4, Value.cells, Nat.zero_add, Nat.add_zero, List.getElem_toArray, List.getElem_cons_zero, List.getElem_cons_succ]
 refine g_on (yi (t := 8) rfl rfl) ?_
 refine s_go (m_load_obj Try.underlying65 (hS := hS) (hv := set_sl (by assumption) _)) ?_
 try simp only [opv, n1, n2, n3, n4, Value.cells, List.getElem_toArray, List.getElem_cons_zero, List.getElem_cons_succ]
 refine g_on (yi (t := 8) rfl rfl) ?_
 refine s_go (s_len_sl Try.underlying65) ?_
 try simp only [opv, n1, n2, n3, n4, Value.cells]
 refine g_on (yi (t := 8) rfl rfl) ?_
 refine s_go (s_eql) ?_
 try simp only [opv, n1, n2, n3, n4, Value.cells]
 try simp only [eq_self, decide_true, beq_self_eq_true, Bool.and_self]
 first | refine s_go (s_pick_t) ?_ | refine s_go (s_pick_f) ?_
 try simp only [opv, n1, n2, n3, n4, Value.cells]
 refine s_go (s_move) ?_
 try simp only [opv, n1, n2, n3, n4, Value.cells]
 refine g_on (yi (t := 14) rfl rfl) ?_
 refine s_go (m_load_row Try.underlying72 (hi := ti72) (hS := hS) (hfit := by rw [setC_size (by assumption)])) ?_
 try simp only [opv, n1, n2, n3, n4, Value.cells, List.getElem_toArray, List.getElem_cons_zero, List.getElem_cons_succ]
 refine g_on (yi (t := 14) rfl rfl) ?_
 refine m_buildRow (cells := #[_]) Try.underlying65 ti48 (hc := by simp only [List.map_toArray, List.map_cons, List.map_nil, opv, n1, n2, n3, n4, Value.cells, List.toList_toArray]; (repeat (refine fill_cons rfl rfl (Nat.le_of_ble_eq_true rfl) ?_)); rfl) (hS := hS) (h := fun w5 g5 hS => ?_)
 try simp only [opv, n1, n2, n3, n4, Value.cells, Array.toArray_toList] at hS ⊢
 replace hS := hS.obj_rd (sz := 1) (n := 1) rfl .head
 refine g_on (yi (t := 14) rfl rfl) ?_
 refine s_call en36 ?_
 try simp only [opv, n1, n2, n3, n4, Value.cells, List.map_toArray, List.map_cons, List.map_nil, List.append_toArray, List.cons_append, List.nil_append, Array.append_empty]
 refine CallR.mono (c_dotsAdd _ fl2 fl2_ok D e [4] (hS.vecRd (by repeat (first | exact Has.head | apply Has.tail))) (u_one (by decide)) _ _ [3] (hS.hasRd (by repeat (first | exact Has.head | apply Has.tail))) (u_one (by decide)) (by decide)) ?_
 rintro _ w6 ⟨D2, e2, rfl, hC6⟩
 replace hS := hS.call hC6
 simp only [List.cons_append, List.nil_append, List.append_nil] at hS ⊢
 rw [dal_2] at hS ⊢
 try simp only [opv, n1, n2, n3, n4, Value.cells]
 refine g_on (yi (t := 14) rfl rfl) ?_
 refine s_go (s_field_agg Try.underlying72 (hu := Try.underlying70) (hi := ti70)) ?_
 try simp only [opv, n1, n2, n3, n4, Value.cells, List.getElem_toArray, List.getElem_cons_zero, List.getElem_cons_succ]
 rw [set_ext (by assumption)]
 refine g_on (yi (t := 14) rfl rfl) ?_
 refine s_go (s_build_arr (cells := #[_, .int .u32 0, .int .u32 0, .int .u32 0, .int .u32 0, .int .u32 0, .int .u32 0, .int .u32 0, .int .u32 0, .int .u32 0, .int .u32 0, .int .u32 0, .int .u32 0, .int .u32 0, .int .u32 0, .int .u32 0]) Try.underlying70 ti70 ti29 (hc := by simp only [List.map_toArray, List.map_cons, List.map_nil, opv, n1, n2, n3, n4, Value.cells, List.toList_toArray]; (repeat (refine fill_cons rfl rfl (Nat.le_of_ble_eq_true rfl) ?_)); rfl)) ?_
 try simp only [opv, n1, n2, n3, n4, Value.cells]
 rw [show (#[.int .u32 4, .int .u32 0, .int .u32 0, .int .u32 0, .int .u32 0, .int .u32 0, .int .u32 0, .int .u32 0, .int .u32 0, .int .u32 0, .int .u32 0, .int .u32 0, .int .u32 0, .int .u32 0, .int .u32 0, .int .u32 0] : Array Value) = ic .u32 fl4 from rfl]
 refine g_on (yi (t := 14) rfl rfl) ?_
 refine s_go (s_eql_agg eqv70 (hg := eg70) (hX := zi_ic (by assumption)) (hY := zi_ic (by assumption)) (h1 := by assumption) (h2 := by assumption)) ?_
 try simp only [opv, n1, n2, n3, n4, Value.cells]
 try simp only [eq_self, decide_true, beq_self_eq_true, Bool.and_self]
 first | refine s_go (s_pick_t) ?_ | refine s_go (s_pick_f) ?_
 try simp only [opv, n1, n2, n3, n4, Value.cells]
 refine s_go (s_move) ?_
 try simp only [opv, n1, n2, n3, n4, Value.cells]
 refine g_on (yi (t := 22) rfl rfl) ?_
 refine s_go (m_load_row Try.underlying72 (hi := ti72) (hS := hS) (hfit := by rw [setC_size (by assumption)])) ?_
 try simp only [opv, n1, n2, n3, n4, Value.cells, List.getElem_toArray, List.getElem_cons_zero, List.getElem_cons_succ]
 refine g_on (yi (t := 22) rfl rfl) ?_
 refine s_call en42 ?_
 try simp only [opv, n1, n2, n3, n4, Value.cells, List.map_toArray, List.map_cons, List.map_nil, List.append_toArray, List.cons_append, List.nil_append, Array.append_empty]
 refine CallR.mono (c_dotsCount _ fl2 fl2_ok D e [4] (hS.vecRd (by repeat (first | exact Has.head | apply Has.tail))) (u_one (by decide)) (by decide)) ?_
 rintro _ w7 ⟨rfl, hE7⟩
 replace hS := hS.ext hE7
 try simp only [opv, n1, n2, n3, n4, Value.cells]
 rw [dal_3]
 refine g_on (yi (t := 22) rfl rfl) ?_
 refine s_go (s_eql) ?_
 try simp only [opv, n1, n2, n3, n4, Value.cells]
 try simp only [eq_self, decide_true, beq_self_eq_true, Bool.and_self]
 first | refine s_go (s_pick_t) ?_ | refine s_go (s_pick_f) ?_
 try simp only [opv, n1, n2, n3, n4, Value.cells]
 refine s_go (s_assign) ?_
 try simp only [opv, n1, n2, n3, n4, Value.cells]
 refine x_nil ?_
 refine hK3 _ _ ?_
 refine x_ret ?_
 refine r_tmp rfl ?_
 exact ⟨rfl, hS.ext_of⟩
end Go.Proofs.Ytffmanidnlbjjaa
