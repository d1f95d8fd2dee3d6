/- Rules, plain words and walks that the claim leans on: Sc, Lzopen, Tb, Vj, Tc. -/
import Derived.Test.YtffmanidnlbjjaaZChunkFewest4
set_option linter.unusedSimpArgs false
set_option linter.unusedVariables false
set_option linter.unusedSimpArgs false
set_option linter.unusedVariables false
set_option maxHeartbeats 3000000
set_option maxRecDepth 100000
namespace Go.Proofs.Ytffmanidnlbjjaa
open Go.RowKit

def ck1 (i : Nat) : List Int := mkKey 1 1 [97, 0, 0, 0, 0, 0, 0, 0] 2 i ++ mkV 1 nm0
def ckL (k : Nat) : List (List Int) := (List.range k).map fun i => ck1 (i + 1)
theorem ckL_succ (k : Nat) : ckL (k + 1) = ckL k ++ [ck1 (k + 1)] := by rw [ckL, List.range_succ, List.map_append]; rfl
theorem ckL_len (k : Nat) : (ckL k).length = k := by rw [ckL, List.length_map, List.length_range]
theorem ck1_ok {i : Nat} (h : i < 4294967296) : AtomOk (ck1 i) := kv_ok (mkKey_ok rfl (by unfold Byt; decide) (by decide) (by decide) (by decide) h) ⟨rfl, by decide, by decide, nm0_byt⟩
theorem ckL_ok {k : Nat} (h : k ≤ 3) : AOks (ckL k) := fun a ha => by
  obtain ⟨i, hi, rfl⟩ := List.mem_map.1 ha
  rw [List.mem_range] at hi
  exact ck1_ok (by omega)
theorem ck_1 : cutE 14 (normP (ckL 3)) = 0 := by decide +kernel
theorem ck_2 : normP (ckL 3) ≠ [] := by decide +kernel
theorem ck_3 : 1 + cost 14 14 (normP (ckL 3)) = 2 := by decide +kernel
theorem ck_4 : bySz (normP (ckL 3)) = 21 := by decide +kernel
theorem ck_5 : lstS (normP (ckL 3)) = 7 := by decide +kernel
theorem pws_get {B : Option Addr} {s : List (List Int)} {cp : Nat × Nat → Nat} {ps : List (Nat × Nat)} {k : Nat} {p : Nat × Nat} (hk : k < ps.length) (hp : ps.getD k (0, 0) = p) : ((ps.map (rwP B s cp)).map rwV)[k]? = some (.slice (B.map (·.add (p.1 * 21))) (cutS s p).length (cp p)) := by
  rw [List.getElem?_map, List.getElem?_map, List.getElem?_eq_getElem hk]
  rw [List.getD_eq_getElem?_getD, List.getElem?_eq_getElem hk] at hp
  have hp : ps[k] = p := hp
  rw [hp]; rfl
def flS (s : List (List Int)) (ps : List (Nat × Nat)) (k : Nat) : List (List Int) := ((ps.take k).map (cutS s)).flatten
theorem fl_step {s : List (List Int)} {ps : List (Nat × Nat)} {k : Nat} {p : Nat × Nat} (hk : k < ps.length) (hp : ps.getD k (0, 0) = p) : flS s ps (k + 1) = flS s ps k ++ cutS s p := by
  rw [List.getD_eq_getElem?_getD, List.getElem?_eq_getElem hk] at hp
  have hp : ps[k] = p := hp
  rw [flS, List.take_succ_eq_append_getElem hk, List.map_append, List.flatten_append, hp]; simp [flS]
theorem fl_all {s : List (List Int)} {ps : List (Nat × Nat)} (h : Chn 0 ps s.length) : flS s ps ps.length = s := by
  rw [flS, List.take_of_length_le (Nat.le_refl _), chn_flat h]; simp
theorem fl_len {s : List (List Int)} {ps : List (Nat × Nat)} (h : Chn 0 ps s.length) (k : Nat) : (flS s ps k).length ≤ s.length := by
  have e := fl_all h
  have e2 : (flS s ps k).length ≤ (flS s ps ps.length).length := by
    unfold flS
    rw [List.take_of_length_le (Nat.le_refl _)]
    conv => rhs; rw [← List.take_append_drop k ps]
    rw [List.map_append, List.flatten_append, List.length_append]; omega
  rw [e] at e2; exact e2
theorem law_fewest {b : Int} {s : List (List Int)} {ps qs : List (Nat × Nat)} {B : Option Addr} {cp : Nat × Nat → Nat} (hs : StaR s) (h1 : ps.length = if s = [] then 0 else 1 + cost b b s) (h2 : Chn 0 qs s.length) (h3 : ((qs.map (rwP B s cp)).all fun r => decide (bySz (normP r.l) ≤ b)) = true) : ps.length ≤ qs.length := by
  rw [h1]
  split
  · omega
  · next hne =>
    have hfl : (qs.map (cutS s)).flatten = s := by rw [chn_flat h2]; simp
    have := fewest (b := b) (qs := qs.map (cutS s)) (fun q hq => by
      obtain ⟨p, hp, rfl⟩ := List.mem_map.1 hq
      have h4 := (chn_le h2).2 p hp
      have h5 := List.all_eq_true.1 h3 (rwP B s cp p) (List.mem_map.2 ⟨p, hp, rfl⟩)
      have h5 := of_decide_eq_true h5
      rw [show (rwP B s cp p).l = cutS s p from rfl, cut_norm hs] at h5
      exact ⟨cut_ne h4.1 h4.2, h5⟩) (by rw [hfl]; exact hne)
    rw [hfl, List.length_map] at this; exact this

theorem c_ref10NormC (w0 : World) (A : Option Addr) (c : Nat) (l : List (List Int)) (hr : Rd w0 A 21 l.length (arows l)) (hv : AOks l) (hn : l.length ≤ 1000000000) (hlc : l.length ≤ c)  :
    CallR Try.prog 27 #[.slice A l.length c] w0 fun v w' => ∃ (B : Option Addr) (d : Nat), v = .slice B (normP l).length d ∧ (normP l).length ≤ d ∧ RBack w0 w' A l B (normP l) := by
 have hS := St.rd1 (S := NoB) hr
 have hvl := arows_len l
 refine c_enter (l := [.slice A l.length c, undef, undef, undef, undef, undef, undef, undef, undef, undef, undef, undef, undef, undef, undef, undef, undef, undef, undef, undef, undef, undef, undef, undef, undef, undef]) Try.func27 rfl (by simp only [Try.ntmps27, List.size_toArray, List.length_cons, List.length_nil, Nat.reduceAdd, Nat.reduceSub, Array.replicate_succ, Array.replicate_zero, List.push_toArray, List.append_toArray, List.nil_append, List.cons_append]) ?_
 refine x_seq fun K1 hK1 => ?_
 refine x_region ?_
 refine s_go (s_assign) ?_
 try simp only [opv, n1, n2, n3, n4, Value.cells]
 refine x_nil ?_
 refine hK1 _ _ ?_
 refine x_seq fun K2 hK2 => ?_
 refine x_seq fun K3 hK3 => ?_
 refine x_region ?_
 refine s_go (s_move) ?_
 try simp only [opv, n1, n2, n3, n4, Value.cells]
 refine s_call en70 ?_
 try simp only [opv, n1, n2, n3, n4, Value.cells, List.map_toArray, List.map_cons, List.map_nil, List.append_toArray, List.cons_append, List.nil_append, Array.append_empty]
 refine CallR.mono (c_ref10Right _ A c l (hS.hasRd (by repeat (first | exact Has.head | apply Has.tail))) hv hn) ?_
 rintro _ w1 ⟨rfl, hE1⟩
 replace hS := hS.ext hE1
 try simp only [opv, n1, n2, n3, n4, Value.cells]
 refine x_nil ?_
 refine hK3 _ _ ?_
 refine x_cond (ht := fun hc1 => ?_) (hf := fun hc1 => ?_)
 ·
  try simp only [decide_eq_true_eq, decide_eq_false_iff_not, Bool.not_eq_true', Bool.not_eq_false', Int.not_lt, Int.not_le, ne_eq, Decidable.not_not, bne_iff_ne, beq_iff_eq, not_true_eq_false, not_false_eq_true] at hc1
  have hid := norm_id ((right_iff hv).1 hc1)
  refine x_seq fun K4 hK4 => ?_
  refine x_region ?_
  refine s_go (s_move) ?_
  try simp only [opv, n1, n2, n3, n4, Value.cells]
  refine s_go (s_assign) ?_
  try simp only [opv, n1, n2, n3, n4, Value.cells]
  refine x_nil ?_
  refine hK4 _ _ ?_
  refine x_ret ?_
  refine r_tmp rfl ?_
  exact ⟨A, c, by rw [hid]; rfl, by rw [hid]; exact hlc, rback_self hS.ext_of (hS.hasRd (by repeat (first | exact Has.head | apply Has.tail))) hid⟩
 ·
  try simp only [decide_eq_true_eq, decide_eq_false_iff_not, Bool.not_eq_true', Bool.not_eq_false', Int.not_lt, Int.not_le, ne_eq, Decidable.not_not, bne_iff_ne, beq_iff_eq, not_true_eq_false, not_false_eq_true] at hc1
  refine x_skip ?_
  refine hK2 _ _ ?_
  refine x_seq fun K5 hK5 => ?_
  refine x_region ?_
  replace hS := hS.nil_vec 54 21
  refine s_go (s_assign) ?_
  try simp only [opv, n1, n2, n3, n4, Value.cells]
  refine x_nil ?_
  refine hK5 _ _ ?_
  refine x_seq fun K6 hK6 => ?_
  refine x_seq fun K7 hK7 => ?_
  refine x_region ?_
  refine s_go (s_assign) ?_
  try simp only [opv, n1, n2, n3, n4, Value.cells]
  refine x_nil ?_
  refine hK7 _ _ ?_
  refine x_block ?_
  refine x_loop [3, 4, 8, 9, 10, 11, 12, 13, 14, 15, 16, 17, 18, 19, 20, 21, 22, 23, 24] (fun m f w => ∃ (k : Nat) (B : Option Addr) (d : Nat), k ≤ l.length ∧ m = l.length - k ∧ f 4 = .int .i64 (k : Int) ∧ f 3 = .slice B (normP (l.take k)).length d ∧ St NoB w0 w [.vec B d 54 21 (normP (l.take k)).length (arows (normP (l.take k))), .rd A 21 (l).length (arows (l))]) (l.length) ?init1 (fun m1 f1 wl1 hI => ?_)
  case init1 =>
   try simp only [opv, n1, n2, n3, n4, Value.cells]
   exact ⟨0, none, 0, by omega, rfl, rfl, rfl, hS.sel (by repeat (first | exact Sel.nil | (refine Sel.cons (by repeat (first | exact Del.head | apply Del.tail)) ?_)))⟩
  obtain ⟨k, B, d, hk0, hm, h4, h3, hS⟩ := hI
  simp only [clob, List.foldl, n3, n4, h4, h3]
  obtain ⟨x, hx⟩ : ∃ x, l.getD k [] = x := ⟨_, rfl⟩
  have hlk := norm_len (l.take k)
  have hlt : (l.take k).length ≤ l.length := by rw [List.length_take]; omega
  refine x_seq fun K8 hK8 => ?_
  refine x_seq fun K9 hK9 => ?_
  refine x_region ?_
  refine s_go (s_move) ?_
  try simp only [opv, n1, n2, n3, n4, Value.cells]
  refine s_go (s_move) ?_
  try simp only [opv, n1, n2, n3, n4, Value.cells]
  refine s_go (s_len_sl Try.underlying22) ?_
  try simp only [opv, n1, n2, n3, n4, Value.cells]
  refine s_go (s_lss) ?_
  try simp only [opv, n1, n2, n3, n4, Value.cells]
  refine x_nil ?_
  refine hK9 _ _ ?_
  refine x_cond (ht := fun hc2 => ?_) (hf := fun hc2 => ?_)
  ·
   try simp only [decide_eq_true_eq, decide_eq_false_iff_not, Bool.not_eq_true', Bool.not_eq_false', Int.not_lt, Int.not_le, ne_eq, Decidable.not_not, bne_iff_ne, beq_iff_eq, not_true_eq_false, not_false_eq_true] at hc2
   have ha : AtomOk x := by rw [← hx]; exact hv.get (by omega)
   have hal := ha.len
   have hk := ha.key
   have hkl := hk.len
   have htk := norm_tk (by omega) hx hv
   refine x_skip ?_
   refine hK8 _ _ ?_
   refine x_seq fun K10 hK10 => ?_
   refine x_block ?_
   refine x_seq fun K11 hK11 => ?_
   refine x_region ?_
   refine s_go (s_move) ?_
   try simp only [opv, n1, n2, n3, n4, Value.cells]
   refine s_go (s_move) ?_
   try simp only [opv, n1, n2, n3, n4, Value.cells]
   first | refine s_go (m_indexAddr_rd Try.underlying22 ti54 (hS := hS)) ?_ | refine s_go (m_indexAddr_vec Try.underlying22 ti54 (hS := hS)) ?_
   try simp only [opv, n1, n2, n3, n4, Value.cells, Nat.mul_one, Nat.zero_add, Int.toNat_natCast, Int.reduceToNat]
   first | refine s_go (m_load_row Try.underlying54 (hi := ti54) (hS := hS) (hfit := by rw [arows_len]; omega)) ?_ | refine s_go (m_loada_obj Try.underlying54 (hi := ti54) (hS := hS) (hfit := by rw [arows_len]; omega)) ?_ | refine s_go (m_loada_bx Try.underlying54 (hi := ti54) (hS := hS) (hfit := by rw [arows_len]; omega)) ?_ | refine s_go (m_loada_rd Try.underlying54 (hi := ti54) (hS := hS) (hfit := by rw [arows_len]; omega)) ?_ | refine s_go (m_loada_vec Try.underlying54 (hi := ti54) (hS := hS) (hfit := by rw [arows_len]; omega)) ?_
   try simp only [opv, n1, n2, n3, n4, Value.cells, List.getElem_toArray, List.getElem_cons_zero, List.getElem_cons_succ]
   rw [arow_get (by omega) hv, hx]
   refine s_call en71 ?_
   try simp only [opv, n1, n2, n3, n4, Value.cells, List.map_toArray, List.map_cons, List.map_nil, List.append_toArray, List.cons_append, List.nil_append, Array.append_empty]
   refine CallR.mono (c_ref09Right x ha _) ?_
   rintro _ w2 ⟨rfl, hE2⟩
   replace hS := hS.ext hE2
   try simp only [opv, n1, n2, n3, n4, Value.cells]
   refine x_nil ?_
   refine hK11 _ _ ?_
   refine x_cond (ht := fun hc3 => ?_) (hf := fun hc3 => ?_)
   ·
    try simp only [decide_eq_true_eq, decide_eq_false_iff_not, Bool.not_eq_true', Bool.not_eq_false', Int.not_lt, Int.not_le, ne_eq, Decidable.not_not, bne_iff_ne, beq_iff_eq, not_true_eq_false, not_false_eq_true] at hc3
    have hst := htk.1 hc3
    refine x_region ?_
    refine s_go (s_move) ?_
    try simp only [opv, n1, n2, n3, n4, Value.cells]
    refine s_go (s_move) ?_
    try simp only [opv, n1, n2, n3, n4, Value.cells]
    refine s_go (s_move) ?_
    try simp only [opv, n1, n2, n3, n4, Value.cells]
    first | refine s_go (m_indexAddr_rd Try.underlying22 ti54 (hS := hS)) ?_ | refine s_go (m_indexAddr_vec Try.underlying22 ti54 (hS := hS)) ?_
    try simp only [opv, n1, n2, n3, n4, Value.cells, Nat.mul_one, Nat.zero_add, Int.toNat_natCast, Int.reduceToNat]
    first | refine s_go (m_load_row Try.underlying54 (hi := ti54) (hS := hS) (hfit := by rw [arows_len]; omega)) ?_ | refine s_go (m_loada_obj Try.underlying54 (hi := ti54) (hS := hS) (hfit := by rw [arows_len]; omega)) ?_ | refine s_go (m_loada_bx Try.underlying54 (hi := ti54) (hS := hS) (hfit := by rw [arows_len]; omega)) ?_ | refine s_go (m_loada_rd Try.underlying54 (hi := ti54) (hS := hS) (hfit := by rw [arows_len]; omega)) ?_ | refine s_go (m_loada_vec Try.underlying54 (hi := ti54) (hS := hS) (hfit := by rw [arows_len]; omega)) ?_
    try simp only [opv, n1, n2, n3, n4, Value.cells, List.getElem_toArray, List.getElem_cons_zero, List.getElem_cons_succ]
    rw [arow_get (by omega) hv, hx]
    refine s_call en72 ?_
    try simp only [opv, n1, n2, n3, n4, Value.cells, List.map_toArray, List.map_cons, List.map_nil, List.append_toArray, List.cons_append, List.nil_append, Array.append_empty]
    refine CallR.mono (c_ref10put _ B d (normP (l.take k)) (hS.vecRd (by repeat (first | exact Has.head | apply Has.tail))) (norm_sta (hv.take k)).ok (by omega) x ha) ?_
    rintro _ w3 ⟨B3, d3, rfl, hC3⟩
    replace hS := hS.call hC3
    simp only [List.cons_append, List.nil_append] at hS
    try simp only [opv, n1, n2, n3, n4, Value.cells]
    refine s_go (s_assign) ?_
    try simp only [opv, n1, n2, n3, n4, Value.cells]
    refine x_nil ?_
    refine hK10 _ _ ?_
    refine x_region ?_
    refine s_go (s_move) ?_
    try simp only [opv, n1, n2, n3, n4, Value.cells]
    refine s_go (s_add (hc := by first | exact wr_i64 (by omega) (by omega) | rfl)) ?_
    try simp only [opv, n1, n2, n3, n4, Value.cells]
    refine s_go (s_assign) ?_
    try simp only [opv, n1, n2, n3, n4, Value.cells]
    refine x_nil ?_
    refine loop_back (m' := l.length - (k + 1)) (by simp only [clob, List.foldl, n1, n2, n3, n4]) ?_ ?_
    · try simp only [opv, n1, n2, n3, n4, Value.cells]
      exact ⟨k + 1, _, _, by omega, by omega, by rfl, by rw [hst], by rw [hst]; exact hS.sel (by repeat (first | exact Sel.nil | (refine Sel.cons (by repeat (first | exact Del.head | apply Del.tail)) ?_)))⟩
    · omega
   ·
    try simp only [decide_eq_true_eq, decide_eq_false_iff_not, Bool.not_eq_true', Bool.not_eq_false', Int.not_lt, Int.not_le, ne_eq, Decidable.not_not, bne_iff_ne, beq_iff_eq, not_true_eq_false, not_false_eq_true] at hc3
    have hst := htk.2 (by simpa using hc3)
    refine x_skip ?_
    refine hK10 _ _ ?_
    refine x_region ?_
    refine s_go (s_move) ?_
    try simp only [opv, n1, n2, n3, n4, Value.cells]
    refine s_go (s_add (hc := by first | exact wr_i64 (by omega) (by omega) | rfl)) ?_
    try simp only [opv, n1, n2, n3, n4, Value.cells]
    refine s_go (s_assign) ?_
    try simp only [opv, n1, n2, n3, n4, Value.cells]
    refine x_nil ?_
    refine loop_back (m' := l.length - (k + 1)) (by simp only [clob, List.foldl, n1, n2, n3, n4]) ?_ ?_
    · try simp only [opv, n1, n2, n3, n4, Value.cells]
      exact ⟨k + 1, _, _, by omega, by omega, by rfl, by rw [hst], by rw [hst]; exact hS.sel (by repeat (first | exact Sel.nil | (refine Sel.cons (by repeat (first | exact Del.head | apply Del.tail)) ?_)))⟩
    · omega
  ·
   try simp only [decide_eq_true_eq, decide_eq_false_iff_not, Bool.not_eq_true', Bool.not_eq_false', Int.not_lt, Int.not_le, ne_eq, Decidable.not_not, bne_iff_ne, beq_iff_eq, not_true_eq_false, not_false_eq_true] at hc2
   obtain rfl : k = l.length := by omega
   rw [List.take_of_length_le (Nat.le_refl _)] at hS ⊢
   refine x_exit (look_here ?_)
   refine hK6 _ _ ?_
   refine x_seq fun K12 hK12 => ?_
   refine x_region ?_
   refine s_go (s_move) ?_
   try simp only [opv, n1, n2, n3, n4, Value.cells]
   refine s_go (s_assign) ?_
   try simp only [opv, n1, n2, n3, n4, Value.cells]
   refine x_nil ?_
   refine hK12 _ _ ?_
   refine x_ret ?_
   refine r_tmp rfl ?_
   exact ⟨_, _, rfl, hS.vec_cap (by repeat (first | exact Has.head | apply Has.tail)), rback_vec hS (by repeat (first | exact Has.head | apply Has.tail))⟩
theorem c_law21alive  (w0 : World) :
    CallR Try.prog 25 #[] w0 fun v w' => v = .bool true ∧ Ext w0 w' := by
 have hS : St NoB w0 w0 [] := St.start w0
 have hn0l : nm0.length = 8 := rfl
 refine c_enter (l := [undef, undef, undef, undef, undef, undef, undef, undef, undef, undef, undef, undef, undef, undef, undef, undef, undef, undef, undef, undef, undef, undef, undef, undef, undef, undef, undef, undef, undef, undef, undef, undef, undef, undef, undef, undef, undef, undef, undef]) Try.func25 rfl (by simp only [Try.ntmps25, List.size_toArray, List.length_cons, List.length_nil, Nat.reduceAdd, Nat.reduceSub, Array.replicate_succ, Array.replicate_zero, List.push_toArray, List.append_toArray, List.nil_append, List.cons_append]) ?_
 refine x_seq fun K1 hK1 => ?_
 refine x_region ?_
 refine s_go (s_assign) ?_
 try simp only [opv, n1, n2, n3, n4, Value.cells]
 refine x_nil ?_
 refine hK1 _ _ ?_
 refine x_seq fun K2 hK2 => ?_
 refine x_region ?_
 refine s_go (s_assign) ?_
 try simp only [opv, n1, n2, n3, n4, Value.cells]
 refine x_nil ?_
 refine hK2 _ _ ?_
 refine x_seq fun K3 hK3 => ?_
 refine x_seq fun K4 hK4 => ?_
 refine x_region ?_
 refine s_go (s_assign) ?_
 try simp only [opv, n1, n2, n3, n4, Value.cells]
 refine x_nil ?_
 refine hK4 _ _ ?_
 refine x_block ?_
 refine x_loop [1, 2, 5, 6, 7, 8, 9, 10, 11, 12, 13, 14, 15, 16] (fun m f w => ∃ (k : Nat) (D : Option Addr) (e : Nat), k ≤ 3 ∧ m = 3 - k ∧ f 2 = .int .u32 ((k : Int) + 1) ∧ f 1 = .slice D (ckL k).length e ∧ St NoB w0 w [.vec D e 54 21 (ckL k).length (arows (ckL k))]) (3) ?init1 (fun m1 f1 wl1 hI => ?_)
 case init1 =>
  try simp only [opv, n1, n2, n3, n4, Value.cells]
  replace hS := hS.nil_vec 54 21
  exact ⟨0, none, 0, by omega, rfl, rfl, rfl, hS⟩
 obtain ⟨k, D, e, hk, hm, h2, h1, hS⟩ := hI
 simp only [clob, List.foldl, n3, n4, h2, h1]
 have hcl := ckL_len k
 refine x_seq fun K5 hK5 => ?_
 refine x_seq fun K6 hK6 => ?_
 refine x_region ?_
 refine s_go (s_move) ?_
 try simp only [opv, n1, n2, n3, n4, Value.cells]
 refine s_go (s_lss) ?_
 try simp only [opv, n1, n2, n3, n4, Value.cells]
 refine x_nil ?_
 refine hK6 _ _ ?_
 refine x_cond (ht := fun hc1 => ?_) (hf := fun hc1 => ?_)
 ·
  try simp only [decide_eq_true_eq, decide_eq_false_iff_not, Bool.not_eq_true', Bool.not_eq_false', Int.not_lt, Int.not_le, ne_eq, Decidable.not_not, bne_iff_ne, beq_iff_eq, not_true_eq_false, not_false_eq_true] at hc1
  have hao : AtomOk (ck1 (k + 1)) := ck1_ok (by omega)
  have hal := hao.len
  have hk12 := hao.key.len
  have hke : akey (ck1 (k + 1)) = mkKey 1 1 [97, 0, 0, 0, 0, 0, 0, 0] 2 (k + 1) := akey_kv (mkKey_len rfl)
  have hk12b := hk12
  rw [hke] at hk12b
  refine x_skip ?_
  refine hK5 _ _ ?_
  refine x_seq fun K7 hK7 => ?_
  refine x_block ?_
  refine x_region ?_
  refine s_go (s_move) ?_
  try simp only [opv, n1, n2, n3, n4, Value.cells]
  refine s_go (s_build_arr (cells := #[_, .int .u8 0, .int .u8 0, .int .u8 0, .int .u8 0, .int .u8 0, .int .u8 0, .int .u8 0]) Try.underlying25 ti25 ti5 (hc := by simp only [List.map_toArray, List.map_cons, List.map_nil, opv, n1, n2, n3, n4, Value.cells, List.toList_toArray]; (repeat (refine fill_cons rfl rfl (Nat.le_of_ble_eq_true rfl) ?_)); rfl)) ?_
  try simp only [opv, n1, n2, n3, n4, Value.cells]
  rw [show (#[.int .u8 97, .int .u8 0, .int .u8 0, .int .u8 0, .int .u8 0, .int .u8 0, .int .u8 0, .int .u8 0] : Array Value) = ic .u8 [97, 0, 0, 0, 0, 0, 0, 0] from rfl]
  refine s_go (s_move) ?_
  try simp only [opv, n1, n2, n3, n4, Value.cells]
  refine s_go (s_build_struct (cells := (KA (mkKey 1 1 [97, 0, 0, 0, 0, 0, 0, 0] 2 (k + 1)))) Try.underlying43 ti43 bp43 (hc := by simp only [List.map_toArray, List.map_cons, List.map_nil, opv, n1, n2, n3, n4, Value.cells, List.toList_toArray]; exact fill_key5 (by rfl) (by rfl) (by rfl) (by rfl) (by rfl) rfl)) ?_
  try simp only [opv, n1, n2, n3, n4, Value.cells]
  refine s_go (s_build_struct (cells := (VA (mkV 1 nm0))) Try.underlying50 ti50 bp50 (hc := by simp only [List.map_toArray, List.map_cons, List.map_nil, opv, n1, n2, n3, n4, Value.cells, List.toList_toArray]; (repeat (refine fill_cons rfl rfl (Nat.le_of_ble_eq_true rfl) ?_)); rfl)) ?_
  try simp only [opv, n1, n2, n3, n4, Value.cells]
  refine s_go (s_build_struct (cells := (AA (ck1 (k + 1)))) Try.underlying54 ti54 bp54 (hc := by simp only [List.map_toArray, List.map_cons, List.map_nil, opv, n1, n2, n3, n4, Value.cells, List.toList_toArray]; exact fill_atom (by rfl) (by rfl) (by rfl) hk12b (mkV_len hn0l))) ?_
  try simp only [opv, n1, n2, n3, n4, Value.cells]
  refine m_buildRow (cells := (AA (ck1 (k + 1)))) Try.underlying22 ti54 (hc := by simp only [List.map_toArray, List.map_cons, List.map_nil, opv, n1, n2, n3, n4, Value.cells, List.toList_toArray]; exact fill_one (by rfl) (zi_size21 hal) (by rfl)) (hS := hS) (h := fun w1 g1 hS => ?_)
  try simp only [opv, n1, n2, n3, n4, Value.cells, Array.toArray_toList] at hS ⊢
  replace hS := hS.obj_rd (sz := 21) (n := 1) (by exact zi_size21 hal) .head
  rw [arow_one hal] at hS
  refine m_append Try.underlying22 ti54 (hS := hS) (h1 := rowsZ_cells _ _) (h := fun w2 A2 C2 hS => ?_)
  try simp only [← List.map_append, ← List.map_drop, ← List.map_take, Nat.mul_one, Nat.zero_mul, Nat.sub_zero, List.drop_zero, List.nil_append, Nat.zero_add] at hS ⊢
  try simp only [opv, n1, n2, n3, n4, Value.cells, Array.toArray_toList] at hS ⊢
  rw [add_one] at hS
  refine s_go (s_assign) ?_
  try simp only [opv, n1, n2, n3, n4, Value.cells]
  refine x_nil ?_
  refine hK7 _ _ ?_
  refine x_region ?_
  refine s_go (s_move) ?_
  try simp only [opv, n1, n2, n3, n4, Value.cells]
  refine s_go (s_add (hc := by first | exact wr_u32 (by omega) (by omega) | exact cv_u32 rfl | rfl)) ?_
  try simp only [opv, n1, n2, n3, n4, Value.cells]
  refine s_go (s_assign) ?_
  try simp only [opv, n1, n2, n3, n4, Value.cells]
  refine x_nil ?_
  refine loop_back (m' := 3 - (k + 1)) (by simp only [clob, List.foldl, n1, n2, n3, n4]) ?_ ?_
  · try simp only [opv, n1, n2, n3, n4, Value.cells]
    exact ⟨k + 1, _, _, by omega, by omega, congrArg (Value.int .u32) (by omega), by rw [ckL_succ, List.length_append]; rfl, by rw [ckL_succ, List.length_append]; exact hS.sel (by repeat (first | exact Sel.nil | (refine Sel.cons (by repeat (first | exact Del.head | apply Del.tail)) ?_)))⟩
  · omega
 ·
  try simp only [decide_eq_true_eq, decide_eq_false_iff_not, Bool.not_eq_true', Bool.not_eq_false', Int.not_lt, Int.not_le, ne_eq, Decidable.not_not, bne_iff_ne, beq_iff_eq, not_true_eq_false, not_false_eq_true] at hc1
  obtain rfl : k = 3 := by omega
  have hl3 := ckL_ok (Nat.le_refl 3)
  have hc3 := ckL_len 3
  refine x_exit (look_here ?_)
  refine hK3 _ _ ?_
  refine x_seq fun K8 hK8 => ?_
  refine x_region ?_
  refine s_go (s_move) ?_
  try simp only [opv, n1, n2, n3, n4, Value.cells]
  refine s_call en26 ?_
  try simp only [opv, n1, n2, n3, n4, Value.cells, List.map_toArray, List.map_cons, List.map_nil, List.append_toArray, List.cons_append, List.nil_append, Array.append_empty]
  refine CallR.mono (c_chunkCut _ D e (ckL 3) (hS.vecRd (by repeat (first | exact Has.head | apply Has.tail))) hl3 (by omega) 14 (by decide)) ?_
  rintro _ w3 ⟨O, oc, Bn, ps, rfl, hck, hown, hC3⟩
  replace hS := hS.call hC3 (by intro r hr g hg; simp only [List.mem_cons, List.not_mem_nil, or_false] at hr; rcases hr with rfl | rfl; simp [Res.reads] at hg; exact hown g hg)
  simp only [List.cons_append, List.nil_append] at hS
  have hcnt := hck.cnt ck_1
  rw [if_neg ck_2, ck_3] at hcnt
  rw [ck_1]
  try simp only [opv, n1, n2, n3, n4, Value.cells]
  refine s_go (s_move) ?_
  try simp only [opv, n1, n2, n3, n4, Value.cells]
  refine s_go (s_extract (hv := rfl)) ?_
  try simp only [List.getElem_toArray, List.getElem_cons_zero, List.getElem_cons_succ]
  try simp only [opv, n1, n2, n3, n4, Value.cells]
  refine s_go (s_extract (hv := rfl)) ?_
  try simp only [List.getElem_toArray, List.getElem_cons_zero, List.getElem_cons_succ]
  try simp only [opv, n1, n2, n3, n4, Value.cells]
  refine s_go (s_assign) ?_
  try simp only [opv, n1, n2, n3, n4, Value.cells]
  refine s_go (s_assign) ?_
  try simp only [opv, n1, n2, n3, n4, Value.cells]
  refine x_nil ?_
  refine hK8 _ _ ?_
  refine x_seq fun K9 hK9 => ?_
  refine x_region ?_
  refine s_go (s_move) ?_
  try simp only [opv, n1, n2, n3, n4, Value.cells]
  refine s_go (s_len_sl Try.underlying57) ?_
  try simp only [opv, n1, n2, n3, n4, Value.cells]
  refine s_go (s_eql) ?_
  try simp only [opv, n1, n2, n3, n4, Value.cells]
  rw [decide_eq_true (show (ps.length : Int) = 2 by omega)]
  refine s_go (s_move) ?_
  try simp only [opv, n1, n2, n3, n4, Value.cells]
  refine g_on (yi (t := 25) rfl rfl) ?_
  refine s_go (s_move) ?_
  try simp only [opv, n1, n2, n3, n4, Value.cells]
  refine g_on (yi (t := 25) rfl rfl) ?_
  refine s_go (s_eql) ?_
  try simp only [opv, n1, n2, n3, n4, Value.cells]
  try simp only [eq_self, decide_true, beq_self_eq_true, Bool.and_self]
  first | refine s_go (s_pick_t) ?_ | refine s_go (s_pick_f) ?_
  try simp only [opv, n1, n2, n3, n4, Value.cells]
  refine s_go (s_move) ?_
  try simp only [opv, n1, n2, n3, n4, Value.cells]
  refine g_on (yi (t := 29) rfl rfl) ?_
  refine s_go (s_move) ?_
  try simp only [opv, n1, n2, n3, n4, Value.cells]
  refine g_on (yi (t := 29) rfl rfl) ?_
  refine s_call en29 ?_
  try simp only [opv, n1, n2, n3, n4, Value.cells, List.map_toArray, List.map_cons, List.map_nil, List.append_toArray, List.cons_append, List.nil_append, Array.append_empty]
  refine CallR.mono (c_chunkBytes _ D e (ckL 3) (hS.vecRd (by repeat (first | exact Has.head | apply Has.tail))) hl3 (by omega)) ?_
  rintro _ w4 ⟨rfl, hE4⟩
  replace hS := hS.ext hE4
  try simp only [opv, n1, n2, n3, n4, Value.cells]
  rw [ck_4]
  refine g_on (yi (t := 29) rfl rfl) ?_
  refine s_go (s_eql) ?_
  try simp only [opv, n1, n2, n3, n4, Value.cells]
  try simp only [eq_self, decide_true, beq_self_eq_true, Bool.and_self]
  first | refine s_go (s_pick_t) ?_ | refine s_go (s_pick_f) ?_
  try simp only [opv, n1, n2, n3, n4, Value.cells]
  refine s_go (s_move) ?_
  try simp only [opv, n1, n2, n3, n4, Value.cells]
  refine g_on (yi (t := 34) rfl rfl) ?_
  refine s_go (s_move) ?_
  try simp only [opv, n1, n2, n3, n4, Value.cells]
  refine g_on (yi (t := 34) rfl rfl) ?_
  refine s_call en28 ?_
  try simp only [opv, n1, n2, n3, n4, Value.cells, List.map_toArray, List.map_cons, List.map_nil, List.append_toArray, List.cons_append, List.nil_append, Array.append_empty]
  refine CallR.mono (c_chunkLeast _ D e (ckL 3) (hS.vecRd (by repeat (first | exact Has.head | apply Has.tail))) hl3 (by omega)) ?_
  rintro _ w5 ⟨rfl, hE5⟩
  replace hS := hS.ext hE5
  try simp only [opv, n1, n2, n3, n4, Value.cells]
  rw [ck_5]
  refine g_on (yi (t := 34) rfl rfl) ?_
  refine s_go (s_eql) ?_
  try simp only [opv, n1, n2, n3, n4, Value.cells]
  try simp only [eq_self, decide_true, beq_self_eq_true, Bool.and_self]
  first | refine s_go (s_pick_t) ?_ | refine s_go (s_pick_f) ?_
  try simp only [opv, n1, n2, n3, n4, Value.cells]
  refine s_go (s_assign) ?_
  try simp only [opv, n1, n2, n3, n4, Value.cells]
  refine x_nil ?_
  refine hK9 _ _ ?_
  refine x_ret ?_
  refine r_tmp rfl ?_
  exact ⟨rfl, hS.ext_of⟩
theorem c_ChunkFewest (w0 : World) (A : Option Addr) (c : Nat) (l : List (List Int)) (hr : Rd w0 A 21 l.length (arows l)) (hv : AOks l) (hn : l.length ≤ 900000000000000) (hlc : l.length ≤ c) (b : Int) (hb : -9223372036854775808 ≤ b ∧ b < 9223372036854775808) (C : Option Addr) (cc : Nat) (cs : List Int) (hrc : Rd w0 C 1 cs.length (cs.map (Value.int .u8))) (hbc : Byt cs)  :
    CallR Try.prog 5 #[.slice A l.length c, .int .i64 b, .slice C cs.length cc] w0 fun v w' => v = .bool true ∧ Ext w0 w' := by
 have hS := St.rd2 (S := NoB) hr hrc
 have hsn := norm_sta hv
 have hno := hsn.ok
 have hnb := norm_len l
 have hnl := arows_len (normP l)
 refine c_enter (l := [.slice A l.length c, .int .i64 b, .slice C cs.length cc, undef, undef, undef, undef, undef, undef, undef, undef, undef, undef, undef, undef, undef, undef, undef, undef, undef, undef, undef, undef, undef, undef, undef, undef, undef, undef, undef, undef, undef, undef, undef, undef, undef, undef, undef, undef, undef, undef, undef, undef, undef, undef, undef, undef, undef, undef, undef, undef, undef, undef, undef, undef, undef, undef, undef, undef, undef, undef, undef, undef, undef, undef, undef, undef, undef, undef, undef, undef, undef, undef, undef, undef, undef, undef, undef, undef, undef, undef, undef, undef, undef, undef, undef, undef, undef, undef, undef, undef, undef, undef, undef, undef, undef, undef, undef, undef, undef, undef, undef, undef, undef, undef, undef, undef, undef, undef, undef, undef, undef, undef, undef, undef, undef, undef, undef, undef, undef, undef, undef, undef, undef, undef, undef, undef, undef, undef, undef, undef, undef, undef, undef, undef, undef, undef, undef, undef, undef, undef, undef, undef]) Try.func5 rfl (by simp only [Try.ntmps5, List.size_toArray, List.length_cons, List.length_nil, Nat.reduceAdd, Nat.reduceSub, Array.replicate_succ, Array.replicate_zero, List.push_toArray, List.append_toArray, List.nil_append, List.cons_append]) ?_
 refine x_seq fun K1 hK1 => ?_
 refine x_region ?_
 refine s_go (s_assign) ?_
 try simp only [opv, n1, n2, n3, n4, Value.cells]
 refine x_nil ?_
 refine hK1 _ _ ?_
 refine x_seq fun K2 hK2 => ?_
 refine x_seq fun K3 hK3 => ?_
 refine x_region ?_
 refine s_go (s_move) ?_
 try simp only [opv, n1, n2, n3, n4, Value.cells]
 refine s_go (s_len_sl Try.underlying22) ?_
 try simp only [opv, n1, n2, n3, n4, Value.cells]
 refine s_go (s_gtr) ?_
 try simp only [opv, n1, n2, n3, n4, Value.cells]
 refine s_go (s_move) ?_
 try simp only [opv, n1, n2, n3, n4, Value.cells]
 refine s_part 18 rfl (fun hp1 => ?_) (fun hp1 => ?_)
 ·
  try simp only [n3, n4]
  try simp only [decide_eq_true_eq, decide_eq_false_iff_not, Bool.not_eq_true', Bool.not_eq_false', Int.not_lt, Int.not_le, ne_eq, Decidable.not_not] at hp1
  first
  | (exfalso; omega)
  | skip
    refine g_off (yi (t := 18) rfl rfl) ?_
    try simp only [opv, n1, n2, n3, n4, Value.cells]
    refine g_off (yi (t := 18) rfl rfl) ?_
    try simp only [opv, n1, n2, n3, n4, Value.cells]
    refine g_off (yi (t := 18) rfl rfl) ?_
    try simp only [opv, n1, n2, n3, n4, Value.cells]
    first | refine s_go (s_pick_t) ?_ | refine s_go (s_pick_f) ?_
    try simp only [opv, n1, n2, n3, n4, Value.cells]
    refine x_nil ?_
    refine hK3 _ _ ?_
    refine x_cond_t (h := ?_)
    refine x_seq fun K4 hK4 => ?_
    refine x_region ?_
    refine s_call en25 ?_
    try simp only [opv, n1, n2, n3, n4, Value.cells, List.map_toArray, List.map_cons, List.map_nil, List.append_toArray, List.cons_append, List.nil_append, Array.append_empty]
    refine CallR.mono (c_law21alive _) ?_
    rintro _ w1 ⟨rfl, hE1⟩
    replace hS := hS.ext hE1
    try simp only [opv, n1, n2, n3, n4, Value.cells]
    refine s_go (s_assign) ?_
    try simp only [opv, n1, n2, n3, n4, Value.cells]
    refine x_nil ?_
    refine hK4 _ _ ?_
    refine x_ret ?_
    refine r_tmp rfl ?_
    exact ⟨rfl, hS.ext_of⟩
 ·
  try simp only [n3, n4]
  try simp only [decide_eq_true_eq, decide_eq_false_iff_not, Bool.not_eq_true', Bool.not_eq_false', Int.not_lt, Int.not_le, ne_eq, Decidable.not_not] at hp1
  first
  | (exfalso; omega)
  | skip
    refine g_on (yi (t := 18) rfl rfl) ?_
    refine s_go (s_move) ?_
    try simp only [opv, n1, n2, n3, n4, Value.cells]
    refine g_on (yi (t := 18) rfl rfl) ?_
    refine s_go (s_len_sl Try.underlying56) ?_
    try simp only [opv, n1, n2, n3, n4, Value.cells]
    refine g_on (yi (t := 18) rfl rfl) ?_
    refine s_go (s_gtr) ?_
    try simp only [opv, n1, n2, n3, n4, Value.cells]
    first | refine s_go (s_pick_t) ?_ | refine s_go (s_pick_f) ?_
    try simp only [opv, n1, n2, n3, n4, Value.cells]
    refine x_nil ?_
    refine hK3 _ _ ?_
    refine x_cond (ht := fun hc2 => ?_) (hf := fun hc2 => ?_)
    ·
     try simp only [decide_eq_true_eq, decide_eq_false_iff_not, Bool.not_eq_true', Bool.not_eq_false', Int.not_lt, Int.not_le, ne_eq, Decidable.not_not, bne_iff_ne, beq_iff_eq, not_true_eq_false, not_false_eq_true] at hc2
     first
     | (exfalso; omega)
     | skip
       refine x_seq fun K5 hK5 => ?_
       refine x_region ?_
       refine s_call en25 ?_
       try simp only [opv, n1, n2, n3, n4, Value.cells, List.map_toArray, List.map_cons, List.map_nil, List.append_toArray, List.cons_append, List.nil_append, Array.append_empty]
       refine CallR.mono (c_law21alive _) ?_
       rintro _ w2 ⟨rfl, hE2⟩
       replace hS := hS.ext hE2
       try simp only [opv, n1, n2, n3, n4, Value.cells]
       refine s_go (s_assign) ?_
       try simp only [opv, n1, n2, n3, n4, Value.cells]
       refine x_nil ?_
       refine hK5 _ _ ?_
       refine x_ret ?_
       refine r_tmp rfl ?_
       exact ⟨rfl, hS.ext_of⟩
    ·
     try simp only [decide_eq_true_eq, decide_eq_false_iff_not, Bool.not_eq_true', Bool.not_eq_false', Int.not_lt, Int.not_le, ne_eq, Decidable.not_not, bne_iff_ne, beq_iff_eq, not_true_eq_false, not_false_eq_true] at hc2
     first
     | (exfalso; omega)
     | skip
       have hl40 : l.length ≤ 40 := by omega
       have hc60 : cs.length ≤ 60 := by omega
       refine x_skip ?_
       refine hK2 _ _ ?_
       refine x_seq fun K6 hK6 => ?_
       refine x_region ?_
       refine s_go (s_move) ?_
       try simp only [opv, n1, n2, n3, n4, Value.cells]
       refine s_go (s_move) ?_
       try simp only [opv, n1, n2, n3, n4, Value.cells]
       refine s_call en26 ?_
       try simp only [opv, n1, n2, n3, n4, Value.cells, List.map_toArray, List.map_cons, List.map_nil, List.append_toArray, List.cons_append, List.nil_append, Array.append_empty]
       refine CallR.mono (c_chunkCut _ A c l (hS.hasRd (by repeat (first | exact Has.head | apply Has.tail))) hv (by omega) b hb) ?_
       rintro _ w3 ⟨O, oc, Bn, ps, rfl, hck, hown, hC3⟩
       replace hS := hS.call hC3 (by intro r hr g hg; simp only [List.mem_cons, List.not_mem_nil, or_false] at hr; rcases hr with rfl | rfl; simp [Res.reads] at hg; exact hown g hg)
       simp only [List.cons_append, List.nil_append] at hS
       replace hS := hS.vec_rd (by exact Upd.head)
       try simp only [opv, n1, n2, n3, n4, Value.cells]
       refine s_go (s_move) ?_
       try simp only [opv, n1, n2, n3, n4, Value.cells]
       refine s_go (s_extract (hv := rfl)) ?_
       try simp only [List.getElem_toArray, List.getElem_cons_zero, List.getElem_cons_succ]
       try simp only [opv, n1, n2, n3, n4, Value.cells]
       refine s_go (s_extract (hv := rfl)) ?_
       try simp only [List.getElem_toArray, List.getElem_cons_zero, List.getElem_cons_succ]
       try simp only [opv, n1, n2, n3, n4, Value.cells]
       refine s_go (s_assign) ?_
       try simp only [opv, n1, n2, n3, n4, Value.cells]
       refine s_go (s_assign) ?_
       try simp only [opv, n1, n2, n3, n4, Value.cells]
       refine x_nil ?_
       refine hK6 _ _ ?_
       refine x_seq fun K7 hK7 => ?_
       refine x_region ?_
       refine s_go (s_move) ?_
       try simp only [opv, n1, n2, n3, n4, Value.cells]
       refine s_call en27 ?_
       try simp only [opv, n1, n2, n3, n4, Value.cells, List.map_toArray, List.map_cons, List.map_nil, List.append_toArray, List.cons_append, List.nil_append, Array.append_empty]
       refine CallR.mono (c_ref10NormC _ A c l (hS.hasRd (by repeat (first | exact Has.head | apply Has.tail))) hv (by omega) hlc) ?_
       rintro _ w4 ⟨B2, d2, rfl, hcap2, hR4⟩
       replace hS := hS.back hR4
       try simp only [opv, n1, n2, n3, n4, Value.cells]
       refine s_go (s_assign) ?_
       try simp only [opv, n1, n2, n3, n4, Value.cells]
       refine x_nil ?_
       refine hK7 _ _ ?_
       refine x_seq fun K8 hK8 => ?_
       refine x_seq_j [32, 33, 34, 35, 36, 37, 38, 39, 40, 41, 42, 43] (fun f w => f 43 = .bool false ∧ St NoB w0 w [.rd O 1 ps.length ((ps.map (rwP Bn (normP l) (fun p => (cutS (normP l) p).length))).map rwV), .rd Bn 21 (normP l).length (arows (normP l)), .rd B2 21 (normP l).length (arows (normP l)), .rd C 1 cs.length (cs.map (Value.int .u8)), .rd A 21 (l).length (arows (l))]) ?jx1 ?jy1
       case jx1 =>
        refine x_region ?_
        refine s_go (s_move) ?_
        try simp only [opv, n1, n2, n3, n4, Value.cells]
        refine s_go (s_eql) ?_
        try simp only [opv, n1, n2, n3, n4, Value.cells]
        refine s_go (s_move) ?_
        try simp only [opv, n1, n2, n3, n4, Value.cells]
        refine s_go (s_len_sl Try.underlying22) ?_
        try simp only [opv, n1, n2, n3, n4, Value.cells]
        refine s_go (s_eql) ?_
        try simp only [opv, n1, n2, n3, n4, Value.cells]
        refine s_go (s_move) ?_
        try simp only [opv, n1, n2, n3, n4, Value.cells]
        refine s_part 37 rfl (fun hp2 => ?_) (fun hp2 => ?_)
        ·
         try simp only [n3, n4]
         try simp only [decide_eq_true_eq, decide_eq_false_iff_not, Bool.not_eq_true', Bool.not_eq_false', Int.not_lt, Int.not_le, ne_eq, Decidable.not_not] at hp2
         first
         | (exfalso; omega)
         | skip
           have hcz : cutE b (normP l) = 0 := cutE_iff.2 (.inl (List.eq_nil_of_length_eq_zero (by omega)))
           refine g_off (yi (t := 37) rfl rfl) ?_
           try simp only [opv, n1, n2, n3, n4, Value.cells]
           refine g_off (yi (t := 37) rfl rfl) ?_
           try simp only [opv, n1, n2, n3, n4, Value.cells]
           refine g_off (yi (t := 37) rfl rfl) ?_
           try simp only [opv, n1, n2, n3, n4, Value.cells]
           refine g_off (yi (t := 37) rfl rfl) ?_
           try simp only [opv, n1, n2, n3, n4, Value.cells]
           first | refine s_go (s_pick_t) ?_ | refine s_go (s_pick_f) ?_
           try simp only [opv, n1, n2, n3, n4, Value.cells]
           refine s_go (s_neq_bool Try.underlying4) ?_
           try simp only [opv, n1, n2, n3, n4, Value.cells]
           first | rw [show (!(decide (cutE b (normP l) = 0) == true)) = false by rw [decide_eq_true hcz]; rfl] | rw [show (!(decide (cutE b (normP l) = 0) == decide (lstS (normP l) ≤ b))) = false by rw [hcq, beq_self_eq_true]; rfl]
           refine x_nil ?_
           refine mix_leaf (by simp only [clob, List.foldl, n1, n2, n3, n4]) ?_
           try simp only [n1, n2]
           exact ⟨by first | trivial | rfl, hS.sel (by repeat (first | exact Sel.nil | (refine Sel.cons (by repeat (first | exact Del.head | apply Del.tail)) ?_)))⟩
        ·
         try simp only [n3, n4]
         try simp only [decide_eq_true_eq, decide_eq_false_iff_not, Bool.not_eq_true', Bool.not_eq_false', Int.not_lt, Int.not_le, ne_eq, Decidable.not_not] at hp2
         first
         | (exfalso; omega)
         | skip
           have hnz : ¬ (normP l) = [] := fun e => by rw [e] at hp2; first | exact absurd rfl hp2 | (simp at hp2)
           have hcq : decide (cutE b (normP l) = 0) = decide (lstS (normP l) ≤ b) := decide_eq_decide.2 (cutE_iff.trans ⟨fun h => h.resolve_left hnz, .inr⟩)
           refine g_on (yi (t := 37) rfl rfl) ?_
           refine s_go (s_move) ?_
           try simp only [opv, n1, n2, n3, n4, Value.cells]
           refine g_on (yi (t := 37) rfl rfl) ?_
           refine s_go (s_move) ?_
           try simp only [opv, n1, n2, n3, n4, Value.cells]
           refine g_on (yi (t := 37) rfl rfl) ?_
           refine s_call en28 ?_
           try simp only [opv, n1, n2, n3, n4, Value.cells, List.map_toArray, List.map_cons, List.map_nil, List.append_toArray, List.cons_append, List.nil_append, Array.append_empty]
           refine CallR.mono (c_chunkLeast _ B2 d2 (normP l) (hS.hasRd (by repeat (first | exact Has.head | apply Has.tail))) hno (by omega)) ?_
           rintro _ w5 ⟨rfl, hE5⟩
           replace hS := hS.ext hE5
           try simp only [opv, n1, n2, n3, n4, Value.cells]
           rw [norm_norm hv]
           refine g_on (yi (t := 37) rfl rfl) ?_
           refine s_go (s_geq) ?_
           try simp only [opv, n1, n2, n3, n4, Value.cells]
           first | refine s_go (s_pick_t) ?_ | refine s_go (s_pick_f) ?_
           try simp only [opv, n1, n2, n3, n4, Value.cells]
           refine s_go (s_neq_bool Try.underlying4) ?_
           try simp only [opv, n1, n2, n3, n4, Value.cells]
           first | rw [show (!(decide (cutE b (normP l) = 0) == true)) = false by rw [decide_eq_true hcz]; rfl] | rw [show (!(decide (cutE b (normP l) = 0) == decide (lstS (normP l) ≤ b))) = false by rw [hcq, beq_self_eq_true]; rfl]
           refine x_nil ?_
           refine mix_leaf (by simp only [clob, List.foldl, n1, n2, n3, n4]) ?_
           try simp only [n1, n2]
           exact ⟨by first | trivial | rfl, hS.sel (by repeat (first | exact Sel.nil | (refine Sel.cons (by repeat (first | exact Del.head | apply Del.tail)) ?_)))⟩
       intro fm1 w6 hM
       simp only [clob, List.foldl, n3, n4]
       obtain ⟨h43, hS⟩ := hM
       simp only [h43]
       refine x_cond_f (h := ?_)
       refine x_skip ?_
       refine hK8 _ _ ?_
       refine x_seq fun K9 hK9 => ?_
       refine x_seq fun K10 hK10 => ?_
       refine x_region ?_
       refine s_go (s_move) ?_
       try simp only [opv, n1, n2, n3, n4, Value.cells]
       refine s_go (s_neq) ?_
       try simp only [opv, n1, n2, n3, n4, Value.cells]
       refine x_nil ?_
       refine hK10 _ _ ?_
       refine x_cond (ht := fun hc4 => ?_) (hf := fun hc4 => ?_)
       ·
        try simp only [decide_eq_true_eq, decide_eq_false_iff_not, Bool.not_eq_true', Bool.not_eq_false', Int.not_lt, Int.not_le, ne_eq, Decidable.not_not, bne_iff_ne, beq_iff_eq, not_true_eq_false, not_false_eq_true] at hc4
        first
        | (exfalso; omega)
        | skip
          have hE : ¬ cutE b (normP l) = 0 := by simpa using hc4
          have hpl0 : ps.length = 0 := by rw [hck.bad hE]; rfl
          refine x_seq fun K11 hK11 => ?_
          refine x_region ?_
          refine s_go (s_move) ?_
          try simp only [opv, n1, n2, n3, n4, Value.cells]
          refine s_go (s_len_sl Try.underlying57) ?_
          try simp only [opv, n1, n2, n3, n4, Value.cells]
          refine s_go (s_eql) ?_
          try simp only [opv, n1, n2, n3, n4, Value.cells]
          rw [decide_eq_true (show (ps.length : Int) = 0 by omega)]
          refine s_go (s_move) ?_
          try simp only [opv, n1, n2, n3, n4, Value.cells]
          refine g_on (yi (t := 49) rfl rfl) ?_
          refine s_call en25 ?_
          try simp only [opv, n1, n2, n3, n4, Value.cells, List.map_toArray, List.map_cons, List.map_nil, List.append_toArray, List.cons_append, List.nil_append, Array.append_empty]
          refine CallR.mono (c_law21alive _) ?_
          rintro _ w7 ⟨rfl, hE7⟩
          replace hS := hS.ext hE7
          try simp only [opv, n1, n2, n3, n4, Value.cells]
          first | refine s_go (s_pick_t) ?_ | refine s_go (s_pick_f) ?_
          try simp only [opv, n1, n2, n3, n4, Value.cells]
          refine s_go (s_assign) ?_
          try simp only [opv, n1, n2, n3, n4, Value.cells]
          refine x_nil ?_
          refine hK11 _ _ ?_
          refine x_ret ?_
          refine r_tmp rfl ?_
          exact ⟨rfl, hS.ext_of⟩
       ·
        try simp only [decide_eq_true_eq, decide_eq_false_iff_not, Bool.not_eq_true', Bool.not_eq_false', Int.not_lt, Int.not_le, ne_eq, Decidable.not_not, bne_iff_ne, beq_iff_eq, not_true_eq_false, not_false_eq_true] at hc4
        first
        | (exfalso; omega)
        | skip
          have hE0 : cutE b (normP l) = 0 := by simpa using hc4
          have hch := hck.chn hE0
          have hcle := chn_le hch
          have hcnt := hck.cnt hE0
          have hfit := hck.fit hE0
          have hfll := fl_len hch
          refine x_skip ?_
          refine hK9 _ _ ?_
          refine x_seq fun K12 hK12 => ?_
          refine x_region ?_
          refine s_go (s_assign) ?_
          try simp only [opv, n1, n2, n3, n4, Value.cells]
          refine x_nil ?_
          refine hK12 _ _ ?_
          refine x_seq fun K13 hK13 => ?_
          refine x_seq fun K14 hK14 => ?_
          refine x_region ?_
          refine s_go (s_assign) ?_
          try simp only [opv, n1, n2, n3, n4, Value.cells]
          refine x_nil ?_
          refine hK14 _ _ ?_
          refine x_block ?_
          refine x_loop [6, 9, 10, 52, 53, 54, 55, 56, 57, 58, 59, 60, 61, 62, 63, 64, 65, 66, 67, 68, 69, 70, 71, 72, 73, 74, 75, 76, 77, 78] (fun m f w => ∃ (k : Nat) (D : Option Addr) (de : Nat), k ≤ ps.length ∧ m = ps.length - k ∧ f 10 = .int .i64 (k : Int) ∧ f 9 = .slice D (flS (normP l) ps k).length de ∧ St NoB w0 w [.vec D de 54 21 (flS (normP l) ps k).length (arows (flS (normP l) ps k)), .rd O 1 ps.length ((ps.map (rwP Bn (normP l) (fun p => (cutS (normP l) p).length))).map rwV), .rd Bn 21 (normP l).length (arows (normP l)), .rd B2 21 (normP l).length (arows (normP l)), .rd C 1 cs.length (cs.map (Value.int .u8))]) (ps.length) ?init1 (fun m1 f1 wl1 hI => ?_)
          case init1 =>
           try simp only [opv, n1, n2, n3, n4, Value.cells]
           replace hS := hS.nil_vec 54 21
           exact ⟨0, none, 0, by omega, rfl, rfl, rfl, hS.sel (by repeat (first | exact Sel.nil | (refine Sel.cons (by repeat (first | exact Del.head | apply Del.tail)) ?_)))⟩
          obtain ⟨k, D, de, hk, hmk, h10, h9, hS⟩ := hI
          simp only [clob, List.foldl, n3, n4, h10, h9]
          have hfk := hfll k
          refine x_seq fun K15 hK15 => ?_
          refine x_seq fun K16 hK16 => ?_
          refine x_region ?_
          refine s_go (s_move) ?_
          try simp only [opv, n1, n2, n3, n4, Value.cells]
          refine s_go (s_move) ?_
          try simp only [opv, n1, n2, n3, n4, Value.cells]
          refine s_go (s_len_sl Try.underlying57) ?_
          try simp only [opv, n1, n2, n3, n4, Value.cells]
          refine s_go (s_lss) ?_
          try simp only [opv, n1, n2, n3, n4, Value.cells]
          refine x_nil ?_
          refine hK16 _ _ ?_
          refine x_cond (ht := fun hc5 => ?_) (hf := fun hc5 => ?_)
          ·
           try simp only [decide_eq_true_eq, decide_eq_false_iff_not, Bool.not_eq_true', Bool.not_eq_false', Int.not_lt, Int.not_le, ne_eq, Decidable.not_not, bne_iff_ne, beq_iff_eq, not_true_eq_false, not_false_eq_true] at hc5
           first
           | (exfalso; omega)
           | skip
             obtain ⟨p, hp⟩ : ∃ p, ps.getD k (0, 0) = p := ⟨_, rfl⟩
             have hpm : p ∈ ps := by rw [← hp]; exact getD_mem' (by omega)
             have hpp := hcle.2 p hpm
             have hst := fl_step (s := (normP l)) (by omega) hp
             have hcl : (cutS (normP l) p).length = p.2 - p.1 := cut_len (f := p.1) hpp.2
             have hpc := hfit p hpm
             have hpo : AOks (cutS (normP l) p) := fun a ha => hno a ((cut_sub _ p).subset ha)
             replace hS := hS.rd_sub (A := Bn) (by repeat (first | exact Has.head | apply Has.tail)) p.1 p.2 (by omega) hpp.2 (Bn.map (·.add (p.1 * 21))) (fun _ => rfl)
             rw [arows_cut, ← hcl, show (p.1, p.2) = p from rfl] at hS
             refine x_skip ?_
             refine hK15 _ _ ?_
             refine x_seq fun K17 hK17 => ?_
             refine x_block ?_
             refine x_seq fun K18 hK18 => ?_
             refine x_seq fun K19 hK19 => ?_
             refine x_region ?_
             refine s_go (s_move) ?_
             try simp only [opv, n1, n2, n3, n4, Value.cells]
             refine s_go (s_move) ?_
             try simp only [opv, n1, n2, n3, n4, Value.cells]
             first | refine s_go (m_indexAddr_rd Try.underlying57 ti22 (hS := hS)) ?_ | refine s_go (m_indexAddr_vec Try.underlying57 ti22 (hS := hS)) ?_
             try simp only [opv, n1, n2, n3, n4, Value.cells, Nat.mul_one, Nat.zero_add, Int.toNat_natCast, Int.reduceToNat]
             first | refine s_go (m_load_obj Try.underlying22 (hS := hS) (hv := pws_get (by omega) hp)) ?_ | refine s_go (m_load_bx Try.underlying22 (hS := hS) (hv := pws_get (by omega) hp)) ?_ | refine s_go (m_load_rd Try.underlying22 (hS := hS) (hv := pws_get (by omega) hp)) ?_ | refine s_go (m_load_vec Try.underlying22 (hS := hS) (hv := pws_get (by omega) hp)) ?_
             try simp only [opv, n1, n2, n3, n4, Value.cells, List.getElem_toArray, List.getElem_cons_zero, List.getElem_cons_succ]
             refine s_go (s_len_sl Try.underlying22) ?_
             try simp only [opv, n1, n2, n3, n4, Value.cells]
             refine s_go (s_eql) ?_
             try simp only [opv, n1, n2, n3, n4, Value.cells]
             rw [decide_eq_false (show ¬ ((cutS (normP l) p).length : Int) = 0 by omega)]
             refine s_go (s_move) ?_
             try simp only [opv, n1, n2, n3, n4, Value.cells]
             refine g_on (yi (t := 64) rfl rfl) ?_
             refine s_go (s_move) ?_
             try simp only [opv, n1, n2, n3, n4, Value.cells]
             refine g_on (yi (t := 64) rfl rfl) ?_
             refine s_go (s_move) ?_
             try simp only [opv, n1, n2, n3, n4, Value.cells]
             refine g_on (yi (t := 64) rfl rfl) ?_
             first | refine s_go (m_indexAddr_rd Try.underlying57 ti22 (hS := hS)) ?_ | refine s_go (m_indexAddr_vec Try.underlying57 ti22 (hS := hS)) ?_
             try simp only [opv, n1, n2, n3, n4, Value.cells, Nat.mul_one, Nat.zero_add, Int.toNat_natCast, Int.reduceToNat]
             refine g_on (yi (t := 64) rfl rfl) ?_
             first | refine s_go (m_load_obj Try.underlying22 (hS := hS) (hv := pws_get (by omega) hp)) ?_ | refine s_go (m_load_bx Try.underlying22 (hS := hS) (hv := pws_get (by omega) hp)) ?_ | refine s_go (m_load_rd Try.underlying22 (hS := hS) (hv := pws_get (by omega) hp)) ?_ | refine s_go (m_load_vec Try.underlying22 (hS := hS) (hv := pws_get (by omega) hp)) ?_
             try simp only [opv, n1, n2, n3, n4, Value.cells, List.getElem_toArray, List.getElem_cons_zero, List.getElem_cons_succ]
             refine g_on (yi (t := 64) rfl rfl) ?_
             refine s_call en29 ?_
             try simp only [opv, n1, n2, n3, n4, Value.cells, List.map_toArray, List.map_cons, List.map_nil, List.append_toArray, List.cons_append, List.nil_append, Array.append_empty]
             refine CallR.mono (c_chunkBytes _ _ _ (cutS (normP l) p) (hS.hasRd (by repeat (first | exact Has.head | apply Has.tail))) hpo (by omega)) ?_
             rintro _ w8 ⟨rfl, hE8⟩
             replace hS := hS.ext hE8
             try simp only [opv, n1, n2, n3, n4, Value.cells]
             rw [cut_norm hsn p]
             refine g_on (yi (t := 64) rfl rfl) ?_
             refine s_go (s_move) ?_
             try simp only [opv, n1, n2, n3, n4, Value.cells]
             refine g_on (yi (t := 64) rfl rfl) ?_
             refine s_go (s_gtr) ?_
             try simp only [opv, n1, n2, n3, n4, Value.cells]
             rw [decide_eq_false (show ¬ b < bySz (cutS (normP l) p) by omega)]
             first | refine s_go (s_pick_t) ?_ | refine s_go (s_pick_f) ?_
             try simp only [opv, n1, n2, n3, n4, Value.cells]
             refine x_nil ?_
             refine hK19 _ _ ?_
             refine x_cond_f (h := ?_)
             refine x_skip ?_
             refine hK18 _ _ ?_
             refine x_region ?_
             refine s_go (s_move) ?_
             try simp only [opv, n1, n2, n3, n4, Value.cells]
             refine s_go (s_move) ?_
             try simp only [opv, n1, n2, n3, n4, Value.cells]
             refine s_go (s_move) ?_
             try simp only [opv, n1, n2, n3, n4, Value.cells]
             first | refine s_go (m_indexAddr_rd Try.underlying57 ti22 (hS := hS)) ?_ | refine s_go (m_indexAddr_vec Try.underlying57 ti22 (hS := hS)) ?_
             try simp only [opv, n1, n2, n3, n4, Value.cells, Nat.mul_one, Nat.zero_add, Int.toNat_natCast, Int.reduceToNat]
             first | refine s_go (m_load_obj Try.underlying22 (hS := hS) (hv := pws_get (by omega) hp)) ?_ | refine s_go (m_load_bx Try.underlying22 (hS := hS) (hv := pws_get (by omega) hp)) ?_ | refine s_go (m_load_rd Try.underlying22 (hS := hS) (hv := pws_get (by omega) hp)) ?_ | refine s_go (m_load_vec Try.underlying22 (hS := hS) (hv := pws_get (by omega) hp)) ?_
             try simp only [opv, n1, n2, n3, n4, Value.cells, List.getElem_toArray, List.getElem_cons_zero, List.getElem_cons_succ]
             refine m_append Try.underlying22 ti54 (hS := hS) (news := arows (cutS (normP l) p)) (h1 := rowsZ_cells _ _) (h := fun w9 A9 C9 hS => ?_)
             try simp only [← List.map_append, ← List.map_drop, ← List.map_take, Nat.mul_one, Nat.zero_mul, Nat.sub_zero, List.drop_zero, List.nil_append, Nat.zero_add] at hS ⊢
             try simp only [opv, n1, n2, n3, n4, Value.cells, Array.toArray_toList] at hS ⊢
             refine s_go (s_assign) ?_
             try simp only [opv, n1, n2, n3, n4, Value.cells]
             refine x_nil ?_
             refine hK17 _ _ ?_
             refine x_region ?_
             refine s_go (s_move) ?_
             try simp only [opv, n1, n2, n3, n4, Value.cells]
             refine s_go (s_add (hc := by first | exact wr_i64 (by omega) (by omega) | rfl)) ?_
             try simp only [opv, n1, n2, n3, n4, Value.cells]
             refine s_go (s_assign) ?_
             try simp only [opv, n1, n2, n3, n4, Value.cells]
             refine x_nil ?_
             refine loop_back (m' := ps.length - (k + 1)) (by simp only [clob, List.foldl, n1, n2, n3, n4]) ?_ ?_
             · try simp only [opv, n1, n2, n3, n4, Value.cells]
               rw [← rowsZ_app, ← List.length_append, ← hst] at hS
               exact ⟨k + 1, _, _, by omega, by omega, by rfl, by rw [hst, List.length_append], hS.sel (by repeat (first | exact Sel.nil | (refine Sel.cons (by repeat (first | exact Del.head | apply Del.tail)) ?_)))⟩
             · omega
          ·
           try simp only [decide_eq_true_eq, decide_eq_false_iff_not, Bool.not_eq_true', Bool.not_eq_false', Int.not_lt, Int.not_le, ne_eq, Decidable.not_not, bne_iff_ne, beq_iff_eq, not_true_eq_false, not_false_eq_true] at hc5
           first
           | (exfalso; omega)
           | skip
             obtain rfl : k = ps.length := by omega
             rw [fl_all hch] at hS ⊢
             refine x_exit (look_here ?_)
             refine hK13 _ _ ?_
             refine x_seq fun K20 hK20 => ?_
             refine x_seq fun K21 hK21 => ?_
             refine x_region ?_
             refine s_go (s_move) ?_
             try simp only [opv, n1, n2, n3, n4, Value.cells]
             refine s_go (s_move) ?_
             try simp only [opv, n1, n2, n3, n4, Value.cells]
             refine s_call en14 ?_
             try simp only [opv, n1, n2, n3, n4, Value.cells, List.map_toArray, List.map_cons, List.map_nil, List.append_toArray, List.cons_append, List.nil_append, Array.append_empty]
             refine CallR.mono (c_ref10Rows _ D de (normP l) (hS.vecRd (by repeat (first | exact Has.head | apply Has.tail))) hno B2 d2 (normP l) (hS.hasRd (by repeat (first | exact Has.head | apply Has.tail))) hno (by omega)) ?_
             rintro _ w10 ⟨rfl, hE10⟩
             replace hS := hS.ext hE10
             try simp only [opv, n1, n2, n3, n4, Value.cells]
             try simp only [eq_self, decide_true, beq_self_eq_true, Bool.and_self]
             refine s_go (s_not) ?_
             try simp only [opv, n1, n2, n3, n4, Value.cells]
             refine x_nil ?_
             refine hK21 _ _ ?_
             refine x_cond_f (h := ?_)
             refine x_skip ?_
             refine hK20 _ _ ?_
             refine x_seq fun K22 hK22 => ?_
             refine x_region ?_
             refine s_go (s_assign) ?_
             try simp only [opv, n1, n2, n3, n4, Value.cells]
             refine x_nil ?_
             refine hK22 _ _ ?_
             refine x_seq fun K23 hK23 => ?_
             refine x_region ?_
             refine s_go (s_assign) ?_
             try simp only [opv, n1, n2, n3, n4, Value.cells]
             refine x_nil ?_
             refine hK23 _ _ ?_
             refine x_seq fun K24 hK24 => ?_
             refine x_seq fun K25 hK25 => ?_
             refine x_region ?_
             refine s_go (s_assign) ?_
             try simp only [opv, n1, n2, n3, n4, Value.cells]
             refine x_nil ?_
             refine hK25 _ _ ?_
             refine x_block ?_
             refine x_loop [11, 12, 13, 14, 83, 84, 85, 86, 87, 88, 89, 90, 91, 92, 93, 94, 95, 96, 97, 98, 99, 100, 101, 102, 103, 104, 105, 106, 107, 108, 109, 110, 111, 112, 113, 114, 115, 116, 117, 118] (fun m f w => ∃ (i ia : Nat) (O2 : Option Addr) (oc2 : Nat) (qs : List (Nat × Nat)), i ≤ cs.length ∧ m = cs.length - i ∧ f 13 = .int .i64 (i : Int) ∧ f 12 = .int .i64 (ia : Int) ∧ f 11 = .slice O2 qs.length oc2 ∧ Chn 0 qs ia ∧ ia ≤ (normP l).length ∧ St NoB w0 w [.vec O2 oc2 22 1 qs.length ((qs.map (rwP B2 (normP l) (fun p => d2 - p.1))).map rwV), .rd O 1 ps.length ((ps.map (rwP Bn (normP l) (fun p => (cutS (normP l) p).length))).map rwV), .rd Bn 21 (normP l).length (arows (normP l)), .rd B2 21 (normP l).length (arows (normP l)), .rd C 1 cs.length (cs.map (Value.int .u8))]) (cs.length) ?init2 (fun m2 f2 wl2 hI => ?_)
             case init2 =>
              try simp only [opv, n1, n2, n3, n4, Value.cells]
              replace hS := hS.nil_vec 22 1
              exact ⟨0, 0, none, 0, [], by omega, rfl, rfl, rfl, rfl, rfl, by omega, hS.sel (by repeat (first | exact Sel.nil | (refine Sel.cons (by repeat (first | exact Del.head | apply Del.tail)) ?_)))⟩
             obtain ⟨i, ia, O2, oc2, qs, hi, hmi, h13, h12, h11, hcq2, hia, hS⟩ := hI
             simp only [clob, List.foldl, n3, n4, h13, h12, h11]
             have hqle := (chn_le hcq2).1
             refine x_seq fun K26 hK26 => ?_
             refine x_seq fun K27 hK27 => ?_
             refine x_region ?_
             refine s_go (s_move) ?_
             try simp only [opv, n1, n2, n3, n4, Value.cells]
             refine s_go (s_move) ?_
             try simp only [opv, n1, n2, n3, n4, Value.cells]
             refine s_go (s_len_sl Try.underlying56) ?_
             try simp only [opv, n1, n2, n3, n4, Value.cells]
             refine s_go (s_lss) ?_
             try simp only [opv, n1, n2, n3, n4, Value.cells]
             refine s_go (s_move) ?_
             try simp only [opv, n1, n2, n3, n4, Value.cells]
             refine s_part 87 rfl (fun hp3 => ?_) (fun hp3 => ?_)
             ·
              try simp only [n3, n4]
              try simp only [decide_eq_true_eq, decide_eq_false_iff_not, Bool.not_eq_true', Bool.not_eq_false', Int.not_lt, Int.not_le, ne_eq, Decidable.not_not] at hp3
              first
              | (exfalso; omega)
              | skip
                have hil : i < cs.length := by omega
                refine g_on (yi (t := 87) rfl rfl) ?_
                refine s_go (s_move) ?_
                try simp only [opv, n1, n2, n3, n4, Value.cells]
                refine g_on (yi (t := 87) rfl rfl) ?_
                refine s_go (s_move) ?_
                try simp only [opv, n1, n2, n3, n4, Value.cells]
                refine g_on (yi (t := 87) rfl rfl) ?_
                refine s_go (s_len_sl Try.underlying22) ?_
                try simp only [opv, n1, n2, n3, n4, Value.cells]
                refine g_on (yi (t := 87) rfl rfl) ?_
                refine s_go (s_lss) ?_
                try simp only [opv, n1, n2, n3, n4, Value.cells]
                first | refine s_go (s_pick_t) ?_ | refine s_go (s_pick_f) ?_
                try simp only [opv, n1, n2, n3, n4, Value.cells]
                refine x_nil ?_
                refine hK27 _ _ ?_
                refine x_cond (ht := fun hc8 => ?_) (hf := fun hc8 => ?_)
                ·
                 try simp only [decide_eq_true_eq, decide_eq_false_iff_not, Bool.not_eq_true', Bool.not_eq_false', Int.not_lt, Int.not_le, ne_eq, Decidable.not_not, bne_iff_ne, beq_iff_eq, not_true_eq_false, not_false_eq_true] at hc8
                 first
                 | (exfalso; omega)
                 | skip
                   have hian : ia < (normP l).length := by omega
                   have hcb := hbc _ (getD_mem' (l := cs) (k := i) (d := 0) (by omega))
                   obtain ⟨q, hq⟩ : ∃ q : Nat, cs.getD i 0 = (q : Int) := ⟨(cs.getD i 0).toNat, by omega⟩
                   rw [hq] at hcb
                   obtain ⟨nn, hnn⟩ : ∃ nn : Nat, (nn : Int) = min (1 + ((q % 8 : Nat) : Int)) (((normP l).length : Int) - (ia : Int)) := ⟨(min (1 + ((q % 8 : Nat) : Int)) (((normP l).length : Int) - (ia : Int))).toNat, by omega⟩
                   have hnn1 : 1 ≤ nn ∧ ia + nn ≤ (normP l).length := by omega
                   have hch2 := chn_app hcq2 (show ia < ia + nn by omega)
                   obtain ⟨q2, hq2⟩ : ∃ z, z = qs ++ [(ia, ia + nn)] := ⟨_, rfl⟩
                   rw [← hq2] at hch2
                   refine x_skip ?_
                   refine hK26 _ _ ?_
                   refine x_seq fun K28 hK28 => ?_
                   refine x_block ?_
                   refine x_seq fun K29 hK29 => ?_
                   refine x_region ?_
                   refine s_go (s_move) ?_
                   try simp only [opv, n1, n2, n3, n4, Value.cells]
                   refine s_go (s_move) ?_
                   try simp only [opv, n1, n2, n3, n4, Value.cells]
                   first | refine s_go (m_indexAddr_rd Try.underlying56 ti5 (hS := hS)) ?_ | refine s_go (m_indexAddr_vec Try.underlying56 ti5 (hS := hS)) ?_
                   try simp only [opv, n1, n2, n3, n4, Value.cells, Nat.mul_one, Nat.zero_add, Int.toNat_natCast, Int.reduceToNat]
                   first | refine s_go (m_load_obj Try.underlying5 (hS := hS) (hv := by first | rfl | exact zi_get rfl (by omega) | exact ic_get (by omega) | exact il_get (by omega))) ?_ | refine s_go (m_load_bx Try.underlying5 (hS := hS) (hv := by first | rfl | exact zi_get rfl (by omega) | exact ic_get (by omega) | exact il_get (by omega))) ?_ | refine s_go (m_load_rd Try.underlying5 (hS := hS) (hv := by first | rfl | exact zi_get rfl (by omega) | exact ic_get (by omega) | exact il_get (by omega))) ?_ | refine s_go (m_load_vec Try.underlying5 (hS := hS) (hv := by first | rfl | exact zi_get rfl (by omega) | exact ic_get (by omega) | exact il_get (by omega))) ?_
                   try simp only [opv, n1, n2, n3, n4, Value.cells, List.getElem_toArray, List.getElem_cons_zero, List.getElem_cons_succ]
                   rw [hq]
                   refine s_go (s_conv Try.underlying5 Try.underlying3 (hc := wr_i64 (by omega) (by omega))) ?_
                   try simp only [opv, n1, n2, n3, n4, Value.cells]
                   refine s_go (s_rem (hc := rem_nat (p := 8))) ?_
                   try simp only [opv, n1, n2, n3, n4, Value.cells]
                   refine s_go (s_add (hc := by first | exact wr_i64 (by omega) (by omega) | rfl)) ?_
                   try simp only [opv, n1, n2, n3, n4, Value.cells]
                   refine s_go (s_move) ?_
                   try simp only [opv, n1, n2, n3, n4, Value.cells]
                   refine s_go (s_len_sl Try.underlying22) ?_
                   try simp only [opv, n1, n2, n3, n4, Value.cells]
                   refine s_go (s_move) ?_
                   try simp only [opv, n1, n2, n3, n4, Value.cells]
                   refine s_go (s_sub (hc := by first | exact wr_i64 (by omega) (by omega) | rfl)) ?_
                   try simp only [opv, n1, n2, n3, n4, Value.cells]
                   refine s_go (s_min) ?_
                   try simp only [opv, n1, n2, n3, n4, Value.cells]
                   rw [← hnn]
                   refine s_go (s_assign) ?_
                   try simp only [opv, n1, n2, n3, n4, Value.cells]
                   refine x_nil ?_
                   refine hK29 _ _ ?_
                   refine x_seq fun K30 hK30 => ?_
                   refine x_region ?_
                   refine s_go (s_move) ?_
                   try simp only [opv, n1, n2, n3, n4, Value.cells]
                   refine s_go (s_move) ?_
                   try simp only [opv, n1, n2, n3, n4, Value.cells]
                   refine s_go (s_move) ?_
                   try simp only [opv, n1, n2, n3, n4, Value.cells]
                   refine s_go (s_move) ?_
                   try simp only [opv, n1, n2, n3, n4, Value.cells]
                   refine s_go (s_move) ?_
                   try simp only [opv, n1, n2, n3, n4, Value.cells]
                   refine s_go (s_add (hc := by first | exact wr_i64 (by omega) (by omega) | rfl)) ?_
                   try simp only [opv, n1, n2, n3, n4, Value.cells]
                   rw [show ((ia : Int) + (nn : Int)) = ((ia + nn : Nat) : Int) by omega]
                   refine s_go (m_slice (lo := ia) (hi := ia + nn) (m := d2) Try.underlying22 ti54 (hlo := by exact ⟨_, rfl⟩) (hhi := by exact ⟨_, rfl⟩) (hmx := by exact rfl)) ?_
                   try simp only [opv, n1, n2, n3, n4, Value.cells]
                   rw [if_neg (by omega), show ia + nn - ia = (cutS (normP l) (ia, ia + nn)).length from (cut_len hnn1.2).symm]
                   refine m_buildRow (cells := #[_]) Try.underlying57 ti22 (hc := by simp only [List.map_toArray, List.map_cons, List.map_nil, opv, n1, n2, n3, n4, Value.cells, List.toList_toArray]; (repeat (refine fill_cons rfl rfl (Nat.le_of_ble_eq_true rfl) ?_)); rfl) (hS := hS) (h := fun w11 g11 hS => ?_)
                   try simp only [opv, n1, n2, n3, n4, Value.cells, Array.toArray_toList] at hS ⊢
                   replace hS := hS.obj_rd (sz := 1) (n := 1) rfl .head
                   refine m_append Try.underlying57 ti22 (hS := hS) (h1 := by intro u hu; rw [List.mem_singleton] at hu; rw [hu]; rfl) (h := fun w12 A12 C12 hS => ?_)
                   try simp only [← List.map_append, ← List.map_drop, ← List.map_take, Nat.mul_one, Nat.zero_mul, Nat.sub_zero, List.drop_zero, List.nil_append, Nat.zero_add] at hS ⊢
                   try simp only [opv, n1, n2, n3, n4, Value.cells, Array.toArray_toList] at hS ⊢
                   rw [show ([Value.slice (B2.map (·.add (ia * 21))) (cutS (normP l) (ia, ia + nn)).length (d2 - ia)] : List Value) = [rwV (rwP B2 (normP l) (fun p => d2 - p.1) (ia, ia + nn))] from rfl, map_snoc_p, ← hq2, show qs.length + 1 = q2.length by rw [hq2, List.length_append]; rfl] at hS
                   rw [show qs.length + 1 = q2.length by rw [hq2, List.length_append]; rfl]
                   refine s_go (s_assign) ?_
                   try simp only [opv, n1, n2, n3, n4, Value.cells]
                   refine x_nil ?_
                   refine hK30 _ _ ?_
                   refine x_region ?_
                   refine s_go (s_move) ?_
                   try simp only [opv, n1, n2, n3, n4, Value.cells]
                   refine s_go (s_move) ?_
                   try simp only [opv, n1, n2, n3, n4, Value.cells]
                   refine s_go (s_add (hc := by first | exact wr_i64 (by omega) (by omega) | rfl)) ?_
                   try simp only [opv, n1, n2, n3, n4, Value.cells]
                   refine s_go (s_assign) ?_
                   try simp only [opv, n1, n2, n3, n4, Value.cells]
                   refine x_nil ?_
                   refine hK28 _ _ ?_
                   refine x_region ?_
                   refine s_go (s_move) ?_
                   try simp only [opv, n1, n2, n3, n4, Value.cells]
                   refine s_go (s_add (hc := by first | exact wr_i64 (by omega) (by omega) | rfl)) ?_
                   try simp only [opv, n1, n2, n3, n4, Value.cells]
                   refine s_go (s_assign) ?_
                   try simp only [opv, n1, n2, n3, n4, Value.cells]
                   refine x_nil ?_
                   refine loop_back (m' := cs.length - (i + 1)) (by simp only [clob, List.foldl, n1, n2, n3, n4]) ?_ ?_
                   · try simp only [opv, n1, n2, n3, n4, Value.cells]
                     exact ⟨i + 1, ia + nn, _, _, q2, by omega, by omega, by rfl, congrArg (Value.int .i64) (by omega), by rfl, hch2, by omega, hS.sel (by repeat (first | exact Sel.nil | (refine Sel.cons (by repeat (first | exact Del.head | apply Del.tail)) ?_)))⟩
                   · omega
                ·
                 try simp only [decide_eq_true_eq, decide_eq_false_iff_not, Bool.not_eq_true', Bool.not_eq_false', Int.not_lt, Int.not_le, ne_eq, Decidable.not_not, bne_iff_ne, beq_iff_eq, not_true_eq_false, not_false_eq_true] at hc8
                 first
                 | (exfalso; omega)
                 | skip
                   refine x_exit (look_here ?_)
                   refine hK24 _ _ ?_
                   refine x_seq fun K31 hK31 => ?_
                   refine x_seq fun K32 hK32 => ?_
                   refine x_region ?_
                   refine s_go (s_move) ?_
                   try simp only [opv, n1, n2, n3, n4, Value.cells]
                   refine s_go (s_move) ?_
                   try simp only [opv, n1, n2, n3, n4, Value.cells]
                   refine s_go (s_len_sl Try.underlying22) ?_
                   try simp only [opv, n1, n2, n3, n4, Value.cells]
                   refine s_go (s_lss) ?_
                   try simp only [opv, n1, n2, n3, n4, Value.cells]
                   refine x_nil ?_
                   refine hK32 _ _ ?_
                   refine x_cond (ht := fun hc9 => ?_) (hf := fun hc9 => ?_)
                   ·
                    try simp only [decide_eq_true_eq, decide_eq_false_iff_not, Bool.not_eq_true', Bool.not_eq_false', Int.not_lt, Int.not_le, ne_eq, Decidable.not_not, bne_iff_ne, beq_iff_eq, not_true_eq_false, not_false_eq_true] at hc9
                    first
                    | (exfalso; omega)
                    | skip
                      have hian : ia < (normP l).length := by omega
                      have hch3 := chn_app hcq2 hian
                      obtain ⟨q3, hq3⟩ : ∃ z, z = qs ++ [(ia, (normP l).length)] := ⟨_, rfl⟩
                      rw [← hq3] at hch3
                      refine x_region ?_
                      refine s_go (s_move) ?_
                      try simp only [opv, n1, n2, n3, n4, Value.cells]
                      refine s_go (s_move) ?_
                      try simp only [opv, n1, n2, n3, n4, Value.cells]
                      refine s_go (s_move) ?_
                      try simp only [opv, n1, n2, n3, n4, Value.cells]
                      refine s_go (m_slice (lo := ia) (hi := (normP l).length) (m := d2) Try.underlying22 ti54 (hlo := by exact ⟨_, rfl⟩) (hhi := by exact ⟨rfl, rfl⟩) (hmx := by exact rfl)) ?_
                      try simp only [opv, n1, n2, n3, n4, Value.cells]
                      rw [if_neg (by omega), show (normP l).length - ia = (cutS (normP l) (ia, (normP l).length)).length from (cut_len (Nat.le_refl _)).symm]
                      refine m_buildRow (cells := #[_]) Try.underlying57 ti22 (hc := by simp only [List.map_toArray, List.map_cons, List.map_nil, opv, n1, n2, n3, n4, Value.cells, List.toList_toArray]; (repeat (refine fill_cons rfl rfl (Nat.le_of_ble_eq_true rfl) ?_)); rfl) (hS := hS) (h := fun w13 g13 hS => ?_)
                      try simp only [opv, n1, n2, n3, n4, Value.cells, Array.toArray_toList] at hS ⊢
                      replace hS := hS.obj_rd (sz := 1) (n := 1) rfl .head
                      refine m_append Try.underlying57 ti22 (hS := hS) (h1 := by intro u hu; rw [List.mem_singleton] at hu; rw [hu]; rfl) (h := fun w14 A14 C14 hS => ?_)
                      try simp only [← List.map_append, ← List.map_drop, ← List.map_take, Nat.mul_one, Nat.zero_mul, Nat.sub_zero, List.drop_zero, List.nil_append, Nat.zero_add] at hS ⊢
                      try simp only [opv, n1, n2, n3, n4, Value.cells, Array.toArray_toList] at hS ⊢
                      rw [show ([Value.slice (B2.map (·.add (ia * 21))) (cutS (normP l) (ia, (normP l).length)).length (d2 - ia)] : List Value) = [rwV (rwP B2 (normP l) (fun p => d2 - p.1) (ia, (normP l).length))] from rfl, map_snoc_p, ← hq3, show qs.length + 1 = q3.length by rw [hq3, List.length_append]; rfl] at hS
                      rw [show qs.length + 1 = q3.length by rw [hq3, List.length_append]; rfl]
                      refine s_go (s_assign) ?_
                      try simp only [opv, n1, n2, n3, n4, Value.cells]
                      refine x_nil ?_
                      refine hK31 _ _ ?_
                      refine x_seq fun K33 hK33 => ?_
                      refine x_region ?_
                      refine s_go (s_move) ?_
                      try simp only [opv, n1, n2, n3, n4, Value.cells]
                      refine s_go (s_move) ?_
                      try simp only [opv, n1, n2, n3, n4, Value.cells]
                      have hq3l := chn_le hch3
                      have hrb2 := hS.hasRd (A := B2) (n := (normP l).length) (by repeat (first | exact Has.head | apply Has.tail))
                      obtain ⟨R3, hR3⟩ : ∃ z, z = q3.map (rwP B2 (normP l) (fun p => d2 - p.1)) := ⟨_, rfl⟩
                      have hR3l : q3.length = R3.length := by rw [hR3, List.length_map]
                      have hR3o : ∀ r ∈ R3, RwOk w14 r ∧ r.l.length ≤ 1000000000 := fun r hr => by rw [hR3] at hr; obtain ⟨p, hp, rfl⟩ := List.mem_map.1 hr; have h4 := hq3l.2 p hp; exact ⟨rwp_ok _ hno hrb2 (by omega) h4.2, by show (cutS (normP l) p).length ≤ _; have := (cut_sub (normP l) p).length_le; omega⟩
                      rw [← hR3] at hS
                      rw [hR3l] at hS ⊢
                      refine s_call en30 ?_
                      try simp only [opv, n1, n2, n3, n4, Value.cells, List.map_toArray, List.map_cons, List.map_nil, List.append_toArray, List.cons_append, List.nil_append, Array.append_empty]
                      refine CallR.mono (c_chunkFits _ _ _ R3 (hS.vecRd (by repeat (first | exact Has.head | apply Has.tail))) hR3o (by omega) b) ?_
                      rintro _ w15 ⟨rfl, hE15⟩
                      replace hS := hS.ext hE15
                      try simp only [opv, n1, n2, n3, n4, Value.cells]
                      refine s_go (s_not) ?_
                      try simp only [opv, n1, n2, n3, n4, Value.cells]
                      refine s_go (s_move) ?_
                      try simp only [opv, n1, n2, n3, n4, Value.cells]
                      refine s_part 133 rfl (fun hp4 => ?_) (fun hp4 => ?_)
                      ·
                       try simp only [n3, n4]
                       try simp only [decide_eq_true_eq, decide_eq_false_iff_not, Bool.not_eq_true', Bool.not_eq_false', Int.not_lt, Int.not_le, ne_eq, Decidable.not_not] at hp4
                       first
                       | (exfalso; omega)
                       | skip
                         refine g_off (yi (t := 133) rfl rfl) ?_
                         try simp only [opv, n1, n2, n3, n4, Value.cells]
                         refine g_off (yi (t := 133) rfl rfl) ?_
                         try simp only [opv, n1, n2, n3, n4, Value.cells]
                         refine g_off (yi (t := 133) rfl rfl) ?_
                         try simp only [opv, n1, n2, n3, n4, Value.cells]
                         refine g_off (yi (t := 133) rfl rfl) ?_
                         try simp only [opv, n1, n2, n3, n4, Value.cells]
                         refine g_off (yi (t := 133) rfl rfl) ?_
                         try simp only [opv, n1, n2, n3, n4, Value.cells]
                         first | refine s_go (s_pick_t) ?_ | refine s_go (s_pick_f) ?_
                         try simp only [opv, n1, n2, n3, n4, Value.cells]
                         refine s_go (s_move) ?_
                         try simp only [opv, n1, n2, n3, n4, Value.cells]
                         refine g_on (yi (t := 140) rfl rfl) ?_
                         refine s_call en25 ?_
                         try simp only [opv, n1, n2, n3, n4, Value.cells, List.map_toArray, List.map_cons, List.map_nil, List.append_toArray, List.cons_append, List.nil_append, Array.append_empty]
                         refine CallR.mono (c_law21alive _) ?_
                         rintro _ w16 ⟨rfl, hE16⟩
                         replace hS := hS.ext hE16
                         try simp only [opv, n1, n2, n3, n4, Value.cells]
                         first | refine s_go (s_pick_t) ?_ | refine s_go (s_pick_f) ?_
                         try simp only [opv, n1, n2, n3, n4, Value.cells]
                         refine s_go (s_assign) ?_
                         try simp only [opv, n1, n2, n3, n4, Value.cells]
                         refine x_nil ?_
                         refine hK33 _ _ ?_
                         refine x_ret ?_
                         refine r_tmp rfl ?_
                         exact ⟨rfl, hS.ext_of⟩
                      ·
                       try simp only [n3, n4]
                       try simp only [decide_eq_true_eq, decide_eq_false_iff_not, Bool.not_eq_true', Bool.not_eq_false', Int.not_lt, Int.not_le, ne_eq, Decidable.not_not] at hp4
                       first
                       | (exfalso; omega)
                       | skip
                         have hfw := law_fewest (B := B2) (cp := fun p => d2 - p.1) hsn hcnt hch3 (by rw [← hR3]; simpa using hp4)
                         refine g_on (yi (t := 133) rfl rfl) ?_
                         refine s_go (s_move) ?_
                         try simp only [opv, n1, n2, n3, n4, Value.cells]
                         refine g_on (yi (t := 133) rfl rfl) ?_
                         refine s_go (s_len_sl Try.underlying57) ?_
                         try simp only [opv, n1, n2, n3, n4, Value.cells]
                         refine g_on (yi (t := 133) rfl rfl) ?_
                         refine s_go (s_move) ?_
                         try simp only [opv, n1, n2, n3, n4, Value.cells]
                         refine g_on (yi (t := 133) rfl rfl) ?_
                         refine s_go (s_len_sl Try.underlying57) ?_
                         try simp only [opv, n1, n2, n3, n4, Value.cells]
                         refine g_on (yi (t := 133) rfl rfl) ?_
                         refine s_go (s_geq) ?_
                         try simp only [opv, n1, n2, n3, n4, Value.cells]
                         rw [decide_eq_true (show (ps.length : Int) ≤ (R3.length : Int) by omega)]
                         first | refine s_go (s_pick_t) ?_ | refine s_go (s_pick_f) ?_
                         try simp only [opv, n1, n2, n3, n4, Value.cells]
                         refine s_go (s_move) ?_
                         try simp only [opv, n1, n2, n3, n4, Value.cells]
                         refine g_on (yi (t := 140) rfl rfl) ?_
                         refine s_call en25 ?_
                         try simp only [opv, n1, n2, n3, n4, Value.cells, List.map_toArray, List.map_cons, List.map_nil, List.append_toArray, List.cons_append, List.nil_append, Array.append_empty]
                         refine CallR.mono (c_law21alive _) ?_
                         rintro _ w17 ⟨rfl, hE17⟩
                         replace hS := hS.ext hE17
                         try simp only [opv, n1, n2, n3, n4, Value.cells]
                         first | refine s_go (s_pick_t) ?_ | refine s_go (s_pick_f) ?_
                         try simp only [opv, n1, n2, n3, n4, Value.cells]
                         refine s_go (s_assign) ?_
                         try simp only [opv, n1, n2, n3, n4, Value.cells]
                         refine x_nil ?_
                         refine hK33 _ _ ?_
                         refine x_ret ?_
                         refine r_tmp rfl ?_
                         exact ⟨rfl, hS.ext_of⟩
                   ·
                    try simp only [decide_eq_true_eq, decide_eq_false_iff_not, Bool.not_eq_true', Bool.not_eq_false', Int.not_lt, Int.not_le, ne_eq, Decidable.not_not, bne_iff_ne, beq_iff_eq, not_true_eq_false, not_false_eq_true] at hc9
                    first
                    | (exfalso; omega)
                    | skip
                      obtain ⟨q3, hq3⟩ : ∃ z, z = qs := ⟨_, rfl⟩
                      have hch3 : Chn 0 q3 (normP l).length := by (have e : ia = (normP l).length := by omega); rw [hq3, ← e]; exact hcq2
                      rw [← hq3] at hS ⊢
                      refine x_skip ?_
                      refine hK31 _ _ ?_
                      refine x_seq fun K34 hK34 => ?_
                      refine x_region ?_
                      refine s_go (s_move) ?_
                      try simp only [opv, n1, n2, n3, n4, Value.cells]
                      refine s_go (s_move) ?_
                      try simp only [opv, n1, n2, n3, n4, Value.cells]
                      have hq3l := chn_le hch3
                      have hrb2 := hS.hasRd (A := B2) (n := (normP l).length) (by repeat (first | exact Has.head | apply Has.tail))
                      obtain ⟨R3, hR3⟩ : ∃ z, z = q3.map (rwP B2 (normP l) (fun p => d2 - p.1)) := ⟨_, rfl⟩
                      have hR3l : q3.length = R3.length := by rw [hR3, List.length_map]
                      have hR3o : ∀ r ∈ R3, RwOk wl2 r ∧ r.l.length ≤ 1000000000 := fun r hr => by rw [hR3] at hr; obtain ⟨p, hp, rfl⟩ := List.mem_map.1 hr; have h4 := hq3l.2 p hp; exact ⟨rwp_ok _ hno hrb2 (by omega) h4.2, by show (cutS (normP l) p).length ≤ _; have := (cut_sub (normP l) p).length_le; omega⟩
                      rw [← hR3] at hS
                      rw [hR3l] at hS ⊢
                      refine s_call en30 ?_
                      try simp only [opv, n1, n2, n3, n4, Value.cells, List.map_toArray, List.map_cons, List.map_nil, List.append_toArray, List.cons_append, List.nil_append, Array.append_empty]
                      refine CallR.mono (c_chunkFits _ _ _ R3 (hS.vecRd (by repeat (first | exact Has.head | apply Has.tail))) hR3o (by omega) b) ?_
                      rintro _ w18 ⟨rfl, hE18⟩
                      replace hS := hS.ext hE18
                      try simp only [opv, n1, n2, n3, n4, Value.cells]
                      refine s_go (s_not) ?_
                      try simp only [opv, n1, n2, n3, n4, Value.cells]
                      refine s_go (s_move) ?_
                      try simp only [opv, n1, n2, n3, n4, Value.cells]
                      refine s_part 133 rfl (fun hp5 => ?_) (fun hp5 => ?_)
                      ·
                       try simp only [n3, n4]
                       try simp only [decide_eq_true_eq, decide_eq_false_iff_not, Bool.not_eq_true', Bool.not_eq_false', Int.not_lt, Int.not_le, ne_eq, Decidable.not_not] at hp5
                       first
                       | (exfalso; omega)
                       | skip
                         refine g_off (yi (t := 133) rfl rfl) ?_
                         try simp only [opv, n1, n2, n3, n4, Value.cells]
                         refine g_off (yi (t := 133) rfl rfl) ?_
                         try simp only [opv, n1, n2, n3, n4, Value.cells]
                         refine g_off (yi (t := 133) rfl rfl) ?_
                         try simp only [opv, n1, n2, n3, n4, Value.cells]
                         refine g_off (yi (t := 133) rfl rfl) ?_
                         try simp only [opv, n1, n2, n3, n4, Value.cells]
                         refine g_off (yi (t := 133) rfl rfl) ?_
                         try simp only [opv, n1, n2, n3, n4, Value.cells]
                         first | refine s_go (s_pick_t) ?_ | refine s_go (s_pick_f) ?_
                         try simp only [opv, n1, n2, n3, n4, Value.cells]
                         refine s_go (s_move) ?_
                         try simp only [opv, n1, n2, n3, n4, Value.cells]
                         refine g_on (yi (t := 140) rfl rfl) ?_
                         refine s_call en25 ?_
                         try simp only [opv, n1, n2, n3, n4, Value.cells, List.map_toArray, List.map_cons, List.map_nil, List.append_toArray, List.cons_append, List.nil_append, Array.append_empty]
                         refine CallR.mono (c_law21alive _) ?_
                         rintro _ w19 ⟨rfl, hE19⟩
                         replace hS := hS.ext hE19
                         try simp only [opv, n1, n2, n3, n4, Value.cells]
                         first | refine s_go (s_pick_t) ?_ | refine s_go (s_pick_f) ?_
                         try simp only [opv, n1, n2, n3, n4, Value.cells]
                         refine s_go (s_assign) ?_
                         try simp only [opv, n1, n2, n3, n4, Value.cells]
                         refine x_nil ?_
                         refine hK34 _ _ ?_
                         refine x_ret ?_
                         refine r_tmp rfl ?_
                         exact ⟨rfl, hS.ext_of⟩
                      ·
                       try simp only [n3, n4]
                       try simp only [decide_eq_true_eq, decide_eq_false_iff_not, Bool.not_eq_true', Bool.not_eq_false', Int.not_lt, Int.not_le, ne_eq, Decidable.not_not] at hp5
                       first
                       | (exfalso; omega)
                       | skip
                         have hfw := law_fewest (B := B2) (cp := fun p => d2 - p.1) hsn hcnt hch3 (by rw [← hR3]; simpa using hp5)
                         refine g_on (yi (t := 133) rfl rfl) ?_
                         refine s_go (s_move) ?_
                         try simp only [opv, n1, n2, n3, n4, Value.cells]
                         refine g_on (yi (t := 133) rfl rfl) ?_
                         refine s_go (s_len_sl Try.underlying57) ?_
                         try simp only [opv, n1, n2, n3, n4, Value.cells]
                         refine g_on (yi (t := 133) rfl rfl) ?_
                         refine s_go (s_move) ?_
                         try simp only [opv, n1, n2, n3, n4, Value.cells]
                         refine g_on (yi (t := 133) rfl rfl) ?_
                         refine s_go (s_len_sl Try.underlying57) ?_
                         try simp only [opv, n1, n2, n3, n4, Value.cells]
                         refine g_on (yi (t := 133) rfl rfl) ?_
                         refine s_go (s_geq) ?_
                         try simp only [opv, n1, n2, n3, n4, Value.cells]
                         rw [decide_eq_true (show (ps.length : Int) ≤ (R3.length : Int) by omega)]
                         first | refine s_go (s_pick_t) ?_ | refine s_go (s_pick_f) ?_
                         try simp only [opv, n1, n2, n3, n4, Value.cells]
                         refine s_go (s_move) ?_
                         try simp only [opv, n1, n2, n3, n4, Value.cells]
                         refine g_on (yi (t := 140) rfl rfl) ?_
                         refine s_call en25 ?_
                         try simp only [opv, n1, n2, n3, n4, Value.cells, List.map_toArray, List.map_cons, List.map_nil, List.append_toArray, List.cons_append, List.nil_append, Array.append_empty]
                         refine CallR.mono (c_law21alive _) ?_
                         rintro _ w20 ⟨rfl, hE20⟩
                         replace hS := hS.ext hE20
                         try simp only [opv, n1, n2, n3, n4, Value.cells]
                         first | refine s_go (s_pick_t) ?_ | refine s_go (s_pick_f) ?_
                         try simp only [opv, n1, n2, n3, n4, Value.cells]
                         refine s_go (s_assign) ?_
                         try simp only [opv, n1, n2, n3, n4, Value.cells]
                         refine x_nil ?_
                         refine hK34 _ _ ?_
                         refine x_ret ?_
                         refine r_tmp rfl ?_
                         exact ⟨rfl, hS.ext_of⟩
             ·
              try simp only [n3, n4]
              try simp only [decide_eq_true_eq, decide_eq_false_iff_not, Bool.not_eq_true', Bool.not_eq_false', Int.not_lt, Int.not_le, ne_eq, Decidable.not_not] at hp3
              first
              | (exfalso; omega)
              | skip
                refine g_off (yi (t := 87) rfl rfl) ?_
                try simp only [opv, n1, n2, n3, n4, Value.cells]
                refine g_off (yi (t := 87) rfl rfl) ?_
                try simp only [opv, n1, n2, n3, n4, Value.cells]
                refine g_off (yi (t := 87) rfl rfl) ?_
                try simp only [opv, n1, n2, n3, n4, Value.cells]
                refine g_off (yi (t := 87) rfl rfl) ?_
                try simp only [opv, n1, n2, n3, n4, Value.cells]
                first | refine s_go (s_pick_t) ?_ | refine s_go (s_pick_f) ?_
                try simp only [opv, n1, n2, n3, n4, Value.cells]
                refine x_nil ?_
                refine hK27 _ _ ?_
                refine x_cond_f (h := ?_)
                refine x_exit (look_here ?_)
                refine hK24 _ _ ?_
                refine x_seq fun K35 hK35 => ?_
                refine x_seq fun K36 hK36 => ?_
                refine x_region ?_
                refine s_go (s_move) ?_
                try simp only [opv, n1, n2, n3, n4, Value.cells]
                refine s_go (s_move) ?_
                try simp only [opv, n1, n2, n3, n4, Value.cells]
                refine s_go (s_len_sl Try.underlying22) ?_
                try simp only [opv, n1, n2, n3, n4, Value.cells]
                refine s_go (s_lss) ?_
                try simp only [opv, n1, n2, n3, n4, Value.cells]
                refine x_nil ?_
                refine hK36 _ _ ?_
                refine x_cond (ht := fun hc11 => ?_) (hf := fun hc11 => ?_)
                ·
                 try simp only [decide_eq_true_eq, decide_eq_false_iff_not, Bool.not_eq_true', Bool.not_eq_false', Int.not_lt, Int.not_le, ne_eq, Decidable.not_not, bne_iff_ne, beq_iff_eq, not_true_eq_false, not_false_eq_true] at hc11
                 first
                 | (exfalso; omega)
                 | skip
                   have hian : ia < (normP l).length := by omega
                   have hch3 := chn_app hcq2 hian
                   obtain ⟨q3, hq3⟩ : ∃ z, z = qs ++ [(ia, (normP l).length)] := ⟨_, rfl⟩
                   rw [← hq3] at hch3
                   refine x_region ?_
                   refine s_go (s_move) ?_
                   try simp only [opv, n1, n2, n3, n4, Value.cells]
                   refine s_go (s_move) ?_
                   try simp only [opv, n1, n2, n3, n4, Value.cells]
                   refine s_go (s_move) ?_
                   try simp only [opv, n1, n2, n3, n4, Value.cells]
                   refine s_go (m_slice (lo := ia) (hi := (normP l).length) (m := d2) Try.underlying22 ti54 (hlo := by exact ⟨_, rfl⟩) (hhi := by exact ⟨rfl, rfl⟩) (hmx := by exact rfl)) ?_
                   try simp only [opv, n1, n2, n3, n4, Value.cells]
                   rw [if_neg (by omega), show (normP l).length - ia = (cutS (normP l) (ia, (normP l).length)).length from (cut_len (Nat.le_refl _)).symm]
                   refine m_buildRow (cells := #[_]) Try.underlying57 ti22 (hc := by simp only [List.map_toArray, List.map_cons, List.map_nil, opv, n1, n2, n3, n4, Value.cells, List.toList_toArray]; (repeat (refine fill_cons rfl rfl (Nat.le_of_ble_eq_true rfl) ?_)); rfl) (hS := hS) (h := fun w21 g21 hS => ?_)
                   try simp only [opv, n1, n2, n3, n4, Value.cells, Array.toArray_toList] at hS ⊢
                   replace hS := hS.obj_rd (sz := 1) (n := 1) rfl .head
                   refine m_append Try.underlying57 ti22 (hS := hS) (h1 := by intro u hu; rw [List.mem_singleton] at hu; rw [hu]; rfl) (h := fun w22 A22 C22 hS => ?_)
                   try simp only [← List.map_append, ← List.map_drop, ← List.map_take, Nat.mul_one, Nat.zero_mul, Nat.sub_zero, List.drop_zero, List.nil_append, Nat.zero_add] at hS ⊢
                   try simp only [opv, n1, n2, n3, n4, Value.cells, Array.toArray_toList] at hS ⊢
                   rw [show ([Value.slice (B2.map (·.add (ia * 21))) (cutS (normP l) (ia, (normP l).length)).length (d2 - ia)] : List Value) = [rwV (rwP B2 (normP l) (fun p => d2 - p.1) (ia, (normP l).length))] from rfl, map_snoc_p, ← hq3, show qs.length + 1 = q3.length by rw [hq3, List.length_append]; rfl] at hS
                   rw [show qs.length + 1 = q3.length by rw [hq3, List.length_append]; rfl]
                   refine s_go (s_assign) ?_
                   try simp only [opv, n1, n2, n3, n4, Value.cells]
                   refine x_nil ?_
                   refine hK35 _ _ ?_
                   refine x_seq fun K37 hK37 => ?_
                   refine x_region ?_
                   refine s_go (s_move) ?_
                   try simp only [opv, n1, n2, n3, n4, Value.cells]
                   refine s_go (s_move) ?_
                   try simp only [opv, n1, n2, n3, n4, Value.cells]
                   have hq3l := chn_le hch3
                   have hrb2 := hS.hasRd (A := B2) (n := (normP l).length) (by repeat (first | exact Has.head | apply Has.tail))
                   obtain ⟨R3, hR3⟩ : ∃ z, z = q3.map (rwP B2 (normP l) (fun p => d2 - p.1)) := ⟨_, rfl⟩
                   have hR3l : q3.length = R3.length := by rw [hR3, List.length_map]
                   have hR3o : ∀ r ∈ R3, RwOk w22 r ∧ r.l.length ≤ 1000000000 := fun r hr => by rw [hR3] at hr; obtain ⟨p, hp, rfl⟩ := List.mem_map.1 hr; have h4 := hq3l.2 p hp; exact ⟨rwp_ok _ hno hrb2 (by omega) h4.2, by show (cutS (normP l) p).length ≤ _; have := (cut_sub (normP l) p).length_le; omega⟩
                   rw [← hR3] at hS
                   rw [hR3l] at hS ⊢
                   refine s_call en30 ?_
                   try simp only [opv, n1, n2, n3, n4, Value.cells, List.map_toArray, List.map_cons, List.map_nil, List.append_toArray, List.cons_append, List.nil_append, Array.append_empty]
                   refine CallR.mono (c_chunkFits _ _ _ R3 (hS.vecRd (by repeat (first | exact Has.head | apply Has.tail))) hR3o (by omega) b) ?_
                   rintro _ w23 ⟨rfl, hE23⟩
                   replace hS := hS.ext hE23
                   try simp only [opv, n1, n2, n3, n4, Value.cells]
                   refine s_go (s_not) ?_
                   try simp only [opv, n1, n2, n3, n4, Value.cells]
                   refine s_go (s_move) ?_
                   try simp only [opv, n1, n2, n3, n4, Value.cells]
                   refine s_part 133 rfl (fun hp6 => ?_) (fun hp6 => ?_)
                   ·
                    try simp only [n3, n4]
                    try simp only [decide_eq_true_eq, decide_eq_false_iff_not, Bool.not_eq_true', Bool.not_eq_false', Int.not_lt, Int.not_le, ne_eq, Decidable.not_not] at hp6
                    first
                    | (exfalso; omega)
                    | skip
                      refine g_off (yi (t := 133) rfl rfl) ?_
                      try simp only [opv, n1, n2, n3, n4, Value.cells]
                      refine g_off (yi (t := 133) rfl rfl) ?_
                      try simp only [opv, n1, n2, n3, n4, Value.cells]
                      refine g_off (yi (t := 133) rfl rfl) ?_
                      try simp only [opv, n1, n2, n3, n4, Value.cells]
                      refine g_off (yi (t := 133) rfl rfl) ?_
                      try simp only [opv, n1, n2, n3, n4, Value.cells]
                      refine g_off (yi (t := 133) rfl rfl) ?_
                      try simp only [opv, n1, n2, n3, n4, Value.cells]
                      first | refine s_go (s_pick_t) ?_ | refine s_go (s_pick_f) ?_
                      try simp only [opv, n1, n2, n3, n4, Value.cells]
                      refine s_go (s_move) ?_
                      try simp only [opv, n1, n2, n3, n4, Value.cells]
                      refine g_on (yi (t := 140) rfl rfl) ?_
                      refine s_call en25 ?_
                      try simp only [opv, n1, n2, n3, n4, Value.cells, List.map_toArray, List.map_cons, List.map_nil, List.append_toArray, List.cons_append, List.nil_append, Array.append_empty]
                      refine CallR.mono (c_law21alive _) ?_
                      rintro _ w24 ⟨rfl, hE24⟩
                      replace hS := hS.ext hE24
                      try simp only [opv, n1, n2, n3, n4, Value.cells]
                      first | refine s_go (s_pick_t) ?_ | refine s_go (s_pick_f) ?_
                      try simp only [opv, n1, n2, n3, n4, Value.cells]
                      refine s_go (s_assign) ?_
                      try simp only [opv, n1, n2, n3, n4, Value.cells]
                      refine x_nil ?_
                      refine hK37 _ _ ?_
                      refine x_ret ?_
                      refine r_tmp rfl ?_
                      exact ⟨rfl, hS.ext_of⟩
                   ·
                    try simp only [n3, n4]
                    try simp only [decide_eq_true_eq, decide_eq_false_iff_not, Bool.not_eq_true', Bool.not_eq_false', Int.not_lt, Int.not_le, ne_eq, Decidable.not_not] at hp6
                    first
                    | (exfalso; omega)
                    | skip
                      have hfw := law_fewest (B := B2) (cp := fun p => d2 - p.1) hsn hcnt hch3 (by rw [← hR3]; simpa using hp6)
                      refine g_on (yi (t := 133) rfl rfl) ?_
                      refine s_go (s_move) ?_
                      try simp only [opv, n1, n2, n3, n4, Value.cells]
                      refine g_on (yi (t := 133) rfl rfl) ?_
                      refine s_go (s_len_sl Try.underlying57) ?_
                      try simp only [opv, n1, n2, n3, n4, Value.cells]
                      refine g_on (yi (t := 133) rfl rfl) ?_
                      refine s_go (s_move) ?_
                      try simp only [opv, n1, n2, n3, n4, Value.cells]
                      refine g_on (yi (t := 133) rfl rfl) ?_
                      refine s_go (s_len_sl Try.underlying57) ?_
                      try simp only [opv, n1, n2, n3, n4, Value.cells]
                      refine g_on (yi (t := 133) rfl rfl) ?_
                      refine s_go (s_geq) ?_
                      try simp only [opv, n1, n2, n3, n4, Value.cells]
                      rw [decide_eq_true (show (ps.length : Int) ≤ (R3.length : Int) by omega)]
                      first | refine s_go (s_pick_t) ?_ | refine s_go (s_pick_f) ?_
                      try simp only [opv, n1, n2, n3, n4, Value.cells]
                      refine s_go (s_move) ?_
                      try simp only [opv, n1, n2, n3, n4, Value.cells]
                      refine g_on (yi (t := 140) rfl rfl) ?_
                      refine s_call en25 ?_
                      try simp only [opv, n1, n2, n3, n4, Value.cells, List.map_toArray, List.map_cons, List.map_nil, List.append_toArray, List.cons_append, List.nil_append, Array.append_empty]
                      refine CallR.mono (c_law21alive _) ?_
                      rintro _ w25 ⟨rfl, hE25⟩
                      replace hS := hS.ext hE25
                      try simp only [opv, n1, n2, n3, n4, Value.cells]
                      first | refine s_go (s_pick_t) ?_ | refine s_go (s_pick_f) ?_
                      try simp only [opv, n1, n2, n3, n4, Value.cells]
                      refine s_go (s_assign) ?_
                      try simp only [opv, n1, n2, n3, n4, Value.cells]
                      refine x_nil ?_
                      refine hK37 _ _ ?_
                      refine x_ret ?_
                      refine r_tmp rfl ?_
                      exact ⟨rfl, hS.ext_of⟩
                ·
                 try simp only [decide_eq_true_eq, decide_eq_false_iff_not, Bool.not_eq_true', Bool.not_eq_false', Int.not_lt, Int.not_le, ne_eq, Decidable.not_not, bne_iff_ne, beq_iff_eq, not_true_eq_false, not_false_eq_true] at hc11
                 first
                 | (exfalso; omega)
                 | skip
                   obtain ⟨q3, hq3⟩ : ∃ z, z = qs := ⟨_, rfl⟩
                   have hch3 : Chn 0 q3 (normP l).length := by (have e : ia = (normP l).length := by omega); rw [hq3, ← e]; exact hcq2
                   rw [← hq3] at hS ⊢
                   refine x_skip ?_
                   refine hK35 _ _ ?_
                   refine x_seq fun K38 hK38 => ?_
                   refine x_region ?_
                   refine s_go (s_move) ?_
                   try simp only [opv, n1, n2, n3, n4, Value.cells]
                   refine s_go (s_move) ?_
                   try simp only [opv, n1, n2, n3, n4, Value.cells]
                   have hq3l := chn_le hch3
                   have hrb2 := hS.hasRd (A := B2) (n := (normP l).length) (by repeat (first | exact Has.head | apply Has.tail))
                   obtain ⟨R3, hR3⟩ : ∃ z, z = q3.map (rwP B2 (normP l) (fun p => d2 - p.1)) := ⟨_, rfl⟩
                   have hR3l : q3.length = R3.length := by rw [hR3, List.length_map]
                   have hR3o : ∀ r ∈ R3, RwOk wl2 r ∧ r.l.length ≤ 1000000000 := fun r hr => by rw [hR3] at hr; obtain ⟨p, hp, rfl⟩ := List.mem_map.1 hr; have h4 := hq3l.2 p hp; exact ⟨rwp_ok _ hno hrb2 (by omega) h4.2, by show (cutS (normP l) p).length ≤ _; have := (cut_sub (normP l) p).length_le; omega⟩
                   rw [← hR3] at hS
                   rw [hR3l] at hS ⊢
                   refine s_call en30 ?_
                   try simp only [opv, n1, n2, n3, n4, Value.cells, List.map_toArray, List.map_cons, List.map_nil, List.append_toArray, List.cons_append, List.nil_append, Array.append_empty]
                   refine CallR.mono (c_chunkFits _ _ _ R3 (hS.vecRd (by repeat (first | exact Has.head | apply Has.tail))) hR3o (by omega) b) ?_
                   rintro _ w26 ⟨rfl, hE26⟩
                   replace hS := hS.ext hE26
                   try simp only [opv, n1, n2, n3, n4, Value.cells]
                   refine s_go (s_not) ?_
                   try simp only [opv, n1, n2, n3, n4, Value.cells]
                   refine s_go (s_move) ?_
                   try simp only [opv, n1, n2, n3, n4, Value.cells]
                   refine s_part 133 rfl (fun hp7 => ?_) (fun hp7 => ?_)
                   ·
                    try simp only [n3, n4]
                    try simp only [decide_eq_true_eq, decide_eq_false_iff_not, Bool.not_eq_true', Bool.not_eq_false', Int.not_lt, Int.not_le, ne_eq, Decidable.not_not] at hp7
                    first
                    | (exfalso; omega)
                    | skip
                      refine g_off (yi (t := 133) rfl rfl) ?_
                      try simp only [opv, n1, n2, n3, n4, Value.cells]
                      refine g_off (yi (t := 133) rfl rfl) ?_
                      try simp only [opv, n1, n2, n3, n4, Value.cells]
                      refine g_off (yi (t := 133) rfl rfl) ?_
                      try simp only [opv, n1, n2, n3, n4, Value.cells]
                      refine g_off (yi (t := 133) rfl rfl) ?_
                      try simp only [opv, n1, n2, n3, n4, Value.cells]
                      refine g_off (yi (t := 133) rfl rfl) ?_
                      try simp only [opv, n1, n2, n3, n4, Value.cells]
                      first | refine s_go (s_pick_t) ?_ | refine s_go (s_pick_f) ?_
                      try simp only [opv, n1, n2, n3, n4, Value.cells]
                      refine s_go (s_move) ?_
                      try simp only [opv, n1, n2, n3, n4, Value.cells]
                      refine g_on (yi (t := 140) rfl rfl) ?_
                      refine s_call en25 ?_
                      try simp only [opv, n1, n2, n3, n4, Value.cells, List.map_toArray, List.map_cons, List.map_nil, List.append_toArray, List.cons_append, List.nil_append, Array.append_empty]
                      refine CallR.mono (c_law21alive _) ?_
                      rintro _ w27 ⟨rfl, hE27⟩
                      replace hS := hS.ext hE27
                      try simp only [opv, n1, n2, n3, n4, Value.cells]
                      first | refine s_go (s_pick_t) ?_ | refine s_go (s_pick_f) ?_
                      try simp only [opv, n1, n2, n3, n4, Value.cells]
                      refine s_go (s_assign) ?_
                      try simp only [opv, n1, n2, n3, n4, Value.cells]
                      refine x_nil ?_
                      refine hK38 _ _ ?_
                      refine x_ret ?_
                      refine r_tmp rfl ?_
                      exact ⟨rfl, hS.ext_of⟩
                   ·
                    try simp only [n3, n4]
                    try simp only [decide_eq_true_eq, decide_eq_false_iff_not, Bool.not_eq_true', Bool.not_eq_false', Int.not_lt, Int.not_le, ne_eq, Decidable.not_not] at hp7
                    first
                    | (exfalso; omega)
                    | skip
                      have hfw := law_fewest (B := B2) (cp := fun p => d2 - p.1) hsn hcnt hch3 (by rw [← hR3]; simpa using hp7)
                      refine g_on (yi (t := 133) rfl rfl) ?_
                      refine s_go (s_move) ?_
                      try simp only [opv, n1, n2, n3, n4, Value.cells]
                      refine g_on (yi (t := 133) rfl rfl) ?_
                      refine s_go (s_len_sl Try.underlying57) ?_
                      try simp only [opv, n1, n2, n3, n4, Value.cells]
                      refine g_on (yi (t := 133) rfl rfl) ?_
                      refine s_go (s_move) ?_
                      try simp only [opv, n1, n2, n3, n4, Value.cells]
                      refine g_on (yi (t := 133) rfl rfl) ?_
                      refine s_go (s_len_sl Try.underlying57) ?_
                      try simp only [opv, n1, n2, n3, n4, Value.cells]
                      refine g_on (yi (t := 133) rfl rfl) ?_
                      refine s_go (s_geq) ?_
                      try simp only [opv, n1, n2, n3, n4, Value.cells]
                      rw [decide_eq_true (show (ps.length : Int) ≤ (R3.length : Int) by omega)]
                      first | refine s_go (s_pick_t) ?_ | refine s_go (s_pick_f) ?_
                      try simp only [opv, n1, n2, n3, n4, Value.cells]
                      refine s_go (s_move) ?_
                      try simp only [opv, n1, n2, n3, n4, Value.cells]
                      refine g_on (yi (t := 140) rfl rfl) ?_
                      refine s_call en25 ?_
                      try simp only [opv, n1, n2, n3, n4, Value.cells, List.map_toArray, List.map_cons, List.map_nil, List.append_toArray, List.cons_append, List.nil_append, Array.append_empty]
                      refine CallR.mono (c_law21alive _) ?_
                      rintro _ w28 ⟨rfl, hE28⟩
                      replace hS := hS.ext hE28
                      try simp only [opv, n1, n2, n3, n4, Value.cells]
                      first | refine s_go (s_pick_t) ?_ | refine s_go (s_pick_f) ?_
                      try simp only [opv, n1, n2, n3, n4, Value.cells]
                      refine s_go (s_assign) ?_
                      try simp only [opv, n1, n2, n3, n4, Value.cells]
                      refine x_nil ?_
                      refine hK38 _ _ ?_
                      refine x_ret ?_
                      refine r_tmp rfl ?_
                      exact ⟨rfl, hS.ext_of⟩
end Go.Proofs.Ytffmanidnlbjjaa
set_option linter.unusedSimpArgs false
set_option linter.unusedVariables false
set_option maxHeartbeats 800000
set_option maxRecDepth 100000
namespace Go.Proofs.Ytffmanidnlbjjaa
open Go.ChangeShapes Go.WideShapes Go.ChangeAt Go.RowKit

theorem rows_aok {l : List (List Int)} (h : ∀ x ∈ l, x.length = atomKs.length ∧ ∀ i k, atomKs[i]? = some k → (Lit.int k (x.getD i 0)).wf = true) : AOks l := fun x hx => by
  obtain ⟨h1, h2⟩ := h x hx
  have W : World := { heap := #[], tape := fun _ _ => 0, drawn := 0, os := default, output := #[] }
  obtain ⟨a, e, ha⟩ := atom_open (w := W) (allOk_of h1 h2)
  rw [zi_inj h1 (by simpa using ha.len) e]; exact ha
theorem open_rows {w : World} {n : Nat} {xs : List Value} {A : Option Addr} (hr : Rd w A 21 n xs) (h : ∀ i, i < n → AllOk w (atomKs.map LK.int) ((xs.drop (i * 21)).take 21)) : ∃ l : List (List Int), l.length = n ∧ xs = arows l ∧ AOks l := by
  obtain ⟨l, hl, e, hok⟩ := rowsZ_open (w := w) (ks := atomKs) (n := n) (xs := xs) hr.1 h
  exact ⟨l, hl, e, rows_aok hok⟩
end Go.Proofs.Ytffmanidnlbjjaa
namespace Go.Proofs.Ytffmanidnlbjjaa
open Go.ChangeShapes Go.WideShapes Go.ChangeAt Go.RowKit
theorem own0 : ownKnob Try.prog.godebug = none := by kernel_rfl
theorem laidOut0 : laidOutB Try.prog = true := by kernel_rfl
theorem fl5 : Flat Try.prog 5 [LK.int .u8] := flat_int Try.underlying5
theorem fl23 : Flat Try.prog 23 [LK.int .u16] := flat_int Try.underlying23
theorem fl25 : Flat Try.prog 25 (List.replicate 8 [LK.int .u8]).flatten := flat_arr Try.underlying25 fl5 rfl (by kernel_rfl) (by kernel_rfl)
theorem fl29 : Flat Try.prog 29 [LK.int .u32] := flat_int Try.underlying29
theorem fl43 : Flat Try.prog 43 ([LK.int .u8] ++ ([LK.int .u16] ++ ((List.replicate 8 [LK.int .u8]).flatten ++ ([LK.int .u8] ++ ([LK.int .u32] ++ ([])))))) := flat_struct Try.underlying43 (.cons rfl fl5 rfl (by kernel_rfl) (.cons rfl fl23 rfl (by kernel_rfl) (.cons rfl fl25 rfl (by kernel_rfl) (.cons rfl fl5 rfl (by kernel_rfl) (.cons rfl fl29 rfl (by kernel_rfl) (.nil)))))) (by kernel_rfl)
theorem fl48 : Flat Try.prog 48 [LK.int .u64] := flat_int Try.underlying48
theorem fl50 : Flat Try.prog 50 ([LK.int .u64] ++ ((List.replicate 8 [LK.int .u8]).flatten ++ ([]))) := flat_struct Try.underlying50 (.cons rfl fl48 rfl (by kernel_rfl) (.cons rfl fl25 rfl (by kernel_rfl) (.nil))) (by kernel_rfl)
theorem fl54 : Flat Try.prog 54 (([LK.int .u8] ++ ([LK.int .u16] ++ ((List.replicate 8 [LK.int .u8]).flatten ++ ([LK.int .u8] ++ ([LK.int .u32] ++ ([])))))) ++ (([LK.int .u64] ++ ((List.replicate 8 [LK.int .u8]).flatten ++ ([]))) ++ ([]))) := flat_struct Try.underlying54 (.cons rfl fl43 rfl (by kernel_rfl) (.cons rfl fl50 rfl (by kernel_rfl) (.nil))) (by kernel_rfl)
end Go.Proofs.Ytffmanidnlbjjaa
namespace Go.Proofs.Ytffmanidnlbjjaa
theorem ws_cons {c : Char} (h : c ≠ Char.ofNat 32) (x : List Char) : wordsSigns (c :: x) = (match wordsSigns x with | w :: ws => (c :: w) :: ws | [] => [[c]]) := by
  conv => lhs; unfold wordsSigns
  split
  · simp_all
  · next h1 => exact absurd (by simpa using (List.cons.inj h1).1) h
  · next h1 => obtain ⟨rfl, rfl⟩ := List.cons.inj h1; rfl
theorem ws_app (b : List Char) : ∀ (a : List Char), (∀ c ∈ a, c ≠ Char.ofNat 32) → wordsSigns (a ++ Char.ofNat 32 :: b) = a :: wordsSigns b
  | [], _ => rfl
  | c :: r, h => by
    rw [List.cons_append, ws_cons (h c (by simp)), ws_app b r (fun x hx => h x (by simp [hx]))]
/-- the head's words: harness, a sum, cut -/
theorem head_words {P : Program} {s b : List Char} (he : P.initOrder = String.ofList ("harness".toList ++ Char.ofNat 32 :: (s ++ Char.ofNat 32 :: ("cut".toList ++ Char.ofNat 32 :: b)))) (hs : isSumSigns s = true) (hb : ∀ c ∈ s, c ≠ Char.ofNat 32) :
    ∃ R, behindMainWord (wordsSigns P.initOrder.toList) = "cut".toList :: R := by
  refine ⟨wordsSigns b, ?_⟩
  rw [he, String.toList_ofList, ws_app _ _ (by decide), ws_app _ _ hb, ws_app _ _ (by decide)]
  simp only [behindMainWord, hs, beq_self_eq_true, Bool.true_or, Bool.and_self, if_true]
theorem e_gc : ("cut".toList == "gc".toList) = false := by decide
theorem e_spec : ("cut".toList == "spec".toList) = false := by decide
theorem e_car : ("cut".toList == "carried".toList) = false := by decide
theorem e_sl (R : List (List Char)) : stripLifts liftWords ("cut".toList :: R) = ([], "cut".toList :: R) := by
  have h : ∀ (l : List String), (∀ o ∈ l, ("cut".toList == o.toList) = false) → stripLifts l ("cut".toList :: R) = ([], "cut".toList :: R) := by
    intro l
    induction l with
    | nil => intro _; rfl
    | cons o os ih => intro hl; rw [stripLifts, hl o (by simp)]; simp only [Bool.false_eq_true, if_false]; exact ih fun x hx => hl x (by simp [hx])
  exact h liftWords (by decide)
section
variable {P : Program} (h : ∃ R, behindMainWord (wordsSigns P.initOrder.toList) = "cut".toList :: R)
include h
theorem make_of : P.make = some .cut := by
  obtain ⟨R, h⟩ := h
  unfold Program.make
  rw [h]
  simp only [e_gc, e_spec, beq_self_eq_true, Bool.or_self, Bool.true_or, Bool.false_eq_true, if_false, if_true]
theorem lifts_of : P.liftsFinal = false := by
  obtain ⟨R, h⟩ := h
  unfold Program.liftsFinal Program.headLifts
  rw [h, e_sl]
  show (_ || _) = false
  rfl
theorem enter_of (hl : P.laysLater = false) (hr : P.bearsReflect = false) (hd : P.doorFits [] = true) : P.mayEnter = true := by
  obtain ⟨R, h⟩ := h
  unfold Program.mayEnter
  rw [h]
  dsimp only
  rw [e_sl, hl, hr]
  simp only [hd, e_gc, e_spec, e_car, beq_self_eq_true, Bool.or_self, Bool.false_and, Bool.not_false, Bool.or_true, Bool.and_true, List.head?_cons, List.contains_nil]
end
theorem closed_of {P : Program} {f : FuncId} {fn : Func} {s : ChangeSpec} {c : OpenClaim} (hm : P.make = some .cut) (hl : P.liftsFinal = false) (he : P.mayEnter = true) (h2 : laidOutB P = true) (h3 : mapsRowed P = true) (hst : (P.stops == []) = true) (hk : (P.stopKnobs == []) = true)
    (hp : P.plainKeys = c.plainKeys) (hh : P.stopsHeard = true) (i1 : P.inPlace f = c.inPlace) (i2 : P.unfollowed f = c.unfollowed) (i3 : P.recurses f = c.recurses) (i4 : P.varsNamed f = c.named)
    (rest : (c.wf (OpenSpec.ofChange s) && fn.params.all (P.readableRec ·) && namedTie P c.named s.vars && (c.stops == []) && (c.knobs == []) &&
      (c.maps == (fn.params.toList ++ s.plain.varTypes P).any (P.mapsRec ·)) && (c.ifaces == (fn.params.toList ++ s.plain.varTypes P).any (P.ifacesRec ·)) && (c.mapsOut == P.mapsAmong fn.resultTypes.toList) &&
      (c.loops == (fn.params.toList ++ s.plain.varTypes P).any (P.loopsFrom ·)) && (c.wideKeys == (fn.params.toList ++ s.plain.varTypes P ++ fn.resultTypes.toList).any (P.wideKeysFrom ·)) &&
      s.vars.all (P.varReadable ·) && fn.resultTypes.all (fun t => P.readableRec t && decide (t < P.types.size)) && (c.ifacesOut == fn.resultTypes.toList.any (P.ifacesRec ·)) && (c.loopsOut == fn.resultTypes.toList.any (P.loopsFrom ·)) && c.shortTexts.isNone && (c.lifted == false) && (some Make.cut == some c.make) &&
      (c.kinds == (if c.domain.isEmpty then [] else fn.params.toList.map fun t => match P.underlying t with | some (.int k) => some k | _ => none)) && (c.pinned == c.pinnedBy) &&
      (c.veiled == (fn.params.toList ++ s.plain.varTypes P ++ fn.resultTypes.toList).any (P.veiledRec ·)) && c.veiledFits P fn.params.toList (fn.params.toList ++ s.plain.varTypes P ++ fn.resultTypes.toList)) = true) : joinedFacts P f fn s c = true := by
  simp only [Bool.and_eq_true] at rest
  unfold joinedFacts
  rw [hm, hl, he, h2, h3, hst, hk, hp, hh, i1, i2, i3, i4]
  simp only [beq_self_eq_true, Bool.and_eq_true, Bool.and_true]
  have hkd := rest.1.1.1.2
  simp only [rest, and_self]
  exact ⟨⟨⟨⟨trivial, hkd⟩, trivial⟩, trivial⟩, trivial⟩
end Go.Proofs.Ytffmanidnlbjjaa
namespace Go.Proofs.Ytffmanidnlbjjaa
def ioS : List Nat := [55, 54, 99, 48, 99, 99, 57, 102, 100, 49, 97, 101, 97, 50, 102, 51, 48, 57, 100, 51, 52, 54, 49, 98, 100, 54, 53, 102, 53, 50, 100, 102, 100, 100, 102, 97, 52, 53, 48, 97, 50, 97, 99, 48, 98, 101, 98, 53, 51, 53, 49, 102, 53, 48, 57, 99, 101, 49, 57, 56, 57, 50, 48, 49]
def ioB : List Nat := [97, 116, 32, 104, 97, 110, 100, 99, 97, 114, 116, 47, 104, 97, 110, 100, 99, 97, 114, 116, 108, 97, 119, 49, 52, 46, 84, 97, 103, 115, 65, 100, 100, 115, 32, 104, 97, 110, 100, 99, 97, 114, 116, 47, 104, 97, 110, 100, 99, 97, 114, 116, 108, 97, 119, 49, 52, 46, 84, 97, 103, 115, 87, 105, 110, 32, 104, 97, 110, 100, 99, 97, 114, 116, 47, 104, 97, 110, 100, 99, 97, 114, 116, 108, 97, 119, 50, 49, 46, 67, 104, 117, 110, 107, 70, 101, 119, 101, 115, 116, 32, 104, 97, 110, 100, 99, 97, 114, 116, 47, 104, 97, 110, 100, 99, 97, 114, 116, 108, 97, 119, 49, 51, 46, 68, 111, 116, 115, 65, 100, 100, 115, 32, 104, 97, 110, 100, 99, 97, 114, 116, 47, 104, 97, 110, 100, 99, 97, 114, 116, 108, 97, 119, 49, 51, 46, 68, 111, 116, 115, 65, 108, 111, 110, 101, 32, 104, 97, 110, 100, 99, 97, 114, 116, 47, 104, 97, 110, 100, 99, 97, 114, 116, 108, 97, 119, 49, 51, 46, 68, 111, 116, 115, 74, 111, 105, 110, 115]
theorem io_eq : Try.prog.initOrder = String.ofList ("harness".toList ++ Char.ofNat 32 :: (ioS.map Char.ofNat ++ Char.ofNat 32 :: ("cut".toList ++ Char.ofNat 32 :: ioB.map Char.ofNat))) := by kernel_rfl
theorem io_sum : isSumSigns (ioS.map Char.ofNat) = true := by kernel_rfl
theorem io_hd : ∃ R, behindMainWord (wordsSigns Try.prog.initOrder.toList) = "cut".toList :: R := head_words io_eq io_sum (by decide)
theorem p_make : Try.prog.make = some .cut := make_of io_hd
theorem p_lifts : Try.prog.liftsFinal = false := lifts_of io_hd
theorem p_ll : Try.prog.laysLater = false := by kernel_rfl
theorem p_br : Try.prog.bearsReflect = false := by kernel_rfl
theorem p_df : Try.prog.doorFits [] = true := by kernel_rfl
theorem p_enter : Try.prog.mayEnter = true := enter_of io_hd p_ll p_br p_df
theorem p_rowed : mapsRowed Try.prog = true := by kernel_rfl
theorem p_stops : (Try.prog.stops == []) = true := by kernel_rfl
theorem p_knobs : (Try.prog.stopKnobs == []) = true := by kernel_rfl
theorem p_keys : Try.prog.plainKeys = false := by kernel_rfl
theorem p_heard : Try.prog.stopsHeard = true := by kernel_rfl
end Go.Proofs.Ytffmanidnlbjjaa
