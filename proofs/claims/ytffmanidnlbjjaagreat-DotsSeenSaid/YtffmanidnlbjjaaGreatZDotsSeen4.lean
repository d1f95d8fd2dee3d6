/- Rules, plain words and walks that the claim leans on: Gg, Gh, Gk, Na, Nb, Qt, Pheap, Rt, Vv, Ra. -/
import Derived.Test.YtffmanidnlbjjaaGreatZDotsSeen3
set_option linter.unusedSimpArgs false
set_option linter.unusedVariables false
set_option linter.unusedSimpArgs false
set_option linter.unusedVariables false
set_option maxHeartbeats 600000
set_option maxRecDepth 100000
namespace Go.Proofs.YtffmanidnlbjjaaGreat
open Go.RowKit

/-- what a call hands back to be read: new, or what it was handed -/
structure RBack (w0 w' : World) (A : Option Addr) (l : List (List Int)) (B : Option Addr) (s : List (List Int)) : Prop where
  ext : Ext w0 w'
  rd : Rd w' B 21 s.length (arows s)
  wh : ∀ b, (Res.rd B 21 s.length (arows s)).reads = some b → w0.heap.size ≤ b ∨ (Res.rd A 21 l.length (arows l)).reads = some b
theorem pair_apart {g : Nat} {r s : Res} (ho : r.own = some g) (hs : s.own = none) (hrd : s.reads = some g) : ∀ {M : List Res}, M.Pairwise Res.compat → r ∈ M → s ∈ M → False
  | [], _, h, _ => by cases h
  | x :: M, hp, h1, h2 => by
    obtain ⟨hh, ht⟩ := List.pairwise_cons.1 hp
    rcases List.mem_cons.1 h1 with e1 | h1
    · rcases List.mem_cons.1 h2 with e2 | h2
      · rw [e1, ← e2, hs] at ho; cases ho
      · rw [← e1] at hh; exact ((hh s h2 g).1 ho).2 hrd
    · rcases List.mem_cons.1 h2 with e2 | h2
      · rw [← e2] at hh; exact ((hh r h1 g).2 ho).2 hrd
      · exact pair_apart ho hs hrd ht h1 h2
theorem St.back {S : Nat → Prop} {w0 w w' : World} {L : List Res} {A B : Option Addr} {l s : List (List Int)} (h : St S w0 w L) (k : RBack w w' A l B s) (hm : Has L (.rd A 21 l.length (arows l)) := by repeat (first | exact Has.head | apply Has.tail)) : St S w0 w' (.rd B 21 s.length (arows s) :: L) := by
  refine (h.ext k.ext).add_rd k.rd fun r hr g hg e => ?_
  rcases k.wh g e with h1 | h1
  · have := own_lt (h.holds r hr) hg; omega
  · exact pair_apart hg rfl h1 h.apart hr hm.mem
theorem rback_self {w0 w' : World} {A : Option Addr} {l s : List (List Int)} (hE : Ext w0 w') (hR : Rd w' A 21 l.length (arows l)) (e : s = l) : RBack w0 w' A l A s := by subst e; exact ⟨hE, hR, fun b hb => .inr hb⟩
theorem rback_vec {w0 w' : World} {A B : Option Addr} {c : Nat} {e : TypeId} {l s : List (List Int)} {L : List Res} (h : St NoB w0 w' L) (hm : Has L (.vec B c e 21 s.length (arows s))) : RBack w0 w' A l B s :=
  ⟨h.ext_of, h.vecRd hm, fun b hb => .inl (by
    have : (Res.vec B c e 21 s.length (arows s)).own = some b := by
      simp only [Res.reads] at hb
      split at hb
      · cases hb
      · exact hb
    exact (h.own _ hm.mem b this).resolve_left (fun f => f))⟩
theorem arow_key {l : List (List Int)} {k : Nat} (hk : k < l.length) (hv : AOks l) : (((arows l).drop (k * 21)).take 12).toArray = KA (akey (l.getD k [])) := by
  have ha := hv.get hk
  have h1 := congrArg Array.toList (arow_get hk hv)
  rw [List.toList_toArray] at h1
  have h2 : ((arows l).drop (k * 21)).take 12 = (((arows l).drop (k * 21)).take 21).take 12 := by rw [List.take_take]; rfl
  have h3 := atom_key ha.len
  rw [List.drop_zero] at h3
  rw [h2, h1, h3]
theorem arow_val {l : List (List Int)} {k : Nat} (hk : k < l.length) (hv : AOks l) : (((arows l).drop (k * 21 + 12)).take 9).toArray = VA (aval (l.getD k [])) := by
  have ha := hv.get hk
  have h1 := congrArg Array.toList (arow_get hk hv)
  rw [List.toList_toArray] at h1
  have h2 : ((arows l).drop (k * 21 + 12)).take 9 = ((((arows l).drop (k * 21)).take 21).drop 12).take 9 := by rw [List.drop_take, List.drop_drop, List.take_take]; simp
  rw [h2, h1, atom_val ha.len]
theorem put_step {a x : List Int} {l o : List (List Int)} {k : Nat} {dn : Bool} (hk : k < l.length) (hx : l.getD k [] = x) (h : (l.take k).foldl (putF a) ([], false) = (o, dn)) : (l.take (k + 1)).foldl (putF a) ([], false) = putF a (o, dn) x := by
  rw [take_snoc hk, List.foldl_append, h, hx]; rfl
theorem put_eqk {a x : List Int} {o : List (List Int)} {dn : Bool} (h : akey x = akey a) : putF a (o, dn) x = (o ++ [akey a ++ moreV (aval x) (aval a)], true) := by simp [putF, h]
theorem put_lt {a x : List Int} {o : List (List Int)} (h : ¬ akey x = akey a) (h2 : keyLt (akey a) (akey x) = true) : putF a (o, false) x = ((o ++ [a]) ++ [x], true) := by simp [putF, h, h2]
theorem put_on {a x : List Int} {o : List (List Int)} (h : ¬ akey x = akey a) (h2 : keyLt (akey a) (akey x) = false) : putF a (o, false) x = (o ++ [x], false) := by simp [putF, h, h2]
theorem put_dn {a x : List Int} {o : List (List Int)} (h : ¬ akey x = akey a) : putF a (o, true) x = (o ++ [x], true) := by simp [putF, h]
theorem put_end {a : List Int} {l o : List (List Int)} {dn : Bool} (h : l.foldl (putF a) ([], false) = (o, dn)) : putS a l = if dn = true then o else o ++ [a] := by rw [putS, h]
theorem add_one {o : List (List Int)} {y : List Int} : arows o ++ arows [y] = arows (o ++ [y]) := (rowsZ_app _ _ _).symm

theorem c_ref10Right (w0 : World) (A : Option Addr) (c : Nat) (l : List (List Int)) (hr : Rd w0 A 21 l.length (arows l)) (hv : AOks l) (hn : l.length ≤ 1000000000)  :
    CallR Tryz.prog 62 #[.slice A l.length c] w0 fun v w' => v = .bool (rightL l) ∧ Ext w0 w' := by
 have hS := St.rd1 (S := NoB) hr
 have hvl := arows_len l
 refine c_enter (l := [.slice A l.length c, undef, undef, undef, undef, undef, undef, undef, undef, undef, undef, undef, undef, undef, undef, undef, undef, undef, undef, undef, undef, undef, undef, undef, undef, undef, undef, undef, undef, undef, undef, undef, undef, undef, undef]) Tryz.func62 rfl (by simp only [Tryz.ntmps62, List.size_toArray, List.length_cons, List.length_nil, Nat.reduceAdd, Nat.reduceSub, Array.replicate_succ, Array.replicate_zero, List.push_toArray, List.append_toArray, List.nil_append, List.cons_append]) ?_
 refine x_seq fun K1 hK1 => ?_
 refine x_region ?_
 refine s_go (s_assign) ?_
 try simp only [opv, n1, n2, n3, n4, Value.cells]
 refine x_nil ?_
 refine hK1 _ _ ?_
 refine x_seq fun K2 hK2 => ?_
 refine x_seq fun K3 hK3 => ?_
 refine x_region ?_
 refine s_go (s_assign) ?_
 try simp only [opv, n1, n2, n3, n4, Value.cells]
 refine x_nil ?_
 refine hK3 _ _ ?_
 refine x_block ?_
 refine x_loop [2, 3, 4, 5, 6, 7, 8, 9, 10, 11, 12, 13, 14, 15, 16, 17, 18, 19, 20, 21, 22, 23, 24, 25, 26, 27, 28, 29, 30, 31, 32, 33, 34] (fun m f w => ∃ k : Nat, k ≤ l.length ∧ m = l.length - k ∧ f 3 = .int .i64 (k : Int) ∧ rgt l k = true ∧ St NoB w0 w [.rd A 21 (l).length (arows (l))]) (l.length) ?init1 (fun m1 f1 wl1 hI => ?_)
 case init1 =>
  try simp only [opv, n1, n2, n3, n4, Value.cells]
  exact ⟨0, by omega, rfl, rfl, rfl, hS⟩
 obtain ⟨k, hk0, hm, h3, hrg, hS⟩ := hI
 simp only [clob, List.foldl, n3, n4, h3]
 obtain ⟨x, hx⟩ : ∃ x, l.getD k [] = x := ⟨_, rfl⟩
 refine x_seq fun K4 hK4 => ?_
 refine x_seq fun K5 hK5 => ?_
 refine x_region ?_
 refine s_go (s_move) ?_
 try simp only [opv, n1, n2, n3, n4, Value.cells]
 refine s_go (s_move) ?_
 try simp only [opv, n1, n2, n3, n4, Value.cells]
 refine s_go (s_len_sl Tryz.underlying22) ?_
 try simp only [opv, n1, n2, n3, n4, Value.cells]
 refine s_go (s_lss) ?_
 try simp only [opv, n1, n2, n3, n4, Value.cells]
 refine x_nil ?_
 refine hK5 _ _ ?_
 refine x_cond (ht := fun hc1 => ?_) (hf := fun hc1 => ?_)
 ·
  try simp only [decide_eq_true_eq, decide_eq_false_iff_not, Bool.not_eq_true', Bool.not_eq_false', Int.not_lt, Int.not_le, ne_eq, Decidable.not_not, bne_iff_ne, beq_iff_eq, not_true_eq_false, not_false_eq_true] at hc1
  have ha : AtomOk x := by rw [← hx]; exact hv.get (by omega)
  have hal := ha.len
  have hk := ha.key
  have hkl := hk.len
  refine x_skip ?_
  refine hK4 _ _ ?_
  refine x_seq fun K6 hK6 => ?_
  refine x_block ?_
  refine x_seq fun K7 hK7 => ?_
  refine x_quiet (by kernel_rfl) (by kernel_rfl) hS ?_
  refine q_go (fun w hS => s_move) ?_
  try simp only [opv, n1, n2, n3, n4, Value.cells]
  refine q_go (fun w hS => s_move) ?_
  try simp only [opv, n1, n2, n3, n4, Value.cells]
  first | refine q_go (fun w hS => m_indexAddr_rd Tryz.underlying22 ti88 (hS := hS)) ?_ | refine q_go (fun w hS => m_indexAddr_vec Tryz.underlying22 ti88 (hS := hS)) ?_
  try simp only [opv, n1, n2, n3, n4, Value.cells, Nat.mul_one, Nat.zero_add, Int.toNat_natCast, Int.reduceToNat]
  first | refine q_go (fun w hS => m_load_row Tryz.underlying88 (hi := ti88) (hS := hS) (hfit := by rw [arows_len]; omega)) ?_ | refine q_go (fun w hS => m_loada_obj Tryz.underlying88 (hi := ti88) (hS := hS) (hfit := by rw [arows_len]; omega)) ?_ | refine q_go (fun w hS => m_loada_bx Tryz.underlying88 (hi := ti88) (hS := hS) (hfit := by rw [arows_len]; omega)) ?_ | refine q_go (fun w hS => m_loada_rd Tryz.underlying88 (hi := ti88) (hS := hS) (hfit := by rw [arows_len]; omega)) ?_ | refine q_go (fun w hS => m_loada_vec Tryz.underlying88 (hi := ti88) (hS := hS) (hfit := by rw [arows_len]; omega)) ?_
  try simp only [opv, n1, n2, n3, n4, Value.cells, List.getElem_toArray, List.getElem_cons_zero, List.getElem_cons_succ]
  rw [arow_get (by omega) hv, hx]
  apply q_call en63
  case H =>
    intro w hS
    try simp only [opv, n1, n2, n3, n4, List.map_toArray, List.map_cons, List.map_nil, List.append_toArray, List.cons_append, List.nil_append, Array.append_empty]
    refine CallR.mono (c_ref09Right x ha _) ?_
    rintro _ w1 ⟨rfl, hE⟩; exact ⟨rfl, hS.ext hE⟩
  try simp only [opv, n1, n2, n3, n4, Value.cells]
  refine q_go (fun w hS => s_not) ?_
  try simp only [opv, n1, n2, n3, n4, Value.cells]
  refine q_go (fun w hS => s_move) ?_
  try simp only [opv, n1, n2, n3, n4, Value.cells]
  refine q_part 16 rfl (fun hp1 => ?_) (fun hp1 => ?_)
  ·
   try simp only [n3, n4]
   try simp only [decide_eq_true_eq, decide_eq_false_iff_not, Bool.not_eq_true', Bool.not_eq_false', Int.not_lt, Int.not_le, ne_eq, Decidable.not_not] at hp1
   have hR : rightL l = false := rgt_false (k := k) (by rw [rgtAt, hx, show atomR x = false by simpa using hp1]; rfl) (by omega)
   refine q_off (yi (t := 16) rfl rfl) ?_
   try simp only [opv, n1, n2, n3, n4, Value.cells]
   refine q_off (yi (t := 16) rfl rfl) ?_
   try simp only [opv, n1, n2, n3, n4, Value.cells]
   refine q_off (yi (t := 16) rfl rfl) ?_
   try simp only [opv, n1, n2, n3, n4, Value.cells]
   refine q_un (yn (t := 19) rfl rfl) ?_
   try simp only [opv, n1, n2, n3, n4, Value.cells]
   refine q_un (yn (t := 19) rfl rfl) ?_
   try simp only [opv, n1, n2, n3, n4, Value.cells]
   refine q_un (yn (t := 19) rfl rfl) ?_
   try simp only [opv, n1, n2, n3, n4, Value.cells]
   refine q_un (yn (t := 19) rfl rfl) ?_
   try simp only [opv, n1, n2, n3, n4, Value.cells]
   refine q_un (yn (t := 19) rfl rfl) ?_
   try simp only [opv, n1, n2, n3, n4, Value.cells]
   refine q_un (yn (t := 19) rfl rfl) ?_
   try simp only [opv, n1, n2, n3, n4, Value.cells]
   refine q_un (yn (t := 19) rfl rfl) ?_
   try simp only [opv, n1, n2, n3, n4, Value.cells]
   refine q_un (yn (t := 19) rfl rfl) ?_
   try simp only [opv, n1, n2, n3, n4, Value.cells]
   refine q_un (yn (t := 19) rfl rfl) ?_
   try simp only [opv, n1, n2, n3, n4, Value.cells]
   refine q_un (yn (t := 19) rfl rfl) ?_
   try simp only [opv, n1, n2, n3, n4, Value.cells]
   refine q_un (yn (t := 19) rfl rfl) ?_
   try simp only [opv, n1, n2, n3, n4, Value.cells]
   refine q_un (yn (t := 19) rfl rfl) ?_
   try simp only [opv, n1, n2, n3, n4, Value.cells]
   refine q_un (yn (t := 19) rfl rfl) ?_
   try simp only [opv, n1, n2, n3, n4, Value.cells]
   refine q_off (yi (t := 16) rfl rfl) ?_
   try simp only [opv, n1, n2, n3, n4, Value.cells]
   first | refine q_go (fun w hS => s_pick_t) ?_ | refine q_go (fun w hS => s_pick_f) ?_
   try simp only [opv, n1, n2, n3, n4, Value.cells]
   clear hS
   refine q_nil fun w1 hS => ?_
   refine hK7 _ _ ?_
   refine x_cond_t (h := ?_)
   try have hR : rightL l = false := rgt_false (k := k) (by rw [rgtAt, hx, hy, decide_eq_false (show ¬ k = 0 by omega), show keyLt (akey y) (akey x) = false by simpa using @c, Bool.or_false, Bool.and_false]) (by omega)
   refine x_seq fun K8 hK8 => ?_
   refine x_region ?_
   refine s_go (s_assign) ?_
   try simp only [opv, n1, n2, n3, n4, Value.cells]
   refine x_nil ?_
   refine hK8 _ _ ?_
   refine x_ret ?_
   refine r_tmp rfl ?_
   exact ⟨by rw [hR]; rfl, hS.ext_of⟩
  ·
   try simp only [n3, n4]
   try simp only [decide_eq_true_eq, decide_eq_false_iff_not, Bool.not_eq_true', Bool.not_eq_false', Int.not_lt, Int.not_le, ne_eq, Decidable.not_not] at hp1
   have hax : atomR x = true := by simpa using hp1
   refine q_on (yi (t := 16) rfl rfl) ?_
   refine q_go (fun w hS => s_move) ?_
   try simp only [opv, n1, n2, n3, n4, Value.cells]
   refine q_on (yi (t := 16) rfl rfl) ?_
   refine q_go (fun w hS => s_gtr) ?_
   try simp only [opv, n1, n2, n3, n4, Value.cells]
   refine q_on (yi (t := 16) rfl rfl) ?_
   refine q_go (fun w hS => s_move) ?_
   try simp only [opv, n1, n2, n3, n4, Value.cells]
   refine q_part 19 rfl (fun hp2 => ?_) (fun hp2 => ?_)
   ·
    try simp only [n3, n4]
    try simp only [decide_eq_true_eq, decide_eq_false_iff_not, Bool.not_eq_true', Bool.not_eq_false', Int.not_lt, Int.not_le, ne_eq, Decidable.not_not] at hp2
    obtain ⟨y, hy⟩ : ∃ y, l.getD (k - 1) [] = y := ⟨_, rfl⟩
    have hb : AtomOk y := by rw [← hy]; exact hv.get (by omega)
    have hkb := hb.key
    refine q_on (yi (t := 19) rfl rfl) ?_
    refine q_go (fun w hS => s_move) ?_
    try simp only [opv, n1, n2, n3, n4, Value.cells]
    refine q_on (yi (t := 19) rfl rfl) ?_
    refine q_go (fun w hS => s_move) ?_
    try simp only [opv, n1, n2, n3, n4, Value.cells]
    refine q_on (yi (t := 19) rfl rfl) ?_
    refine q_go (fun w hS => s_sub (hc := by first | exact wr_i64 (by omega) (by omega) | rfl)) ?_
    try simp only [opv, n1, n2, n3, n4, Value.cells]
    rw [show ((k : Int) - 1) = ((k - 1 : Nat) : Int) by omega]
    refine q_on (yi (t := 19) rfl rfl) ?_
    first | refine q_go (fun w hS => m_indexAddr_rd Tryz.underlying22 ti88 (hS := hS)) ?_ | refine q_go (fun w hS => m_indexAddr_vec Tryz.underlying22 ti88 (hS := hS)) ?_
    try simp only [opv, n1, n2, n3, n4, Value.cells, Nat.mul_one, Nat.zero_add, Int.toNat_natCast, Int.reduceToNat]
    refine q_on (yi (t := 19) rfl rfl) ?_
    first | refine q_go (fun w hS => m_fieldAddr Tryz.underlying88 (hi := ti83)) ?_ | refine q_go (fun w hS => m_fieldAddr_rd Tryz.underlying88 (hi := ti83) (hS := hS)) ?_ | refine q_go (fun w hS => m_fieldAddr_vec Tryz.underlying88 (hi := ti83) (hS := hS)) ?_
    try simp only [opv, n1, n2, n3, n4, Value.cells, Nat.zero_add, Nat.add_zero, List.getElem_toArray, List.getElem_cons_zero, List.getElem_cons_succ]
    refine q_on (yi (t := 19) rfl rfl) ?_
    first | refine q_go (fun w hS => m_load_row Tryz.underlying83 (hi := ti83) (hS := hS) (hfit := by rw [arows_len]; omega)) ?_ | refine q_go (fun w hS => m_loada_obj Tryz.underlying83 (hi := ti83) (hS := hS) (hfit := by rw [arows_len]; omega)) ?_ | refine q_go (fun w hS => m_loada_bx Tryz.underlying83 (hi := ti83) (hS := hS) (hfit := by rw [arows_len]; omega)) ?_ | refine q_go (fun w hS => m_loada_rd Tryz.underlying83 (hi := ti83) (hS := hS) (hfit := by rw [arows_len]; omega)) ?_ | refine q_go (fun w hS => m_loada_vec Tryz.underlying83 (hi := ti83) (hS := hS) (hfit := by rw [arows_len]; omega)) ?_
    try simp only [opv, n1, n2, n3, n4, Value.cells, List.getElem_toArray, List.getElem_cons_zero, List.getElem_cons_succ]
    rw [arow_key (by omega) hv, hy]
    refine q_on (yi (t := 19) rfl rfl) ?_
    refine q_go (fun w hS => s_move) ?_
    try simp only [opv, n1, n2, n3, n4, Value.cells]
    refine q_on (yi (t := 19) rfl rfl) ?_
    refine q_go (fun w hS => s_move) ?_
    try simp only [opv, n1, n2, n3, n4, Value.cells]
    refine q_on (yi (t := 19) rfl rfl) ?_
    first | refine q_go (fun w hS => m_indexAddr_rd Tryz.underlying22 ti88 (hS := hS)) ?_ | refine q_go (fun w hS => m_indexAddr_vec Tryz.underlying22 ti88 (hS := hS)) ?_
    try simp only [opv, n1, n2, n3, n4, Value.cells, Nat.mul_one, Nat.zero_add, Int.toNat_natCast, Int.reduceToNat]
    refine q_on (yi (t := 19) rfl rfl) ?_
    first | refine q_go (fun w hS => m_fieldAddr Tryz.underlying88 (hi := ti83)) ?_ | refine q_go (fun w hS => m_fieldAddr_rd Tryz.underlying88 (hi := ti83) (hS := hS)) ?_ | refine q_go (fun w hS => m_fieldAddr_vec Tryz.underlying88 (hi := ti83) (hS := hS)) ?_
    try simp only [opv, n1, n2, n3, n4, Value.cells, Nat.zero_add, Nat.add_zero, List.getElem_toArray, List.getElem_cons_zero, List.getElem_cons_succ]
    refine q_on (yi (t := 19) rfl rfl) ?_
    first | refine q_go (fun w hS => m_load_row Tryz.underlying83 (hi := ti83) (hS := hS) (hfit := by rw [arows_len]; omega)) ?_ | refine q_go (fun w hS => m_loada_obj Tryz.underlying83 (hi := ti83) (hS := hS) (hfit := by rw [arows_len]; omega)) ?_ | refine q_go (fun w hS => m_loada_bx Tryz.underlying83 (hi := ti83) (hS := hS) (hfit := by rw [arows_len]; omega)) ?_ | refine q_go (fun w hS => m_loada_rd Tryz.underlying83 (hi := ti83) (hS := hS) (hfit := by rw [arows_len]; omega)) ?_ | refine q_go (fun w hS => m_loada_vec Tryz.underlying83 (hi := ti83) (hS := hS) (hfit := by rw [arows_len]; omega)) ?_
    try simp only [opv, n1, n2, n3, n4, Value.cells, List.getElem_toArray, List.getElem_cons_zero, List.getElem_cons_succ]
    rw [arow_key (by omega) hv, hx]
    refine q_on (yi (t := 19) rfl rfl) ?_
    apply q_call en69
    case H =>
      intro w hS
      try simp only [opv, n1, n2, n3, n4, List.map_toArray, List.map_cons, List.map_nil, List.append_toArray, List.cons_append, List.nil_append, Array.append_empty]
      refine CallR.mono (c_ref08Less (akey y) (akey x) hkb hk _) ?_
      rintro _ w1 ⟨rfl, hE⟩; exact ⟨rfl, hS.ext hE⟩
    try simp only [opv, n1, n2, n3, n4, Value.cells]
    refine q_on (yi (t := 19) rfl rfl) ?_
    refine q_go (fun w hS => s_not) ?_
    try simp only [opv, n1, n2, n3, n4, Value.cells]
    refine q_on (yi (t := 16) rfl rfl) ?_
    first | refine q_go (fun w hS => s_pick_t) ?_ | refine q_go (fun w hS => s_pick_f) ?_
    try simp only [opv, n1, n2, n3, n4, Value.cells]
    first | refine q_go (fun w hS => s_pick_t) ?_ | refine q_go (fun w hS => s_pick_f) ?_
    try simp only [opv, n1, n2, n3, n4, Value.cells]
    clear hS
    refine q_nil fun w2 hS => ?_
    refine hK7 _ _ ?_
    refine x_cond (ht := fun hc3 => ?_) (hf := fun hc3 => ?_)
    ·
     try simp only [decide_eq_true_eq, decide_eq_false_iff_not, Bool.not_eq_true', Bool.not_eq_false', Int.not_lt, Int.not_le, ne_eq, Decidable.not_not, bne_iff_ne, beq_iff_eq, not_true_eq_false, not_false_eq_true] at hc3
     try have hR : rightL l = false := rgt_false (k := k) (by rw [rgtAt, hx, hy, decide_eq_false (show ¬ k = 0 by omega), show keyLt (akey y) (akey x) = false by simpa using hc3, Bool.or_false, Bool.and_false]) (by omega)
     refine x_seq fun K9 hK9 => ?_
     refine x_region ?_
     refine s_go (s_assign) ?_
     try simp only [opv, n1, n2, n3, n4, Value.cells]
     refine x_nil ?_
     refine hK9 _ _ ?_
     refine x_ret ?_
     refine r_tmp rfl ?_
     exact ⟨by rw [hR]; rfl, hS.ext_of⟩
    ·
     try simp only [decide_eq_true_eq, decide_eq_false_iff_not, Bool.not_eq_true', Bool.not_eq_false', Int.not_lt, Int.not_le, ne_eq, Decidable.not_not, bne_iff_ne, beq_iff_eq, not_true_eq_false, not_false_eq_true] at hc3
     try have hat : rgtAt l k = true := by rw [rgtAt, hx, hy, hax, show keyLt (akey y) (akey x) = true by simpa using hc3, Bool.or_true]; rfl
     refine x_skip ?_
     refine hK6 _ _ ?_
     refine x_region ?_
     refine s_go (s_move) ?_
     try simp only [opv, n1, n2, n3, n4, Value.cells]
     refine s_go (s_add (hc := by first | exact wr_i64 (by omega) (by omega) | rfl)) ?_
     try simp only [opv, n1, n2, n3, n4, Value.cells]
     refine s_go (s_assign) ?_
     try simp only [opv, n1, n2, n3, n4, Value.cells]
     refine x_nil ?_
     refine loop_back (m' := l.length - (k + 1)) (by simp only [clob, List.foldl, n1, n2, n3, n4]) ?_ ?_
     · try simp only [opv, n1, n2, n3, n4, Value.cells]
       exact ⟨k + 1, by omega, by omega, by rfl, by rw [rgt, hrg, hat]; rfl, hS.sel (by repeat (first | exact Sel.nil | (refine Sel.cons (by repeat (first | exact Del.head | apply Del.tail)) ?_)))⟩
     · omega
   ·
    try simp only [n3, n4]
    try simp only [decide_eq_true_eq, decide_eq_false_iff_not, Bool.not_eq_true', Bool.not_eq_false', Int.not_lt, Int.not_le, ne_eq, Decidable.not_not] at hp2
    have hat : rgtAt l k = true := by rw [rgtAt, hx, hax, decide_eq_true (show k = 0 by omega)]; rfl
    refine q_off (yi (t := 19) rfl rfl) ?_
    try simp only [opv, n1, n2, n3, n4, Value.cells]
    refine q_off (yi (t := 19) rfl rfl) ?_
    try simp only [opv, n1, n2, n3, n4, Value.cells]
    refine q_off (yi (t := 19) rfl rfl) ?_
    try simp only [opv, n1, n2, n3, n4, Value.cells]
    refine q_off (yi (t := 19) rfl rfl) ?_
    try simp only [opv, n1, n2, n3, n4, Value.cells]
    refine q_off (yi (t := 19) rfl rfl) ?_
    try simp only [opv, n1, n2, n3, n4, Value.cells]
    refine q_off (yi (t := 19) rfl rfl) ?_
    try simp only [opv, n1, n2, n3, n4, Value.cells]
    refine q_off (yi (t := 19) rfl rfl) ?_
    try simp only [opv, n1, n2, n3, n4, Value.cells]
    refine q_off (yi (t := 19) rfl rfl) ?_
    try simp only [opv, n1, n2, n3, n4, Value.cells]
    refine q_off (yi (t := 19) rfl rfl) ?_
    try simp only [opv, n1, n2, n3, n4, Value.cells]
    refine q_off (yi (t := 19) rfl rfl) ?_
    try simp only [opv, n1, n2, n3, n4, Value.cells]
    refine q_off (yi (t := 19) rfl rfl) ?_
    try simp only [opv, n1, n2, n3, n4, Value.cells]
    refine q_off (yi (t := 19) rfl rfl) ?_
    try simp only [opv, n1, n2, n3, n4, Value.cells]
    refine q_off (yi (t := 19) rfl rfl) ?_
    try simp only [opv, n1, n2, n3, n4, Value.cells]
    refine q_on (yi (t := 16) rfl rfl) ?_
    first | refine q_go (fun w hS => s_pick_t) ?_ | refine q_go (fun w hS => s_pick_f) ?_
    try simp only [opv, n1, n2, n3, n4, Value.cells]
    first | refine q_go (fun w hS => s_pick_t) ?_ | refine q_go (fun w hS => s_pick_f) ?_
    try simp only [opv, n1, n2, n3, n4, Value.cells]
    clear hS
    refine q_nil fun w3 hS => ?_
    refine hK7 _ _ ?_
    refine x_cond_f (h := ?_)
    try have hat : rgtAt l k = true := by rw [rgtAt, hx, hy, hax, show keyLt (akey y) (akey x) = true by simpa using @c, Bool.or_true]; rfl
    refine x_skip ?_
    refine hK6 _ _ ?_
    refine x_region ?_
    refine s_go (s_move) ?_
    try simp only [opv, n1, n2, n3, n4, Value.cells]
    refine s_go (s_add (hc := by first | exact wr_i64 (by omega) (by omega) | rfl)) ?_
    try simp only [opv, n1, n2, n3, n4, Value.cells]
    refine s_go (s_assign) ?_
    try simp only [opv, n1, n2, n3, n4, Value.cells]
    refine x_nil ?_
    refine loop_back (m' := l.length - (k + 1)) (by simp only [clob, List.foldl, n1, n2, n3, n4]) ?_ ?_
    · try simp only [opv, n1, n2, n3, n4, Value.cells]
      exact ⟨k + 1, by omega, by omega, by rfl, by rw [rgt, hrg, hat]; rfl, hS.sel (by repeat (first | exact Sel.nil | (refine Sel.cons (by repeat (first | exact Del.head | apply Del.tail)) ?_)))⟩
    · omega
 ·
  try simp only [decide_eq_true_eq, decide_eq_false_iff_not, Bool.not_eq_true', Bool.not_eq_false', Int.not_lt, Int.not_le, ne_eq, Decidable.not_not, bne_iff_ne, beq_iff_eq, not_true_eq_false, not_false_eq_true] at hc1
  obtain rfl : k = l.length := by omega
  have hR : rightL l = true := hrg
  refine x_exit (look_here ?_)
  refine hK2 _ _ ?_
  refine x_seq fun K10 hK10 => ?_
  refine x_region ?_
  refine s_go (s_assign) ?_
  try simp only [opv, n1, n2, n3, n4, Value.cells]
  refine x_nil ?_
  refine hK10 _ _ ?_
  refine x_ret ?_
  refine r_tmp rfl ?_
  exact ⟨by rw [hR]; rfl, hS.ext_of⟩
theorem c_ref10put (w0 : World) (A : Option Addr) (c : Nat) (l : List (List Int)) (hr : Rd w0 A 21 l.length (arows l)) (hv : AOks l) (hn : l.length ≤ 1000000000) (a : List Int) (ha : AtomOk a)  :
    CallR Tryz.prog 64 #[.slice A l.length c, .agg (AA a)] w0 fun v w' => ∃ B d, v = .slice B (putS a l).length d ∧ St NoB w0 w' [.vec B d 88 21 (putS a l).length (arows (putS a l))] := by
 have hS := St.rd1 (S := NoB) hr
 have hvl := arows_len l
 have hal := ha.len
 have hka := ha.key
 have hka12 := hka.len
 have hva := ha.val
 refine c_enter (l := [.slice A l.length c, .agg (AA a), undef, undef, undef, undef, undef, undef, undef, undef, undef, undef, undef, undef, undef, undef, undef, undef, undef, undef, undef, undef, undef, undef, undef, undef, undef, undef, undef, undef, undef, undef, undef, undef, undef, undef, undef, undef, undef, undef, undef, undef, undef, undef, undef, undef, undef, undef, undef, undef, undef, undef, undef, undef, undef, undef, undef, undef, undef, undef, undef, undef, undef, undef, undef, undef]) Tryz.func64 rfl (by simp only [Tryz.ntmps64, List.size_toArray, List.length_cons, List.length_nil, Nat.reduceAdd, Nat.reduceSub, Array.replicate_succ, Array.replicate_zero, List.push_toArray, List.append_toArray, List.nil_append, List.cons_append]) ?_
 refine x_seq fun K1 hK1 => ?_
 refine x_region ?_
 refine m_box hS (fun w1 g1 hS => ?_)
 try simp only [opv, n1, n2, n3, n4, Value.cells, Array.toArray_toList] at hS ⊢
 refine s_go (s_assign) ?_
 try simp only [opv, n1, n2, n3, n4, Value.cells]
 refine x_nil ?_
 refine hK1 _ _ ?_
 refine x_seq fun K2 hK2 => ?_
 refine x_region ?_
 refine s_go (s_assign) ?_
 try simp only [opv, n1, n2, n3, n4, Value.cells]
 refine x_nil ?_
 refine hK2 _ _ ?_
 refine x_seq fun K3 hK3 => ?_
 refine x_region ?_
 refine s_go (s_assign) ?_
 try simp only [opv, n1, n2, n3, n4, Value.cells]
 refine x_nil ?_
 refine hK3 _ _ ?_
 refine x_seq fun K4 hK4 => ?_
 refine x_seq fun K5 hK5 => ?_
 refine x_region ?_
 replace hS := hS.nil_vec 88 21
 refine s_go (s_assign) ?_
 try simp only [opv, n1, n2, n3, n4, Value.cells]
 refine x_nil ?_
 refine hK5 _ _ ?_
 refine x_block ?_
 refine x_loop [5, 6, 7, 8, 9, 10, 11, 12, 13, 14, 15, 16, 17, 18, 19, 20, 21, 22, 23, 24, 25, 26, 27, 28, 29, 30, 31, 32, 33, 34, 35, 36, 37, 38, 39, 40, 41, 42, 43, 44, 45, 46, 47, 48, 49, 50, 51, 52, 53, 54, 55, 56, 57, 58] (fun m f w => ∃ (k : Nat) (B : Option Addr) (d : Nat) (o : List (List Int)) (dn : Bool), k ≤ l.length ∧ m = l.length - k ∧ f 7 = .int .i64 (k : Int) ∧ f 6 = .bool dn ∧ f 5 = .slice B o.length d ∧ (l.take k).foldl (putF a) ([], false) = (o, dn) ∧ o.length ≤ 2 * k ∧ St NoB w0 w [.vec B d 88 21 (o).length (arows (o)), .obj g1 (.cells (AA a) 88 (0, 0)), .rd A 21 (l).length (arows (l))]) (l.length) ?init1 (fun m1 f1 wl1 hI => ?_)
 case init1 =>
  try simp only [opv, n1, n2, n3, n4, Value.cells]
  exact ⟨0, none, 0, [], false, by omega, rfl, rfl, rfl, rfl, rfl, by simp, hS⟩
 obtain ⟨k, B, d, o, dn, hk0, hm, h7, h6, h5, hst, hol, hS⟩ := hI
 simp only [clob, List.foldl, n3, n4, h7, h6, h5]
 obtain ⟨x, hx⟩ : ∃ x, l.getD k [] = x := ⟨_, rfl⟩
 refine x_seq fun K6 hK6 => ?_
 refine x_seq fun K7 hK7 => ?_
 refine x_region ?_
 refine s_go (s_move) ?_
 try simp only [opv, n1, n2, n3, n4, Value.cells]
 refine s_go (s_move) ?_
 try simp only [opv, n1, n2, n3, n4, Value.cells]
 refine s_go (s_len_sl Tryz.underlying22) ?_
 try simp only [opv, n1, n2, n3, n4, Value.cells]
 refine s_go (s_lss) ?_
 try simp only [opv, n1, n2, n3, n4, Value.cells]
 refine x_nil ?_
 refine hK7 _ _ ?_
 refine x_cond (ht := fun hc1 => ?_) (hf := fun hc1 => ?_)
 ·
  try simp only [decide_eq_true_eq, decide_eq_false_iff_not, Bool.not_eq_true', Bool.not_eq_false', Int.not_lt, Int.not_le, ne_eq, Decidable.not_not, bne_iff_ne, beq_iff_eq, not_true_eq_false, not_false_eq_true] at hc1
  have hax : AtomOk x := by rw [← hx]; exact hv.get (by omega)
  have hxl := hax.len
  have hkx := hax.key
  have hkx12 := hkx.len
  have hvx := hax.val
  have hps := put_step (by omega) hx hst
  refine x_skip ?_
  refine hK6 _ _ ?_
  refine x_seq fun K8 hK8 => ?_
  refine x_block ?_
  refine x_seq fun K9 hK9 => ?_
  refine x_seq fun K10 hK10 => ?_
  refine x_quiet (by kernel_rfl) (by kernel_rfl) hS ?_
  refine q_go (fun w hS => s_move) ?_
  try simp only [opv, n1, n2, n3, n4, Value.cells]
  refine q_go (fun w hS => s_move) ?_
  try simp only [opv, n1, n2, n3, n4, Value.cells]
  first | refine q_go (fun w hS => m_indexAddr_rd Tryz.underlying22 ti88 (hS := hS)) ?_ | refine q_go (fun w hS => m_indexAddr_vec Tryz.underlying22 ti88 (hS := hS)) ?_
  try simp only [opv, n1, n2, n3, n4, Value.cells, Nat.mul_one, Nat.zero_add, Int.toNat_natCast, Int.reduceToNat]
  first | refine q_go (fun w hS => m_fieldAddr Tryz.underlying88 (hi := ti83)) ?_ | refine q_go (fun w hS => m_fieldAddr_rd Tryz.underlying88 (hi := ti83) (hS := hS)) ?_ | refine q_go (fun w hS => m_fieldAddr_vec Tryz.underlying88 (hi := ti83) (hS := hS)) ?_
  try simp only [opv, n1, n2, n3, n4, Value.cells, Nat.zero_add, Nat.add_zero, List.getElem_toArray, List.getElem_cons_zero, List.getElem_cons_succ]
  first | refine q_go (fun w hS => m_load_row Tryz.underlying83 (hi := ti83) (hS := hS) (hfit := by rw [arows_len]; omega)) ?_ | refine q_go (fun w hS => m_loada_obj Tryz.underlying83 (hi := ti83) (hS := hS) (hfit := by rw [arows_len]; omega)) ?_ | refine q_go (fun w hS => m_loada_bx Tryz.underlying83 (hi := ti83) (hS := hS) (hfit := by rw [arows_len]; omega)) ?_ | refine q_go (fun w hS => m_loada_rd Tryz.underlying83 (hi := ti83) (hS := hS) (hfit := by rw [arows_len]; omega)) ?_ | refine q_go (fun w hS => m_loada_vec Tryz.underlying83 (hi := ti83) (hS := hS) (hfit := by rw [arows_len]; omega)) ?_
  try simp only [opv, n1, n2, n3, n4, Value.cells, List.getElem_toArray, List.getElem_cons_zero, List.getElem_cons_succ]
  rw [arow_key (by omega) hv, hx]
  first | refine q_go (fun w hS => m_fieldAddr Tryz.underlying88 (hi := ti83)) ?_ | refine q_go (fun w hS => m_fieldAddr_rd Tryz.underlying88 (hi := ti83) (hS := hS)) ?_ | refine q_go (fun w hS => m_fieldAddr_vec Tryz.underlying88 (hi := ti83) (hS := hS)) ?_
  try simp only [opv, n1, n2, n3, n4, Value.cells, Nat.zero_add, Nat.add_zero, List.getElem_toArray, List.getElem_cons_zero, List.getElem_cons_succ]
  first | refine q_go (fun w hS => m_load_row Tryz.underlying83 (hi := ti83) (hS := hS) (hfit := by first | omega | (rw [zi_size (by omega)]; first | rfl | decide) | (simp only [ic_size, List.length_map, List.size_toArray]; first | omega | decide) | rfl | (simp [*]; done) | (simp [*]; omega))) ?_ | refine q_go (fun w hS => m_loada_obj Tryz.underlying83 (hi := ti83) (hS := hS) (hfit := by first | omega | (rw [zi_size (by omega)]; first | rfl | decide) | (simp only [ic_size, List.length_map, List.size_toArray]; first | omega | decide) | rfl | (simp [*]; done) | (simp [*]; omega))) ?_ | refine q_go (fun w hS => m_loada_bx Tryz.underlying83 (hi := ti83) (hS := hS) (hfit := by first | omega | (rw [zi_size (by omega)]; first | rfl | decide) | (simp only [ic_size, List.length_map, List.size_toArray]; first | omega | decide) | rfl | (simp [*]; done) | (simp [*]; omega))) ?_ | refine q_go (fun w hS => m_loada_rd Tryz.underlying83 (hi := ti83) (hS := hS) (hfit := by first | omega | (rw [zi_size (by omega)]; first | rfl | decide) | (simp only [ic_size, List.length_map, List.size_toArray]; first | omega | decide) | rfl | (simp [*]; done) | (simp [*]; omega))) ?_ | refine q_go (fun w hS => m_loada_vec Tryz.underlying83 (hi := ti83) (hS := hS) (hfit := by first | omega | (rw [zi_size (by omega)]; first | rfl | decide) | (simp only [ic_size, List.length_map, List.size_toArray]; first | omega | decide) | rfl | (simp [*]; done) | (simp [*]; omega))) ?_
  try simp only [opv, n1, n2, n3, n4, Value.cells, List.getElem_toArray, List.getElem_cons_zero, List.getElem_cons_succ]
  rw [atom_key hal]
  refine q_go (fun w hS => s_eql_agg eqv83 (hg := eg83) (hX := rfl) (hY := rfl) (h1 := by assumption) (h2 := by assumption)) ?_
  try simp only [opv, n1, n2, n3, n4, Value.cells]
  clear hS
  refine q_nil fun w2 hS => ?_
  refine hK10 _ _ ?_
  refine x_cond (ht := fun hc2 => ?_) (hf := fun hc2 => ?_)
  ·
   try simp only [decide_eq_true_eq, decide_eq_false_iff_not, Bool.not_eq_true', Bool.not_eq_false', Int.not_lt, Int.not_le, ne_eq, Decidable.not_not, bne_iff_ne, beq_iff_eq, not_true_eq_false, not_false_eq_true] at hc2
   have hst2 := hps.trans (put_eqk hc2)
   have hmo := more_ok hvx hva
   have hml := hmo.len
   have hyl : (akey a ++ moreV (aval x) (aval a)).length = 21 := (kv_ok hka hmo).len
   refine x_seq fun K11 hK11 => ?_
   refine x_mixed_c (Lc := [.obj g1 (.cells (AA a) 88 (0, 0)), .rd A 21 (l).length (arows (l))]) [] 0 [5, 22, 23, 24, 25, 26, 27, 28, 29, 30, 31, 32, 33, 34, 35] (fun f w => ∃ (B2 : Option Addr) (d2 : Nat), f 5 = .slice B2 (o.length + 1) d2 ∧ St NoB w0 w [.vec B2 d2 88 21 (o.length + 1) (arows (o ++ [(akey a ++ moreV (aval x) (aval a))])), .obj g1 (.cells (AA a) 88 (0, 0)), .rd A 21 (l).length (arows (l))]) (by kernel_rfl) (by kernel_rfl) (by kernel_rfl) (by decide) hS (fun w3 hS => ?mixpre701) ?mixrest701
   case mixpre701 =>
    refine p_nil ?_
    simp only [List.length_cons, List.length_nil, Nat.reduceAdd, Nat.reduceSub]
    refine any_go (i := 0) (by rfl) (by decide +kernel) (by decide +kernel) noLate_nil (go_yields w_none (fun w hS => s_move)) ?_
    try simp only [opv, n1, n2, n3, n4, Value.cells]
    first | refine any_go (i := 1) (by rfl) (by decide +kernel) (by decide +kernel) noLate_nil (go_yields w_none (fun w hS => m_fieldAddr Tryz.underlying88 (hi := ti83))) ?_ | refine any_go (i := 1) (by rfl) (by decide +kernel) (by decide +kernel) noLate_nil (go_yields w_none (fun w hS => m_fieldAddr_rd Tryz.underlying88 (hi := ti83) (hS := hS))) ?_ | refine any_go (i := 1) (by rfl) (by decide +kernel) (by decide +kernel) noLate_nil (go_yields w_none (fun w hS => m_fieldAddr_vec Tryz.underlying88 (hi := ti83) (hS := hS))) ?_
    try simp only [opv, n1, n2, n3, n4, Value.cells, Nat.zero_add, Nat.add_zero, List.getElem_toArray, List.getElem_cons_zero, List.getElem_cons_succ]
    first | refine any_go (i := 2) (by rfl) (by decide +kernel) (by decide +kernel) noLate_nil (go_yields w_none (fun w hS => m_load_row Tryz.underlying83 (hi := ti83) (hS := hS) (hfit := by first | omega | (rw [zi_size (by omega)]; first | rfl | decide) | (simp only [ic_size, List.length_map, List.size_toArray]; first | omega | decide) | rfl | (simp [*]; done) | (simp [*]; omega)))) ?_ | refine any_go (i := 2) (by rfl) (by decide +kernel) (by decide +kernel) noLate_nil (go_yields w_none (fun w hS => m_loada_obj Tryz.underlying83 (hi := ti83) (hS := hS) (hfit := by first | omega | (rw [zi_size (by omega)]; first | rfl | decide) | (simp only [ic_size, List.length_map, List.size_toArray]; first | omega | decide) | rfl | (simp [*]; done) | (simp [*]; omega)))) ?_ | refine any_go (i := 2) (by rfl) (by decide +kernel) (by decide +kernel) noLate_nil (go_yields w_none (fun w hS => m_loada_bx Tryz.underlying83 (hi := ti83) (hS := hS) (hfit := by first | omega | (rw [zi_size (by omega)]; first | rfl | decide) | (simp only [ic_size, List.length_map, List.size_toArray]; first | omega | decide) | rfl | (simp [*]; done) | (simp [*]; omega)))) ?_ | refine any_go (i := 2) (by rfl) (by decide +kernel) (by decide +kernel) noLate_nil (go_yields w_none (fun w hS => m_loada_rd Tryz.underlying83 (hi := ti83) (hS := hS) (hfit := by first | omega | (rw [zi_size (by omega)]; first | rfl | decide) | (simp only [ic_size, List.length_map, List.size_toArray]; first | omega | decide) | rfl | (simp [*]; done) | (simp [*]; omega)))) ?_ | refine any_go (i := 2) (by rfl) (by decide +kernel) (by decide +kernel) noLate_nil (go_yields w_none (fun w hS => m_loada_vec Tryz.underlying83 (hi := ti83) (hS := hS) (hfit := by first | omega | (rw [zi_size (by omega)]; first | rfl | decide) | (simp only [ic_size, List.length_map, List.size_toArray]; first | omega | decide) | rfl | (simp [*]; done) | (simp [*]; omega)))) ?_
    try simp only [opv, n1, n2, n3, n4, Value.cells, List.getElem_toArray, List.getElem_cons_zero, List.getElem_cons_succ]
    rw [atom_key hal]
    refine any_go (i := 3) (by rfl) (by decide +kernel) (by decide +kernel) noLate_nil (go_yields w_none (fun w hS => s_move)) ?_
    try simp only [opv, n1, n2, n3, n4, Value.cells]
    refine any_go (i := 4) (by rfl) (by decide +kernel) (by decide +kernel) noLate_nil (go_yields w_none (fun w hS => s_move)) ?_
    try simp only [opv, n1, n2, n3, n4, Value.cells]
    first | refine any_go (i := 5) (by rfl) (by decide +kernel) (by decide +kernel) noLate_nil (go_yields w_none (fun w hS => m_indexAddr_rd Tryz.underlying22 ti88 (hS := hS))) ?_ | refine any_go (i := 5) (by rfl) (by decide +kernel) (by decide +kernel) noLate_nil (go_yields w_none (fun w hS => m_indexAddr_vec Tryz.underlying22 ti88 (hS := hS))) ?_
    try simp only [opv, n1, n2, n3, n4, Value.cells, Nat.mul_one, Nat.zero_add, Int.toNat_natCast, Int.reduceToNat]
    first | refine any_go (i := 6) (by rfl) (by decide +kernel) (by decide +kernel) noLate_nil (go_yields w_none (fun w hS => m_fieldAddr Tryz.underlying88 (hi := ti86))) ?_ | refine any_go (i := 6) (by rfl) (by decide +kernel) (by decide +kernel) noLate_nil (go_yields w_none (fun w hS => m_fieldAddr_rd Tryz.underlying88 (hi := ti86) (hS := hS))) ?_ | refine any_go (i := 6) (by rfl) (by decide +kernel) (by decide +kernel) noLate_nil (go_yields w_none (fun w hS => m_fieldAddr_vec Tryz.underlying88 (hi := ti86) (hS := hS))) ?_
    try simp only [opv, n1, n2, n3, n4, Value.cells, Nat.zero_add, Nat.add_zero, List.getElem_toArray, List.getElem_cons_zero, List.getElem_cons_succ]
    first | refine any_go (i := 7) (by rfl) (by decide +kernel) (by decide +kernel) noLate_nil (go_yields w_none (fun w hS => m_load_row Tryz.underlying86 (hi := ti86) (hS := hS) (hfit := by rw [arows_len]; omega))) ?_ | refine any_go (i := 7) (by rfl) (by decide +kernel) (by decide +kernel) noLate_nil (go_yields w_none (fun w hS => m_loada_obj Tryz.underlying86 (hi := ti86) (hS := hS) (hfit := by rw [arows_len]; omega))) ?_ | refine any_go (i := 7) (by rfl) (by decide +kernel) (by decide +kernel) noLate_nil (go_yields w_none (fun w hS => m_loada_bx Tryz.underlying86 (hi := ti86) (hS := hS) (hfit := by rw [arows_len]; omega))) ?_ | refine any_go (i := 7) (by rfl) (by decide +kernel) (by decide +kernel) noLate_nil (go_yields w_none (fun w hS => m_loada_rd Tryz.underlying86 (hi := ti86) (hS := hS) (hfit := by rw [arows_len]; omega))) ?_ | refine any_go (i := 7) (by rfl) (by decide +kernel) (by decide +kernel) noLate_nil (go_yields w_none (fun w hS => m_loada_vec Tryz.underlying86 (hi := ti86) (hS := hS) (hfit := by rw [arows_len]; omega))) ?_
    try simp only [opv, n1, n2, n3, n4, Value.cells, List.getElem_toArray, List.getElem_cons_zero, List.getElem_cons_succ]
    rw [arow_val (by omega) hv, hx]
    first | refine any_go (i := 8) (by rfl) (by decide +kernel) (by decide +kernel) noLate_nil (go_yields w_none (fun w hS => m_fieldAddr Tryz.underlying88 (hi := ti86))) ?_ | refine any_go (i := 8) (by rfl) (by decide +kernel) (by decide +kernel) noLate_nil (go_yields w_none (fun w hS => m_fieldAddr_rd Tryz.underlying88 (hi := ti86) (hS := hS))) ?_ | refine any_go (i := 8) (by rfl) (by decide +kernel) (by decide +kernel) noLate_nil (go_yields w_none (fun w hS => m_fieldAddr_vec Tryz.underlying88 (hi := ti86) (hS := hS))) ?_
    try simp only [opv, n1, n2, n3, n4, Value.cells, Nat.zero_add, Nat.add_zero, List.getElem_toArray, List.getElem_cons_zero, List.getElem_cons_succ]
    first | refine any_go (i := 9) (by rfl) (by decide +kernel) (by decide +kernel) noLate_nil (go_yields w_none (fun w hS => m_load_row Tryz.underlying86 (hi := ti86) (hS := hS) (hfit := by first | omega | (rw [zi_size (by omega)]; first | rfl | decide) | (simp only [ic_size, List.length_map, List.size_toArray]; first | omega | decide) | rfl | (simp [*]; done) | (simp [*]; omega)))) ?_ | refine any_go (i := 9) (by rfl) (by decide +kernel) (by decide +kernel) noLate_nil (go_yields w_none (fun w hS => m_loada_obj Tryz.underlying86 (hi := ti86) (hS := hS) (hfit := by first | omega | (rw [zi_size (by omega)]; first | rfl | decide) | (simp only [ic_size, List.length_map, List.size_toArray]; first | omega | decide) | rfl | (simp [*]; done) | (simp [*]; omega)))) ?_ | refine any_go (i := 9) (by rfl) (by decide +kernel) (by decide +kernel) noLate_nil (go_yields w_none (fun w hS => m_loada_bx Tryz.underlying86 (hi := ti86) (hS := hS) (hfit := by first | omega | (rw [zi_size (by omega)]; first | rfl | decide) | (simp only [ic_size, List.length_map, List.size_toArray]; first | omega | decide) | rfl | (simp [*]; done) | (simp [*]; omega)))) ?_ | refine any_go (i := 9) (by rfl) (by decide +kernel) (by decide +kernel) noLate_nil (go_yields w_none (fun w hS => m_loada_rd Tryz.underlying86 (hi := ti86) (hS := hS) (hfit := by first | omega | (rw [zi_size (by omega)]; first | rfl | decide) | (simp only [ic_size, List.length_map, List.size_toArray]; first | omega | decide) | rfl | (simp [*]; done) | (simp [*]; omega)))) ?_ | refine any_go (i := 9) (by rfl) (by decide +kernel) (by decide +kernel) noLate_nil (go_yields w_none (fun w hS => m_loada_vec Tryz.underlying86 (hi := ti86) (hS := hS) (hfit := by first | omega | (rw [zi_size (by omega)]; first | rfl | decide) | (simp only [ic_size, List.length_map, List.size_toArray]; first | omega | decide) | rfl | (simp [*]; done) | (simp [*]; omega)))) ?_
    try simp only [opv, n1, n2, n3, n4, Value.cells, List.getElem_toArray, List.getElem_cons_zero, List.getElem_cons_succ]
    rw [atom_val hal]
    apply any_go (i := 10) (by rfl) (by decide +kernel) (by decide +kernel) noLate_nil (call_yields w_none en70 ?H1) ?K1
    case H1 =>
      intro w hS
      try simp only [opv, n1, n2, n3, n4, List.map_toArray, List.map_cons, List.map_nil, List.append_toArray, List.cons_append, List.nil_append, Array.append_empty]
      refine CallR.mono (c_ref09More (aval x) (aval a) hvx hva _) ?_
      rintro _ w1 ⟨rfl, hE⟩; exact ⟨rfl, hE⟩
    try simp only [opv, n1, n2, n3, n4, Value.cells]
    refine any_go (i := 11) (by rfl) (by decide +kernel) (by decide +kernel) noLate_nil (go_yields w_none (fun w hS => s_build_struct (cells := (AA (akey a ++ moreV (aval x) (aval a)))) Tryz.underlying88 ti88 bp88 (hc := by simp only [List.map_toArray, List.map_cons, List.map_nil, opv, n1, n2, n3, n4, Value.cells, List.toList_toArray]; exact fill_atom (by rfl) (by rfl) (by rfl) hka12 hml))) ?_
    try simp only [opv, n1, n2, n3, n4, Value.cells]
    refine any_step [12] (by kernel_rfl) (by decide) (fun w4 hE => ⟨fun _ => (hS.ext hE).sel (by repeat (first | exact Sel.nil | (refine Sel.cons (by repeat (first | exact Del.head | apply Del.tail)) ?_))), ?_⟩)
    replace hS := hS.ext hE
    intro i hi
    simp only [List.mem_cons, List.not_mem_nil, or_false] at hi
    subst hi
    ·
     refine any_op (by rfl) ?_
     refine m_buildRow (cells := (AA (akey a ++ moreV (aval x) (aval a)))) Tryz.underlying22 ti88 (hc := by simp only [List.map_toArray, List.map_cons, List.map_nil, opv, n1, n2, n3, n4, Value.cells, List.toList_toArray]; exact fill_one (by rfl) (zi_size21 hyl) (by rfl)) (hS := hS) (h := fun w5 g5 hS => ?_)
     try simp only [opv, n1, n2, n3, n4, Value.cells, Array.toArray_toList] at hS ⊢
     replace hS := hS.obj_rd (sz := 21) (n := 1) (by exact zi_size21 hyl) .head
     rw [arow_one hyl] at hS
     refine x_nil ?_
     refine any_step [13] (by kernel_rfl) (by decide) (fun w6 hE => ⟨fun _ => (hS.ext hE).sel (by repeat (first | exact Sel.nil | (refine Sel.cons (by repeat (first | exact Del.head | apply Del.tail)) ?_))), ?_⟩)
     replace hS := hS.ext hE
     intro i hi
     simp only [List.mem_cons, List.not_mem_nil, or_false] at hi
     subst hi
     ·
      refine any_op (by rfl) ?_
      refine m_append Tryz.underlying22 ti88 (hS := hS) (h1 := rowsZ_cells _ _) (h := fun w7 A7 C7 hS => ?_)
      try simp only [← List.map_append, ← List.map_drop, ← List.map_take, Nat.mul_one, Nat.zero_mul, Nat.sub_zero, List.drop_zero, List.nil_append, Nat.zero_add] at hS ⊢
      try simp only [opv, n1, n2, n3, n4, Value.cells, Array.toArray_toList] at hS ⊢
      rw [add_one] at hS
      refine x_nil ?_
      refine any_go (i := 14) (by rfl) (by decide +kernel) (by decide +kernel) noLate_nil (go_yields w_none (fun w hS => s_assign)) ?_
      try simp only [opv, n1, n2, n3, n4, Value.cells]
      refine any_nil (by kernel_rfl) (fun w8 hE => ?_)
      replace hS := hS.ext hE
      refine ⟨fun _ => hS.sel (by repeat (first | exact Sel.nil | (refine Sel.cons (by repeat (first | exact Del.head | apply Del.tail)) ?_))), ?_⟩
      refine mix_leaf (by simp only [clob, List.foldl, n1, n2, n3, n4]) ?_
      try simp only [n1, n2]
      exact ⟨_, _, by first | trivial | rfl, hS.sel (by repeat (first | exact Sel.nil | (refine Sel.cons (by repeat (first | exact Del.head | apply Del.tail)) ?_)))⟩
   intro fm1 w9 hM
   obtain ⟨B2, d2, h5, hS⟩ := hM
   simp only [clob, List.foldl, n3, n4, h5]
   refine hK11 _ _ ?_
   refine x_seq fun K12 hK12 => ?_
   refine x_region ?_
   refine s_go (s_assign) ?_
   try simp only [opv, n1, n2, n3, n4, Value.cells]
   refine x_nil ?_
   refine hK12 _ _ ?_
   refine x_exit (look_here ?_)
   refine hK8 _ _ ?_
   refine x_region ?_
   refine s_go (s_move) ?_
   try simp only [opv, n1, n2, n3, n4, Value.cells]
   refine s_go (s_add (hc := by first | exact wr_i64 (by omega) (by omega) | rfl)) ?_
   try simp only [opv, n1, n2, n3, n4, Value.cells]
   refine s_go (s_assign) ?_
   try simp only [opv, n1, n2, n3, n4, Value.cells]
   refine x_nil ?_
   refine loop_back (m' := l.length - (k + 1)) (by simp only [clob, List.foldl, n1, n2, n3, n4]) ?_ ?_
   · try simp only [opv, n1, n2, n3, n4, Value.cells]
     refine ⟨k + 1, _, _, _, _, by omega, by omega, by rfl, by rfl, by simp only [List.length_append, List.length_cons, List.length_nil, Nat.zero_add]; rfl, hst2, by simp; omega, ?_⟩
     simp only [List.length_append, List.length_cons, List.length_nil, Nat.zero_add]; exact hS.sel (by repeat (first | exact Sel.nil | (refine Sel.cons (by repeat (first | exact Del.head | apply Del.tail)) ?_)))
   · omega
  ·
   try simp only [decide_eq_true_eq, decide_eq_false_iff_not, Bool.not_eq_true', Bool.not_eq_false', Int.not_lt, Int.not_le, ne_eq, Decidable.not_not, bne_iff_ne, beq_iff_eq, not_true_eq_false, not_false_eq_true] at hc2
   have hne := hc2
   refine x_skip ?_
   refine hK9 _ _ ?_
   refine x_seq fun K13 hK13 => ?_
   refine x_seq fun K14 hK14 => ?_
   refine x_quiet (by kernel_rfl) (by kernel_rfl) hS ?_
   refine q_go (fun w hS => s_move) ?_
   try simp only [opv, n1, n2, n3, n4, Value.cells]
   refine q_go (fun w hS => s_not) ?_
   try simp only [opv, n1, n2, n3, n4, Value.cells]
   refine q_go (fun w hS => s_move) ?_
   try simp only [opv, n1, n2, n3, n4, Value.cells]
   refine q_part 38 rfl (fun hp1 => ?_) (fun hp1 => ?_)
   ·
    try simp only [n3, n4]
    try simp only [decide_eq_true_eq, decide_eq_false_iff_not, Bool.not_eq_true', Bool.not_eq_false', Int.not_lt, Int.not_le, ne_eq, Decidable.not_not] at hp1
    obtain rfl : dn = false := by simpa using hp1
    refine q_on (yi (t := 38) rfl rfl) ?_
    first | refine q_go (fun w hS => m_fieldAddr Tryz.underlying88 (hi := ti83)) ?_ | refine q_go (fun w hS => m_fieldAddr_rd Tryz.underlying88 (hi := ti83) (hS := hS)) ?_ | refine q_go (fun w hS => m_fieldAddr_vec Tryz.underlying88 (hi := ti83) (hS := hS)) ?_
    try simp only [opv, n1, n2, n3, n4, Value.cells, Nat.zero_add, Nat.add_zero, List.getElem_toArray, List.getElem_cons_zero, List.getElem_cons_succ]
    refine q_on (yi (t := 38) rfl rfl) ?_
    first | refine q_go (fun w hS => m_load_row Tryz.underlying83 (hi := ti83) (hS := hS) (hfit := by first | omega | (rw [zi_size (by omega)]; first | rfl | decide) | (simp only [ic_size, List.length_map, List.size_toArray]; first | omega | decide) | rfl | (simp [*]; done) | (simp [*]; omega))) ?_ | refine q_go (fun w hS => m_loada_obj Tryz.underlying83 (hi := ti83) (hS := hS) (hfit := by first | omega | (rw [zi_size (by omega)]; first | rfl | decide) | (simp only [ic_size, List.length_map, List.size_toArray]; first | omega | decide) | rfl | (simp [*]; done) | (simp [*]; omega))) ?_ | refine q_go (fun w hS => m_loada_bx Tryz.underlying83 (hi := ti83) (hS := hS) (hfit := by first | omega | (rw [zi_size (by omega)]; first | rfl | decide) | (simp only [ic_size, List.length_map, List.size_toArray]; first | omega | decide) | rfl | (simp [*]; done) | (simp [*]; omega))) ?_ | refine q_go (fun w hS => m_loada_rd Tryz.underlying83 (hi := ti83) (hS := hS) (hfit := by first | omega | (rw [zi_size (by omega)]; first | rfl | decide) | (simp only [ic_size, List.length_map, List.size_toArray]; first | omega | decide) | rfl | (simp [*]; done) | (simp [*]; omega))) ?_ | refine q_go (fun w hS => m_loada_vec Tryz.underlying83 (hi := ti83) (hS := hS) (hfit := by first | omega | (rw [zi_size (by omega)]; first | rfl | decide) | (simp only [ic_size, List.length_map, List.size_toArray]; first | omega | decide) | rfl | (simp [*]; done) | (simp [*]; omega))) ?_
    try simp only [opv, n1, n2, n3, n4, Value.cells, List.getElem_toArray, List.getElem_cons_zero, List.getElem_cons_succ]
    rw [atom_key hal]
    refine q_on (yi (t := 38) rfl rfl) ?_
    refine q_go (fun w hS => s_move) ?_
    try simp only [opv, n1, n2, n3, n4, Value.cells]
    refine q_on (yi (t := 38) rfl rfl) ?_
    refine q_go (fun w hS => s_move) ?_
    try simp only [opv, n1, n2, n3, n4, Value.cells]
    refine q_on (yi (t := 38) rfl rfl) ?_
    first | refine q_go (fun w hS => m_indexAddr_rd Tryz.underlying22 ti88 (hS := hS)) ?_ | refine q_go (fun w hS => m_indexAddr_vec Tryz.underlying22 ti88 (hS := hS)) ?_
    try simp only [opv, n1, n2, n3, n4, Value.cells, Nat.mul_one, Nat.zero_add, Int.toNat_natCast, Int.reduceToNat]
    refine q_on (yi (t := 38) rfl rfl) ?_
    first | refine q_go (fun w hS => m_fieldAddr Tryz.underlying88 (hi := ti83)) ?_ | refine q_go (fun w hS => m_fieldAddr_rd Tryz.underlying88 (hi := ti83) (hS := hS)) ?_ | refine q_go (fun w hS => m_fieldAddr_vec Tryz.underlying88 (hi := ti83) (hS := hS)) ?_
    try simp only [opv, n1, n2, n3, n4, Value.cells, Nat.zero_add, Nat.add_zero, List.getElem_toArray, List.getElem_cons_zero, List.getElem_cons_succ]
    refine q_on (yi (t := 38) rfl rfl) ?_
    first | refine q_go (fun w hS => m_load_row Tryz.underlying83 (hi := ti83) (hS := hS) (hfit := by rw [arows_len]; omega)) ?_ | refine q_go (fun w hS => m_loada_obj Tryz.underlying83 (hi := ti83) (hS := hS) (hfit := by rw [arows_len]; omega)) ?_ | refine q_go (fun w hS => m_loada_bx Tryz.underlying83 (hi := ti83) (hS := hS) (hfit := by rw [arows_len]; omega)) ?_ | refine q_go (fun w hS => m_loada_rd Tryz.underlying83 (hi := ti83) (hS := hS) (hfit := by rw [arows_len]; omega)) ?_ | refine q_go (fun w hS => m_loada_vec Tryz.underlying83 (hi := ti83) (hS := hS) (hfit := by rw [arows_len]; omega)) ?_
    try simp only [opv, n1, n2, n3, n4, Value.cells, List.getElem_toArray, List.getElem_cons_zero, List.getElem_cons_succ]
    rw [arow_key (by omega) hv, hx]
    refine q_on (yi (t := 38) rfl rfl) ?_
    apply q_call en69
    case H =>
      intro w hS
      try simp only [opv, n1, n2, n3, n4, List.map_toArray, List.map_cons, List.map_nil, List.append_toArray, List.cons_append, List.nil_append, Array.append_empty]
      refine CallR.mono (c_ref08Less (akey a) (akey x) hka hkx _) ?_
      rintro _ w1 ⟨rfl, hE⟩; exact ⟨rfl, hS.ext hE⟩
    try simp only [opv, n1, n2, n3, n4, Value.cells]
    first | refine q_go (fun w hS => s_pick_t) ?_ | refine q_go (fun w hS => s_pick_f) ?_
    try simp only [opv, n1, n2, n3, n4, Value.cells]
    clear hS
    refine q_nil fun w10 hS => ?_
    refine hK14 _ _ ?_
    refine x_cond (ht := fun hc3 => ?_) (hf := fun hc3 => ?_)
    ·
     try simp only [decide_eq_true_eq, decide_eq_false_iff_not, Bool.not_eq_true', Bool.not_eq_false', Int.not_lt, Int.not_le, ne_eq, Decidable.not_not, bne_iff_ne, beq_iff_eq, not_true_eq_false, not_false_eq_true] at hc3
     have hst2 := hps.trans (put_lt hne hc3)
     refine x_seq fun K15 hK15 => ?_
     refine x_region ?_
     refine s_go (s_move) ?_
     try simp only [opv, n1, n2, n3, n4, Value.cells]
     first | refine s_go (m_load_row Tryz.underlying88 (hi := ti88) (hS := hS) (hfit := by first | omega | (rw [zi_size (by omega)]; first | rfl | decide) | (simp only [ic_size, List.length_map, List.size_toArray]; first | omega | decide) | rfl | (simp [*]; done) | (simp [*]; omega))) ?_ | refine s_go (m_loada_obj Tryz.underlying88 (hi := ti88) (hS := hS) (hfit := by first | omega | (rw [zi_size (by omega)]; first | rfl | decide) | (simp only [ic_size, List.length_map, List.size_toArray]; first | omega | decide) | rfl | (simp [*]; done) | (simp [*]; omega))) ?_ | refine s_go (m_loada_bx Tryz.underlying88 (hi := ti88) (hS := hS) (hfit := by first | omega | (rw [zi_size (by omega)]; first | rfl | decide) | (simp only [ic_size, List.length_map, List.size_toArray]; first | omega | decide) | rfl | (simp [*]; done) | (simp [*]; omega))) ?_ | refine s_go (m_loada_rd Tryz.underlying88 (hi := ti88) (hS := hS) (hfit := by first | omega | (rw [zi_size (by omega)]; first | rfl | decide) | (simp only [ic_size, List.length_map, List.size_toArray]; first | omega | decide) | rfl | (simp [*]; done) | (simp [*]; omega))) ?_ | refine s_go (m_loada_vec Tryz.underlying88 (hi := ti88) (hS := hS) (hfit := by first | omega | (rw [zi_size (by omega)]; first | rfl | decide) | (simp only [ic_size, List.length_map, List.size_toArray]; first | omega | decide) | rfl | (simp [*]; done) | (simp [*]; omega))) ?_
     try simp only [opv, n1, n2, n3, n4, Value.cells, List.getElem_toArray, List.getElem_cons_zero, List.getElem_cons_succ]
     refine m_buildRow (cells := (AA a)) Tryz.underlying22 ti88 (hc := by simp only [List.map_toArray, List.map_cons, List.map_nil, opv, n1, n2, n3, n4, Value.cells, List.toList_toArray]; exact fill_one (by rfl) (zi_size21 hal) (by rfl)) (hS := hS) (h := fun w11 g11 hS => ?_)
     try simp only [opv, n1, n2, n3, n4, Value.cells, Array.toArray_toList] at hS ⊢
     replace hS := hS.obj_rd (sz := 21) (n := 1) (by exact zi_size21 hal) .head
     rw [arow_one hal] at hS
     refine m_append Tryz.underlying22 ti88 (hS := hS) (h1 := rowsZ_cells _ _) (h := fun w12 A12 C12 hS => ?_)
     try simp only [← List.map_append, ← List.map_drop, ← List.map_take, Nat.mul_one, Nat.zero_mul, Nat.sub_zero, List.drop_zero, List.nil_append, Nat.zero_add] at hS ⊢
     try simp only [opv, n1, n2, n3, n4, Value.cells, Array.toArray_toList] at hS ⊢
     rw [add_one] at hS
     refine s_go (s_assign) ?_
     try simp only [opv, n1, n2, n3, n4, Value.cells]
     refine x_nil ?_
     refine hK15 _ _ ?_
     refine x_region ?_
     refine s_go (s_assign) ?_
     try simp only [opv, n1, n2, n3, n4, Value.cells]
     refine x_nil ?_
     refine hK13 _ _ ?_
     refine x_region ?_
     refine s_go (s_move) ?_
     try simp only [opv, n1, n2, n3, n4, Value.cells]
     refine s_go (s_move) ?_
     try simp only [opv, n1, n2, n3, n4, Value.cells]
     refine s_go (s_move) ?_
     try simp only [opv, n1, n2, n3, n4, Value.cells]
     first | refine s_go (m_indexAddr_rd Tryz.underlying22 ti88 (hS := hS)) ?_ | refine s_go (m_indexAddr_vec Tryz.underlying22 ti88 (hS := hS)) ?_
     try simp only [opv, n1, n2, n3, n4, Value.cells, Nat.mul_one, Nat.zero_add, Int.toNat_natCast, Int.reduceToNat]
     first | refine s_go (m_load_row Tryz.underlying88 (hi := ti88) (hS := hS) (hfit := by rw [arows_len]; omega)) ?_ | refine s_go (m_loada_obj Tryz.underlying88 (hi := ti88) (hS := hS) (hfit := by rw [arows_len]; omega)) ?_ | refine s_go (m_loada_bx Tryz.underlying88 (hi := ti88) (hS := hS) (hfit := by rw [arows_len]; omega)) ?_ | refine s_go (m_loada_rd Tryz.underlying88 (hi := ti88) (hS := hS) (hfit := by rw [arows_len]; omega)) ?_ | refine s_go (m_loada_vec Tryz.underlying88 (hi := ti88) (hS := hS) (hfit := by rw [arows_len]; omega)) ?_
     try simp only [opv, n1, n2, n3, n4, Value.cells, List.getElem_toArray, List.getElem_cons_zero, List.getElem_cons_succ]
     rw [arow_get (by omega) hv, hx]
     refine m_buildRow (cells := (AA x)) Tryz.underlying22 ti88 (hc := by simp only [List.map_toArray, List.map_cons, List.map_nil, opv, n1, n2, n3, n4, Value.cells, List.toList_toArray]; exact fill_one (by rfl) (zi_size21 hxl) (by rfl)) (hS := hS) (h := fun w13 g13 hS => ?_)
     try simp only [opv, n1, n2, n3, n4, Value.cells, Array.toArray_toList] at hS ⊢
     replace hS := hS.obj_rd (sz := 21) (n := 1) (by exact zi_size21 hxl) .head
     rw [arow_one hxl] at hS
     refine m_append Tryz.underlying22 ti88 (hS := hS) (h1 := rowsZ_cells _ _) (h := fun w14 A14 C14 hS => ?_)
     try simp only [← List.map_append, ← List.map_drop, ← List.map_take, Nat.mul_one, Nat.zero_mul, Nat.sub_zero, List.drop_zero, List.nil_append, Nat.zero_add] at hS ⊢
     try simp only [opv, n1, n2, n3, n4, Value.cells, Array.toArray_toList] at hS ⊢
     rw [add_one] at hS
     refine s_go (s_assign) ?_
     try simp only [opv, n1, n2, n3, n4, Value.cells]
     refine x_nil ?_
     refine hK8 _ _ ?_
     refine x_region ?_
     refine s_go (s_move) ?_
     try simp only [opv, n1, n2, n3, n4, Value.cells]
     refine s_go (s_add (hc := by first | exact wr_i64 (by omega) (by omega) | rfl)) ?_
     try simp only [opv, n1, n2, n3, n4, Value.cells]
     refine s_go (s_assign) ?_
     try simp only [opv, n1, n2, n3, n4, Value.cells]
     refine x_nil ?_
     refine loop_back (m' := l.length - (k + 1)) (by simp only [clob, List.foldl, n1, n2, n3, n4]) ?_ ?_
     · try simp only [opv, n1, n2, n3, n4, Value.cells]
       refine ⟨k + 1, _, _, _, _, by omega, by omega, by rfl, by rfl, by simp only [List.length_append, List.length_cons, List.length_nil, Nat.zero_add]; rfl, hst2, by simp; omega, ?_⟩
       simp only [List.length_append, List.length_cons, List.length_nil, Nat.zero_add]; exact hS.sel (by repeat (first | exact Sel.nil | (refine Sel.cons (by repeat (first | exact Del.head | apply Del.tail)) ?_)))
     · omega
    ·
     try simp only [decide_eq_true_eq, decide_eq_false_iff_not, Bool.not_eq_true', Bool.not_eq_false', Int.not_lt, Int.not_le, ne_eq, Decidable.not_not, bne_iff_ne, beq_iff_eq, not_true_eq_false, not_false_eq_true] at hc3
     try have hst2 := hps.trans (put_on hne hc3)
     refine x_skip ?_
     refine hK13 _ _ ?_
     refine x_region ?_
     refine s_go (s_move) ?_
     try simp only [opv, n1, n2, n3, n4, Value.cells]
     refine s_go (s_move) ?_
     try simp only [opv, n1, n2, n3, n4, Value.cells]
     refine s_go (s_move) ?_
     try simp only [opv, n1, n2, n3, n4, Value.cells]
     first | refine s_go (m_indexAddr_rd Tryz.underlying22 ti88 (hS := hS)) ?_ | refine s_go (m_indexAddr_vec Tryz.underlying22 ti88 (hS := hS)) ?_
     try simp only [opv, n1, n2, n3, n4, Value.cells, Nat.mul_one, Nat.zero_add, Int.toNat_natCast, Int.reduceToNat]
     first | refine s_go (m_load_row Tryz.underlying88 (hi := ti88) (hS := hS) (hfit := by rw [arows_len]; omega)) ?_ | refine s_go (m_loada_obj Tryz.underlying88 (hi := ti88) (hS := hS) (hfit := by rw [arows_len]; omega)) ?_ | refine s_go (m_loada_bx Tryz.underlying88 (hi := ti88) (hS := hS) (hfit := by rw [arows_len]; omega)) ?_ | refine s_go (m_loada_rd Tryz.underlying88 (hi := ti88) (hS := hS) (hfit := by rw [arows_len]; omega)) ?_ | refine s_go (m_loada_vec Tryz.underlying88 (hi := ti88) (hS := hS) (hfit := by rw [arows_len]; omega)) ?_
     try simp only [opv, n1, n2, n3, n4, Value.cells, List.getElem_toArray, List.getElem_cons_zero, List.getElem_cons_succ]
     rw [arow_get (by omega) hv, hx]
     refine m_buildRow (cells := (AA x)) Tryz.underlying22 ti88 (hc := by simp only [List.map_toArray, List.map_cons, List.map_nil, opv, n1, n2, n3, n4, Value.cells, List.toList_toArray]; exact fill_one (by rfl) (zi_size21 hxl) (by rfl)) (hS := hS) (h := fun w15 g15 hS => ?_)
     try simp only [opv, n1, n2, n3, n4, Value.cells, Array.toArray_toList] at hS ⊢
     replace hS := hS.obj_rd (sz := 21) (n := 1) (by exact zi_size21 hxl) .head
     rw [arow_one hxl] at hS
     refine m_append Tryz.underlying22 ti88 (hS := hS) (h1 := rowsZ_cells _ _) (h := fun w16 A16 C16 hS => ?_)
     try simp only [← List.map_append, ← List.map_drop, ← List.map_take, Nat.mul_one, Nat.zero_mul, Nat.sub_zero, List.drop_zero, List.nil_append, Nat.zero_add] at hS ⊢
     try simp only [opv, n1, n2, n3, n4, Value.cells, Array.toArray_toList] at hS ⊢
     rw [add_one] at hS
     refine s_go (s_assign) ?_
     try simp only [opv, n1, n2, n3, n4, Value.cells]
     refine x_nil ?_
     refine hK8 _ _ ?_
     refine x_region ?_
     refine s_go (s_move) ?_
     try simp only [opv, n1, n2, n3, n4, Value.cells]
     refine s_go (s_add (hc := by first | exact wr_i64 (by omega) (by omega) | rfl)) ?_
     try simp only [opv, n1, n2, n3, n4, Value.cells]
     refine s_go (s_assign) ?_
     try simp only [opv, n1, n2, n3, n4, Value.cells]
     refine x_nil ?_
     refine loop_back (m' := l.length - (k + 1)) (by simp only [clob, List.foldl, n1, n2, n3, n4]) ?_ ?_
     · try simp only [opv, n1, n2, n3, n4, Value.cells]
       refine ⟨k + 1, _, _, _, _, by omega, by omega, by rfl, by rfl, by simp only [List.length_append, List.length_cons, List.length_nil, Nat.zero_add]; rfl, hst2, by simp; omega, ?_⟩
       simp only [List.length_append, List.length_cons, List.length_nil, Nat.zero_add]; exact hS.sel (by repeat (first | exact Sel.nil | (refine Sel.cons (by repeat (first | exact Del.head | apply Del.tail)) ?_)))
     · omega
   ·
    try simp only [n3, n4]
    try simp only [decide_eq_true_eq, decide_eq_false_iff_not, Bool.not_eq_true', Bool.not_eq_false', Int.not_lt, Int.not_le, ne_eq, Decidable.not_not] at hp1
    obtain rfl : dn = true := by simpa using hp1
    have hst2 := hps.trans (put_dn hne)
    refine q_off (yi (t := 38) rfl rfl) ?_
    try simp only [opv, n1, n2, n3, n4, Value.cells]
    refine q_off (yi (t := 38) rfl rfl) ?_
    try simp only [opv, n1, n2, n3, n4, Value.cells]
    refine q_off (yi (t := 38) rfl rfl) ?_
    try simp only [opv, n1, n2, n3, n4, Value.cells]
    refine q_off (yi (t := 38) rfl rfl) ?_
    try simp only [opv, n1, n2, n3, n4, Value.cells]
    refine q_off (yi (t := 38) rfl rfl) ?_
    try simp only [opv, n1, n2, n3, n4, Value.cells]
    refine q_off (yi (t := 38) rfl rfl) ?_
    try simp only [opv, n1, n2, n3, n4, Value.cells]
    refine q_off (yi (t := 38) rfl rfl) ?_
    try simp only [opv, n1, n2, n3, n4, Value.cells]
    refine q_off (yi (t := 38) rfl rfl) ?_
    try simp only [opv, n1, n2, n3, n4, Value.cells]
    first | refine q_go (fun w hS => s_pick_t) ?_ | refine q_go (fun w hS => s_pick_f) ?_
    try simp only [opv, n1, n2, n3, n4, Value.cells]
    clear hS
    refine q_nil fun w17 hS => ?_
    refine hK14 _ _ ?_
    refine x_cond_f (h := ?_)
    try have hst2 := hps.trans (put_on hne @c)
    refine x_skip ?_
    refine hK13 _ _ ?_
    refine x_region ?_
    refine s_go (s_move) ?_
    try simp only [opv, n1, n2, n3, n4, Value.cells]
    refine s_go (s_move) ?_
    try simp only [opv, n1, n2, n3, n4, Value.cells]
    refine s_go (s_move) ?_
    try simp only [opv, n1, n2, n3, n4, Value.cells]
    first | refine s_go (m_indexAddr_rd Tryz.underlying22 ti88 (hS := hS)) ?_ | refine s_go (m_indexAddr_vec Tryz.underlying22 ti88 (hS := hS)) ?_
    try simp only [opv, n1, n2, n3, n4, Value.cells, Nat.mul_one, Nat.zero_add, Int.toNat_natCast, Int.reduceToNat]
    first | refine s_go (m_load_row Tryz.underlying88 (hi := ti88) (hS := hS) (hfit := by rw [arows_len]; omega)) ?_ | refine s_go (m_loada_obj Tryz.underlying88 (hi := ti88) (hS := hS) (hfit := by rw [arows_len]; omega)) ?_ | refine s_go (m_loada_bx Tryz.underlying88 (hi := ti88) (hS := hS) (hfit := by rw [arows_len]; omega)) ?_ | refine s_go (m_loada_rd Tryz.underlying88 (hi := ti88) (hS := hS) (hfit := by rw [arows_len]; omega)) ?_ | refine s_go (m_loada_vec Tryz.underlying88 (hi := ti88) (hS := hS) (hfit := by rw [arows_len]; omega)) ?_
    try simp only [opv, n1, n2, n3, n4, Value.cells, List.getElem_toArray, List.getElem_cons_zero, List.getElem_cons_succ]
    rw [arow_get (by omega) hv, hx]
    refine m_buildRow (cells := (AA x)) Tryz.underlying22 ti88 (hc := by simp only [List.map_toArray, List.map_cons, List.map_nil, opv, n1, n2, n3, n4, Value.cells, List.toList_toArray]; exact fill_one (by rfl) (zi_size21 hxl) (by rfl)) (hS := hS) (h := fun w18 g18 hS => ?_)
    try simp only [opv, n1, n2, n3, n4, Value.cells, Array.toArray_toList] at hS ⊢
    replace hS := hS.obj_rd (sz := 21) (n := 1) (by exact zi_size21 hxl) .head
    rw [arow_one hxl] at hS
    refine m_append Tryz.underlying22 ti88 (hS := hS) (h1 := rowsZ_cells _ _) (h := fun w19 A19 C19 hS => ?_)
    try simp only [← List.map_append, ← List.map_drop, ← List.map_take, Nat.mul_one, Nat.zero_mul, Nat.sub_zero, List.drop_zero, List.nil_append, Nat.zero_add] at hS ⊢
    try simp only [opv, n1, n2, n3, n4, Value.cells, Array.toArray_toList] at hS ⊢
    rw [add_one] at hS
    refine s_go (s_assign) ?_
    try simp only [opv, n1, n2, n3, n4, Value.cells]
    refine x_nil ?_
    refine hK8 _ _ ?_
    refine x_region ?_
    refine s_go (s_move) ?_
    try simp only [opv, n1, n2, n3, n4, Value.cells]
    refine s_go (s_add (hc := by first | exact wr_i64 (by omega) (by omega) | rfl)) ?_
    try simp only [opv, n1, n2, n3, n4, Value.cells]
    refine s_go (s_assign) ?_
    try simp only [opv, n1, n2, n3, n4, Value.cells]
    refine x_nil ?_
    refine loop_back (m' := l.length - (k + 1)) (by simp only [clob, List.foldl, n1, n2, n3, n4]) ?_ ?_
    · try simp only [opv, n1, n2, n3, n4, Value.cells]
      refine ⟨k + 1, _, _, _, _, by omega, by omega, by rfl, by rfl, by simp only [List.length_append, List.length_cons, List.length_nil, Nat.zero_add]; rfl, hst2, by simp; omega, ?_⟩
      simp only [List.length_append, List.length_cons, List.length_nil, Nat.zero_add]; exact hS.sel (by repeat (first | exact Sel.nil | (refine Sel.cons (by repeat (first | exact Del.head | apply Del.tail)) ?_)))
    · omega
 ·
  try simp only [decide_eq_true_eq, decide_eq_false_iff_not, Bool.not_eq_true', Bool.not_eq_false', Int.not_lt, Int.not_le, ne_eq, Decidable.not_not, bne_iff_ne, beq_iff_eq, not_true_eq_false, not_false_eq_true] at hc1
  obtain rfl : k = l.length := by omega
  rw [List.take_of_length_le (Nat.le_refl _)] at hst
  have hpe := put_end hst
  refine x_exit (look_here ?_)
  refine hK4 _ _ ?_
  refine x_seq fun K16 hK16 => ?_
  refine x_seq fun K17 hK17 => ?_
  refine x_region ?_
  refine s_go (s_move) ?_
  try simp only [opv, n1, n2, n3, n4, Value.cells]
  refine s_go (s_not) ?_
  try simp only [opv, n1, n2, n3, n4, Value.cells]
  refine x_nil ?_
  refine hK17 _ _ ?_
  refine x_cond (ht := fun hc5 => ?_) (hf := fun hc5 => ?_)
  ·
   try simp only [decide_eq_true_eq, decide_eq_false_iff_not, Bool.not_eq_true', Bool.not_eq_false', Int.not_lt, Int.not_le, ne_eq, Decidable.not_not, bne_iff_ne, beq_iff_eq, not_true_eq_false, not_false_eq_true] at hc5
   obtain rfl : dn = false := by simpa using hc5
   rw [if_neg (by decide)] at hpe
   refine x_region ?_
   refine s_go (s_move) ?_
   try simp only [opv, n1, n2, n3, n4, Value.cells]
   first | refine s_go (m_load_row Tryz.underlying88 (hi := ti88) (hS := hS) (hfit := by first | omega | (rw [zi_size (by omega)]; first | rfl | decide) | (simp only [ic_size, List.length_map, List.size_toArray]; first | omega | decide) | rfl | (simp [*]; done) | (simp [*]; omega))) ?_ | refine s_go (m_loada_obj Tryz.underlying88 (hi := ti88) (hS := hS) (hfit := by first | omega | (rw [zi_size (by omega)]; first | rfl | decide) | (simp only [ic_size, List.length_map, List.size_toArray]; first | omega | decide) | rfl | (simp [*]; done) | (simp [*]; omega))) ?_ | refine s_go (m_loada_bx Tryz.underlying88 (hi := ti88) (hS := hS) (hfit := by first | omega | (rw [zi_size (by omega)]; first | rfl | decide) | (simp only [ic_size, List.length_map, List.size_toArray]; first | omega | decide) | rfl | (simp [*]; done) | (simp [*]; omega))) ?_ | refine s_go (m_loada_rd Tryz.underlying88 (hi := ti88) (hS := hS) (hfit := by first | omega | (rw [zi_size (by omega)]; first | rfl | decide) | (simp only [ic_size, List.length_map, List.size_toArray]; first | omega | decide) | rfl | (simp [*]; done) | (simp [*]; omega))) ?_ | refine s_go (m_loada_vec Tryz.underlying88 (hi := ti88) (hS := hS) (hfit := by first | omega | (rw [zi_size (by omega)]; first | rfl | decide) | (simp only [ic_size, List.length_map, List.size_toArray]; first | omega | decide) | rfl | (simp [*]; done) | (simp [*]; omega))) ?_
   try simp only [opv, n1, n2, n3, n4, Value.cells, List.getElem_toArray, List.getElem_cons_zero, List.getElem_cons_succ]
   refine m_buildRow (cells := (AA a)) Tryz.underlying22 ti88 (hc := by simp only [List.map_toArray, List.map_cons, List.map_nil, opv, n1, n2, n3, n4, Value.cells, List.toList_toArray]; exact fill_one (by rfl) (zi_size21 hal) (by rfl)) (hS := hS) (h := fun w20 g20 hS => ?_)
   try simp only [opv, n1, n2, n3, n4, Value.cells, Array.toArray_toList] at hS ⊢
   replace hS := hS.obj_rd (sz := 21) (n := 1) (by exact zi_size21 hal) .head
   rw [arow_one hal] at hS
   refine m_append Tryz.underlying22 ti88 (hS := hS) (h1 := rowsZ_cells _ _) (h := fun w21 A21 C21 hS => ?_)
   try simp only [← List.map_append, ← List.map_drop, ← List.map_take, Nat.mul_one, Nat.zero_mul, Nat.sub_zero, List.drop_zero, List.nil_append, Nat.zero_add] at hS ⊢
   try simp only [opv, n1, n2, n3, n4, Value.cells, Array.toArray_toList] at hS ⊢
   rw [add_one] at hS
   refine s_go (s_assign) ?_
   try simp only [opv, n1, n2, n3, n4, Value.cells]
   refine x_nil ?_
   refine hK16 _ _ ?_
   refine x_seq fun K18 hK18 => ?_
   refine x_region ?_
   refine s_go (s_move) ?_
   try simp only [opv, n1, n2, n3, n4, Value.cells]
   refine s_go (s_assign) ?_
   try simp only [opv, n1, n2, n3, n4, Value.cells]
   refine x_nil ?_
   refine hK18 _ _ ?_
   refine x_ret ?_
   refine r_tmp rfl ?_
   rw [hpe]
   first
   | exact ⟨_, _, rfl, hS.sel (by repeat (first | exact Sel.nil | (refine Sel.cons (by repeat (first | exact Del.head | apply Del.tail)) ?_)))⟩
   | (rw [List.length_append]; exact ⟨_, _, rfl, hS.sel (by repeat (first | exact Sel.nil | (refine Sel.cons (by repeat (first | exact Del.head | apply Del.tail)) ?_)))⟩)
  ·
   try simp only [decide_eq_true_eq, decide_eq_false_iff_not, Bool.not_eq_true', Bool.not_eq_false', Int.not_lt, Int.not_le, ne_eq, Decidable.not_not, bne_iff_ne, beq_iff_eq, not_true_eq_false, not_false_eq_true] at hc5
   obtain rfl : dn = true := by simpa using hc5
   rw [if_pos rfl] at hpe
   refine x_skip ?_
   refine hK16 _ _ ?_
   refine x_seq fun K19 hK19 => ?_
   refine x_region ?_
   refine s_go (s_move) ?_
   try simp only [opv, n1, n2, n3, n4, Value.cells]
   refine s_go (s_assign) ?_
   try simp only [opv, n1, n2, n3, n4, Value.cells]
   refine x_nil ?_
   refine hK19 _ _ ?_
   refine x_ret ?_
   refine r_tmp rfl ?_
   rw [hpe]
   first
   | exact ⟨_, _, rfl, hS.sel (by repeat (first | exact Sel.nil | (refine Sel.cons (by repeat (first | exact Del.head | apply Del.tail)) ?_)))⟩
   | (rw [List.length_append]; exact ⟨_, _, rfl, hS.sel (by repeat (first | exact Sel.nil | (refine Sel.cons (by repeat (first | exact Del.head | apply Del.tail)) ?_)))⟩)
end Go.Proofs.YtffmanidnlbjjaaGreat
set_option linter.unusedSimpArgs false
set_option linter.unusedVariables false
set_option maxHeartbeats 600000
set_option maxRecDepth 100000
namespace Go.Proofs.YtffmanidnlbjjaaGreat
open Go.RowKit

theorem norm_tk {l : List (List Int)} {k : Nat} {x : List Int} (hk : k < l.length) (hx : l.getD k [] = x) (hv : AOks l) : (atomR x = true → normP (l.take (k + 1)) = putS x (normP (l.take k))) ∧ (atomR x = false → normP (l.take (k + 1)) = normP (l.take k)) := by
  have ha : AtomOk x := by rw [← hx]; exact hv.get hk
  rw [norm_take hk, hx]
  refine ⟨fun h => ?_, fun h => ?_⟩
  · rw [if_pos h, put_eq ha (norm_sta (hv.take k))]
  · rw [if_neg (by rw [h]; decide)]
theorem c_ref10Norm (w0 : World) (A : Option Addr) (c : Nat) (l : List (List Int)) (hr : Rd w0 A 21 l.length (arows l)) (hv : AOks l) (hn : l.length ≤ 1000000000)  :
    CallR Tryz.prog 24 #[.slice A l.length c] w0 fun v w' => ∃ (B : Option Addr) (d : Nat), v = .slice B (normP l).length d ∧ RBack w0 w' A l B (normP l) := by
 have hS := St.rd1 (S := NoB) hr
 have hvl := arows_len l
 refine c_enter (l := [.slice A l.length c, undef, undef, undef, undef, undef, undef, undef, undef, undef, undef, undef, undef, undef, undef, undef, undef, undef, undef, undef, undef, undef, undef, undef, undef, undef]) Tryz.func24 rfl (by simp only [Tryz.ntmps24, List.size_toArray, List.length_cons, List.length_nil, Nat.reduceAdd, Nat.reduceSub, Array.replicate_succ, Array.replicate_zero, List.push_toArray, List.append_toArray, List.nil_append, List.cons_append]) ?_
 refine x_seq fun K1 hK1 => ?_
 refine x_region ?_
 refine s_go (s_assign) ?_
 try simp only [opv, n1, n2, n3, n4, Value.cells]
 refine x_nil ?_
 refine hK1 _ _ ?_
 refine x_seq fun K2 hK2 => ?_
 refine x_seq fun K3 hK3 => ?_
 refine x_region ?_
 refine s_go (s_move) ?_
 try simp only [opv, n1, n2, n3, n4, Value.cells]
 refine s_call en62 ?_
 try simp only [opv, n1, n2, n3, n4, Value.cells, List.map_toArray, List.map_cons, List.map_nil, List.append_toArray, List.cons_append, List.nil_append, Array.append_empty]
 refine CallR.mono (c_ref10Right _ A c l (hS.hasRd (by repeat (first | exact Has.head | apply Has.tail))) hv hn) ?_
 rintro _ w1 ⟨rfl, hE1⟩
 replace hS := hS.ext hE1
 try simp only [opv, n1, n2, n3, n4, Value.cells]
 refine x_nil ?_
 refine hK3 _ _ ?_
 refine x_cond (ht := fun hc1 => ?_) (hf := fun hc1 => ?_)
 ·
  try simp only [decide_eq_true_eq, decide_eq_false_iff_not, Bool.not_eq_true', Bool.not_eq_false', Int.not_lt, Int.not_le, ne_eq, Decidable.not_not, bne_iff_ne, beq_iff_eq, not_true_eq_false, not_false_eq_true] at hc1
  have hid := norm_id ((right_iff hv).1 hc1)
  refine x_seq fun K4 hK4 => ?_
  refine x_region ?_
  refine s_go (s_move) ?_
  try simp only [opv, n1, n2, n3, n4, Value.cells]
  refine s_go (s_assign) ?_
  try simp only [opv, n1, n2, n3, n4, Value.cells]
  refine x_nil ?_
  refine hK4 _ _ ?_
  refine x_ret ?_
  refine r_tmp rfl ?_
  exact ⟨A, c, by rw [hid]; rfl, rback_self hS.ext_of (hS.hasRd (by repeat (first | exact Has.head | apply Has.tail))) hid⟩
 ·
  try simp only [decide_eq_true_eq, decide_eq_false_iff_not, Bool.not_eq_true', Bool.not_eq_false', Int.not_lt, Int.not_le, ne_eq, Decidable.not_not, bne_iff_ne, beq_iff_eq, not_true_eq_false, not_false_eq_true] at hc1
  refine x_skip ?_
  refine hK2 _ _ ?_
  refine x_seq fun K5 hK5 => ?_
  refine x_region ?_
  replace hS := hS.nil_vec 88 21
  refine s_go (s_assign) ?_
  try simp only [opv, n1, n2, n3, n4, Value.cells]
  refine x_nil ?_
  refine hK5 _ _ ?_
  refine x_seq fun K6 hK6 => ?_
  refine x_seq fun K7 hK7 => ?_
  refine x_region ?_
  refine s_go (s_assign) ?_
  try simp only [opv, n1, n2, n3, n4, Value.cells]
  refine x_nil ?_
  refine hK7 _ _ ?_
  refine x_block ?_
  refine x_loop [3, 4, 8, 9, 10, 11, 12, 13, 14, 15, 16, 17, 18, 19, 20, 21, 22, 23, 24] (fun m f w => ∃ (k : Nat) (B : Option Addr) (d : Nat), k ≤ l.length ∧ m = l.length - k ∧ f 4 = .int .i64 (k : Int) ∧ f 3 = .slice B (normP (l.take k)).length d ∧ St NoB w0 w [.vec B d 88 21 (normP (l.take k)).length (arows (normP (l.take k))), .rd A 21 (l).length (arows (l))]) (l.length) ?init1 (fun m1 f1 wl1 hI => ?_)
  case init1 =>
   try simp only [opv, n1, n2, n3, n4, Value.cells]
   exact ⟨0, none, 0, by omega, rfl, rfl, rfl, hS.sel (by repeat (first | exact Sel.nil | (refine Sel.cons (by repeat (first | exact Del.head | apply Del.tail)) ?_)))⟩
  obtain ⟨k, B, d, hk0, hm, h4, h3, hS⟩ := hI
  simp only [clob, List.foldl, n3, n4, h4, h3]
  obtain ⟨x, hx⟩ : ∃ x, l.getD k [] = x := ⟨_, rfl⟩
  have hlk := norm_len (l.take k)
  have hlt : (l.take k).length ≤ l.length := by rw [List.length_take]; omega
  refine x_seq fun K8 hK8 => ?_
  refine x_seq fun K9 hK9 => ?_
  refine x_region ?_
  refine s_go (s_move) ?_
  try simp only [opv, n1, n2, n3, n4, Value.cells]
  refine s_go (s_move) ?_
  try simp only [opv, n1, n2, n3, n4, Value.cells]
  refine s_go (s_len_sl Tryz.underlying22) ?_
  try simp only [opv, n1, n2, n3, n4, Value.cells]
  refine s_go (s_lss) ?_
  try simp only [opv, n1, n2, n3, n4, Value.cells]
  refine x_nil ?_
  refine hK9 _ _ ?_
  refine x_cond (ht := fun hc2 => ?_) (hf := fun hc2 => ?_)
  ·
   try simp only [decide_eq_true_eq, decide_eq_false_iff_not, Bool.not_eq_true', Bool.not_eq_false', Int.not_lt, Int.not_le, ne_eq, Decidable.not_not, bne_iff_ne, beq_iff_eq, not_true_eq_false, not_false_eq_true] at hc2
   have ha : AtomOk x := by rw [← hx]; exact hv.get (by omega)
   have hal := ha.len
   have hk := ha.key
   have hkl := hk.len
   have htk := norm_tk (by omega) hx hv
   refine x_skip ?_
   refine hK8 _ _ ?_
   refine x_seq fun K10 hK10 => ?_
   refine x_block ?_
   refine x_seq fun K11 hK11 => ?_
   refine x_region ?_
   refine s_go (s_move) ?_
   try simp only [opv, n1, n2, n3, n4, Value.cells]
   refine s_go (s_move) ?_
   try simp only [opv, n1, n2, n3, n4, Value.cells]
   first | refine s_go (m_indexAddr_rd Tryz.underlying22 ti88 (hS := hS)) ?_ | refine s_go (m_indexAddr_vec Tryz.underlying22 ti88 (hS := hS)) ?_
   try simp only [opv, n1, n2, n3, n4, Value.cells, Nat.mul_one, Nat.zero_add, Int.toNat_natCast, Int.reduceToNat]
   first | refine s_go (m_load_row Tryz.underlying88 (hi := ti88) (hS := hS) (hfit := by rw [arows_len]; omega)) ?_ | refine s_go (m_loada_obj Tryz.underlying88 (hi := ti88) (hS := hS) (hfit := by rw [arows_len]; omega)) ?_ | refine s_go (m_loada_bx Tryz.underlying88 (hi := ti88) (hS := hS) (hfit := by rw [arows_len]; omega)) ?_ | refine s_go (m_loada_rd Tryz.underlying88 (hi := ti88) (hS := hS) (hfit := by rw [arows_len]; omega)) ?_ | refine s_go (m_loada_vec Tryz.underlying88 (hi := ti88) (hS := hS) (hfit := by rw [arows_len]; omega)) ?_
   try simp only [opv, n1, n2, n3, n4, Value.cells, List.getElem_toArray, List.getElem_cons_zero, List.getElem_cons_succ]
   rw [arow_get (by omega) hv, hx]
   refine s_call en63 ?_
   try simp only [opv, n1, n2, n3, n4, Value.cells, List.map_toArray, List.map_cons, List.map_nil, List.append_toArray, List.cons_append, List.nil_append, Array.append_empty]
   refine CallR.mono (c_ref09Right x ha _) ?_
   rintro _ w2 ⟨rfl, hE2⟩
   replace hS := hS.ext hE2
   try simp only [opv, n1, n2, n3, n4, Value.cells]
   refine x_nil ?_
   refine hK11 _ _ ?_
   refine x_cond (ht := fun hc3 => ?_) (hf := fun hc3 => ?_)
   ·
    try simp only [decide_eq_true_eq, decide_eq_false_iff_not, Bool.not_eq_true', Bool.not_eq_false', Int.not_lt, Int.not_le, ne_eq, Decidable.not_not, bne_iff_ne, beq_iff_eq, not_true_eq_false, not_false_eq_true] at hc3
    have hst := htk.1 hc3
    refine x_region ?_
    refine s_go (s_move) ?_
    try simp only [opv, n1, n2, n3, n4, Value.cells]
    refine s_go (s_move) ?_
    try simp only [opv, n1, n2, n3, n4, Value.cells]
    refine s_go (s_move) ?_
    try simp only [opv, n1, n2, n3, n4, Value.cells]
    first | refine s_go (m_indexAddr_rd Tryz.underlying22 ti88 (hS := hS)) ?_ | refine s_go (m_indexAddr_vec Tryz.underlying22 ti88 (hS := hS)) ?_
    try simp only [opv, n1, n2, n3, n4, Value.cells, Nat.mul_one, Nat.zero_add, Int.toNat_natCast, Int.reduceToNat]
    first | refine s_go (m_load_row Tryz.underlying88 (hi := ti88) (hS := hS) (hfit := by rw [arows_len]; omega)) ?_ | refine s_go (m_loada_obj Tryz.underlying88 (hi := ti88) (hS := hS) (hfit := by rw [arows_len]; omega)) ?_ | refine s_go (m_loada_bx Tryz.underlying88 (hi := ti88) (hS := hS) (hfit := by rw [arows_len]; omega)) ?_ | refine s_go (m_loada_rd Tryz.underlying88 (hi := ti88) (hS := hS) (hfit := by rw [arows_len]; omega)) ?_ | refine s_go (m_loada_vec Tryz.underlying88 (hi := ti88) (hS := hS) (hfit := by rw [arows_len]; omega)) ?_
    try simp only [opv, n1, n2, n3, n4, Value.cells, List.getElem_toArray, List.getElem_cons_zero, List.getElem_cons_succ]
    rw [arow_get (by omega) hv, hx]
    refine s_call en64 ?_
    try simp only [opv, n1, n2, n3, n4, Value.cells, List.map_toArray, List.map_cons, List.map_nil, List.append_toArray, List.cons_append, List.nil_append, Array.append_empty]
    refine CallR.mono (c_ref10put _ B d (normP (l.take k)) (hS.vecRd (by repeat (first | exact Has.head | apply Has.tail))) (norm_sta (hv.take k)).ok (by omega) x ha) ?_
    rintro _ w3 ⟨B3, d3, rfl, hC3⟩
    replace hS := hS.call hC3
    simp only [List.cons_append, List.nil_append] at hS
    try simp only [opv, n1, n2, n3, n4, Value.cells]
    refine s_go (s_assign) ?_
    try simp only [opv, n1, n2, n3, n4, Value.cells]
    refine x_nil ?_
    refine hK10 _ _ ?_
    refine x_region ?_
    refine s_go (s_move) ?_
    try simp only [opv, n1, n2, n3, n4, Value.cells]
    refine s_go (s_add (hc := by first | exact wr_i64 (by omega) (by omega) | rfl)) ?_
    try simp only [opv, n1, n2, n3, n4, Value.cells]
    refine s_go (s_assign) ?_
    try simp only [opv, n1, n2, n3, n4, Value.cells]
    refine x_nil ?_
    refine loop_back (m' := l.length - (k + 1)) (by simp only [clob, List.foldl, n1, n2, n3, n4]) ?_ ?_
    · try simp only [opv, n1, n2, n3, n4, Value.cells]
      exact ⟨k + 1, _, _, by omega, by omega, by rfl, by rw [hst], by rw [hst]; exact hS.sel (by repeat (first | exact Sel.nil | (refine Sel.cons (by repeat (first | exact Del.head | apply Del.tail)) ?_)))⟩
    · omega
   ·
    try simp only [decide_eq_true_eq, decide_eq_false_iff_not, Bool.not_eq_true', Bool.not_eq_false', Int.not_lt, Int.not_le, ne_eq, Decidable.not_not, bne_iff_ne, beq_iff_eq, not_true_eq_false, not_false_eq_true] at hc3
    have hst := htk.2 (by simpa using hc3)
    refine x_skip ?_
    refine hK10 _ _ ?_
    refine x_region ?_
    refine s_go (s_move) ?_
    try simp only [opv, n1, n2, n3, n4, Value.cells]
    refine s_go (s_add (hc := by first | exact wr_i64 (by omega) (by omega) | rfl)) ?_
    try simp only [opv, n1, n2, n3, n4, Value.cells]
    refine s_go (s_assign) ?_
    try simp only [opv, n1, n2, n3, n4, Value.cells]
    refine x_nil ?_
    refine loop_back (m' := l.length - (k + 1)) (by simp only [clob, List.foldl, n1, n2, n3, n4]) ?_ ?_
    · try simp only [opv, n1, n2, n3, n4, Value.cells]
      exact ⟨k + 1, _, _, by omega, by omega, by rfl, by rw [hst], by rw [hst]; exact hS.sel (by repeat (first | exact Sel.nil | (refine Sel.cons (by repeat (first | exact Del.head | apply Del.tail)) ?_)))⟩
    · omega
  ·
   try simp only [decide_eq_true_eq, decide_eq_false_iff_not, Bool.not_eq_true', Bool.not_eq_false', Int.not_lt, Int.not_le, ne_eq, Decidable.not_not, bne_iff_ne, beq_iff_eq, not_true_eq_false, not_false_eq_true] at hc2
   obtain rfl : k = l.length := by omega
   rw [List.take_of_length_le (Nat.le_refl _)] at hS ⊢
   refine x_exit (look_here ?_)
   refine hK6 _ _ ?_
   refine x_seq fun K12 hK12 => ?_
   refine x_region ?_
   refine s_go (s_move) ?_
   try simp only [opv, n1, n2, n3, n4, Value.cells]
   refine s_go (s_assign) ?_
   try simp only [opv, n1, n2, n3, n4, Value.cells]
   refine x_nil ?_
   refine hK12 _ _ ?_
   refine x_ret ?_
   refine r_tmp rfl ?_
   exact ⟨_, _, rfl, rback_vec hS (by repeat (first | exact Has.head | apply Has.tail))⟩
end Go.Proofs.YtffmanidnlbjjaaGreat
set_option linter.unusedSimpArgs false
set_option linter.unusedVariables false
set_option maxHeartbeats 1000000
set_option maxRecDepth 100000
namespace Go.Proofs.YtffmanidnlbjjaaGreat
open Go.RowKit

def k10 : List Int := [1, 1, 97, 0, 0, 0, 0, 0, 0, 0, 2, 3]
def b10 : List Int := k10 ++ [2, 0, 0, 0, 0, 0, 0, 0, 0]
end Go.Proofs.YtffmanidnlbjjaaGreat
set_option linter.unusedSimpArgs false
set_option linter.unusedVariables false
set_option maxHeartbeats 1000000
set_option maxRecDepth 100000
namespace Go.Proofs.YtffmanidnlbjjaaGreat
open Go.RowKit

def noteK (c : Nat) : List Int := mkKey 4 c nm0 0 0
def noteV (l : List (List Int)) (c : Nat) : List Int := (fnd (noteK c) (normP l)).getD v9
def noteN (l : List (List Int)) (c : Nat) : Nat := kn (noteV l c) 0 / 256 % 4294967296
def noteE (l : List (List Int)) (r : Nat) (tx : List Int) (c : Nat) : Int := if 16 ≤ r ∨ (¬ tx = nm0 ∧ nright tx = false) then 1 else if noteN l c = 4294967295 then 8 else 0
end Go.Proofs.YtffmanidnlbjjaaGreat
set_option linter.unusedSimpArgs false
set_option linter.unusedVariables false
set_option maxHeartbeats 1000000
set_option maxRecDepth 100000
namespace Go.Proofs.YtffmanidnlbjjaaGreat
open Go.RowKit

theorem akey_k {a : List Int} (h : a.length = 21) : kn (akey a) 0 = kn a 0 ∧ kn (akey a) 1 = kn a 1 := by
  match a, h with
  | _ :: _ :: _, _ => exact ⟨rfl, rfl⟩

end Go.Proofs.YtffmanidnlbjjaaGreat
set_option linter.unusedSimpArgs false
set_option linter.unusedVariables false
set_option maxHeartbeats 1000000
set_option maxRecDepth 100000
namespace Go.Proofs.YtffmanidnlbjjaaGreat
open Go.RowKit

theorem akey_kk {a : List Int} (h : a.length = 21) : kn (akey a) 10 = kn a 10 ∧ kn (akey a) 11 = kn a 11 := by
  match a, h with
  | [_, _, _, _, _, _, _, _, _, _, _, _, _, _, _, _, _, _, _, _, _], _ => exact ⟨rfl, rfl⟩
/-- a state's vector -/
def ofStep (v a : List Int) : List Int := if kn a 0 = 1 then v.set (kn a 10) (max (v.getD (kn a 10) 0) (kn a 11 : Int)) else v
structure VOk (v : List Int) : Prop where
  len : v.length = 16
  nat : ∀ i, 0 ≤ v.getD i 0 ∧ v.getD i 0 ≤ 4294967295
theorem VOk.zero : VOk (List.replicate 16 0) := ⟨rfl, fun i => by
  rw [List.getD_eq_getElem?_getD, List.getElem?_replicate]
  split <;> simp⟩
theorem VOk.set {v : List Int} (h : VOk v) {r : Nat} {n : Int} (h0 : 0 ≤ n) (h1 : n ≤ 4294967295) : VOk (v.set r n) := ⟨by rw [List.length_set]; exact h.len, fun i => by
  by_cases e : r = i
  · subst e
    by_cases hr : r < v.length
    · rw [List.getD_eq_getElem?_getD, List.getElem?_set_self hr]; exact ⟨h0, h1⟩
    · rw [List.set_eq_of_length_le (by omega)]; exact h.nat r
  · rw [List.getD_eq_getElem?_getD, List.getElem?_set_ne e, ← List.getD_eq_getElem?_getD]; exact h.nat i⟩
theorem VOk.step {v a : List Int} (h : VOk v) (ha : AtomOk a) : VOk (ofStep v a) := by
  unfold ofStep
  split
  · have h1 := h.nat (kn a 10)
    have h2 := ha.key.b11
    rw [(akey_kk ha.len).2] at h2
    exact h.set (by omega) (by omega)
  · exact h
end Go.Proofs.YtffmanidnlbjjaaGreat
set_option linter.unusedSimpArgs false
set_option linter.unusedVariables false
namespace Go.Proofs.YtffmanidnlbjjaaGreat
def swp (l : List Int) (i j : Nat) : List Int := (l.set i (l.getD j 0)).set j (l.getD i 0)
theorem swp_len (l : List Int) (i j : Nat) : (swp l i j).length = l.length := by simp [swp]
theorem getD_set_z {l : List Int} {i : Nat} (h : i < l.length) (v : Int) (j : Nat) : (l.set i v).getD j 0 = if i = j then v else l.getD j 0 := by
  rw [List.getD_eq_getElem?_getD, List.getElem?_set]
  by_cases e : i = j
  · subst e; simp [h]
  · rw [if_neg e, if_neg e, List.getD_eq_getElem?_getD]
theorem swp_get {l : List Int} {i j : Nat} (hi : i < l.length) (hj : j < l.length) (k : Nat) : (swp l i j).getD k 0 = if j = k then l.getD i 0 else if i = k then l.getD j 0 else l.getD k 0 := by
  rw [swp, getD_set_z (by simpa using hj), getD_set_z hi]
theorem getD_ltz {l : List Int} {i : Nat} (h : i < l.length) : l.getD i 0 = l[i] := by
  rw [List.getD_eq_getElem?_getD, List.getElem?_eq_getElem h]; rfl
theorem swp_perm {l : List Int} {i j : Nat} (hi : i < l.length) (hj : j < l.length) : (swp l i j).Perm l := by
  rw [swp, getD_ltz hi, getD_ltz hj]; exact List.set_set_perm hi hj
def HeapN (l : List Int) (n : Nat) : Prop := ∀ k, 0 < k → k < n → l.getD ((k - 1) / 2) 0 ≤ l.getD k 0
theorem heap_min {l : List Int} {n : Nat} (h : HeapN l n) : ∀ k, k < n → l.getD 0 0 ≤ l.getD k 0 := by
  intro k
  induction k using Nat.strongRecOn with
  | _ k ih =>
    intro hk
    by_cases e : k = 0
    · subst e; exact Int.le_refl _
    · exact Int.le_trans (ih ((k - 1) / 2) (by omega) (by omega)) (h k (by omega) hk)
def UpI (l : List Int) (j : Nat) : Prop := (∀ k, 0 < k → k < l.length → k ≠ j → l.getD ((k - 1) / 2) 0 ≤ l.getD k 0) ∧ (∀ k, 0 < k → k < l.length → (k - 1) / 2 = j → 0 < j → l.getD ((j - 1) / 2) 0 ≤ l.getD k 0)
theorem getD_app_l {l m : List Int} {i : Nat} (h : i < l.length) : (l ++ m).getD i 0 = l.getD i 0 := by
  rw [List.getD_eq_getElem?_getD, List.getElem?_append_left h, ← List.getD_eq_getElem?_getD]
theorem up_init {l : List Int} {x : Int} (h : HeapN l l.length) : UpI (l ++ [x]) l.length := by
  refine ⟨fun k h0 h1 h2 => ?_, fun k h0 h1 h2 h3 => ?_⟩
  · simp only [List.length_append, List.length_cons, List.length_nil] at h1
    rw [getD_app_l (by omega), getD_app_l (by omega)]; exact h k h0 (by omega)
  · simp only [List.length_append, List.length_cons, List.length_nil] at h1
    omega
theorem up_step {l : List Int} {j i : Nat} (h : UpI l j) (hi : i = (j - 1) / 2) (hj : 0 < j) (hl : j < l.length) (hlt : l.getD j 0 < l.getD i 0) : UpI (swp l i j) i := by
  have hil : i < l.length := by omega
  refine ⟨fun k h0 h1 h2 => ?_, fun k h0 h1 h2 h3 => ?_⟩
  · rw [swp_len] at h1
    rw [swp_get hil hl, swp_get hil hl]
    by_cases e : j = k
    · subst e
      rw [← hi, if_neg (by omega), if_pos rfl, if_pos rfl]; omega
    · rw [if_neg e, if_neg (Ne.symm h2)]
      have h4 := h.1 k h0 h1 (Ne.symm e)
      by_cases e2 : j = (k - 1) / 2
      · rw [if_pos e2, hi]; exact h.2 k h0 h1 e2.symm hj
      · rw [if_neg e2]
        by_cases e3 : i = (k - 1) / 2
        · rw [if_pos e3]; rw [← e3] at h4; omega
        · rw [if_neg e3]; exact h4
  · rw [swp_len] at h1
    rw [swp_get hil hl, swp_get hil hl, if_neg (by omega), if_neg (by omega)]
    have h4 := h.1 i h3 hil (by omega)
    by_cases e : j = k
    · rw [if_pos e]; exact h4
    · rw [if_neg e, if_neg (by omega)]
      have h5 := h.1 k h0 h1 (Ne.symm e)
      rw [h2] at h5; omega
theorem up_done {l : List Int} {j : Nat} (h : UpI l j) (hd : j = 0 ∨ ¬ l.getD j 0 < l.getD ((j - 1) / 2) 0) : HeapN l l.length := by
  intro k h0 h1
  by_cases e : k = j
  · subst e
    rcases hd with h2 | h2
    · omega
    · omega
  · exact h.1 k h0 h1 e
def DnI (l : List Int) (n i : Nat) : Prop := (∀ k, 0 < k → k < n → (k - 1) / 2 ≠ i → l.getD ((k - 1) / 2) 0 ≤ l.getD k 0) ∧ (∀ k, 0 < k → k < n → (k - 1) / 2 = i → 0 < i → l.getD ((i - 1) / 2) 0 ≤ l.getD k 0)
theorem dn_init {l : List Int} (h : HeapN l l.length) (hl : 0 < l.length) : DnI (swp l 0 (l.length - 1)) (l.length - 1) 0 := by
  refine ⟨fun k h0 h1 h2 => ?_, fun k h0 h1 h2 h3 => by omega⟩
  rw [swp_get hl (by omega), swp_get hl (by omega), if_neg (by omega), if_neg (by omega), if_neg (by omega), if_neg (by omega)]
  exact h k h0 (by omega)
theorem dn_step {l : List Int} {n i j : Nat} (h : DnI l n i) (hn : n ≤ l.length) (hj : j = 2 * i + 1 ∨ j = 2 * i + 2) (hjn : j < n) (hmin : ∀ k, 0 < k → k < n → (k - 1) / 2 = i → l.getD j 0 ≤ l.getD k 0) (hlt : l.getD j 0 < l.getD i 0) : DnI (swp l i j) n j := by
  have hil : i < l.length := by omega
  have hjl : j < l.length := by omega
  refine ⟨fun k h0 h1 h2 => ?_, fun k h0 h1 h2 h3 => ?_⟩
  · rw [swp_get hil hjl, swp_get hil hjl]
    by_cases e : j = k
    · subst e
      rw [if_neg (Ne.symm h2), if_pos (by omega), if_pos rfl]; omega
    · rw [if_neg (Ne.symm h2), if_neg e]
      by_cases e2 : i = k
      · subst e2
        rw [if_neg (by omega), if_pos rfl]; exact h.2 j (by omega) hjn (by omega) h0
      · rw [if_neg e2]
        by_cases e3 : i = (k - 1) / 2
        · rw [if_pos e3]; exact hmin k h0 h1 e3.symm
        · rw [if_neg e3]; exact h.1 k h0 h1 (Ne.symm e3)
  · rw [swp_get hil hjl, swp_get hil hjl, if_neg (by omega), if_pos (by omega), if_neg (by omega), if_neg (by omega)]
    have := h.1 k h0 h1 (by omega)
    rw [h2] at this; exact this
theorem dn_done {l : List Int} {n i : Nat} (h : DnI l n i) (hd : ∀ k, 0 < k → k < n → (k - 1) / 2 = i → l.getD i 0 ≤ l.getD k 0) : HeapN l n := by
  intro k h0 h1
  by_cases e : (k - 1) / 2 = i
  · rw [e]; exact hd k h0 h1 e
  · exact h.1 k h0 h1 e
/-- what is popped, and what is left -/
theorem pop_end {l l2 : List Int} (hl : 0 < l.length) (h : HeapN l l.length) (hp : l2.Perm (swp l 0 (l.length - 1))) (hlast : l2.getD (l.length - 1) 0 = l.getD 0 0) (hh : HeapN l2 (l.length - 1)) :
    HeapN (l2.take (l.length - 1)) (l2.take (l.length - 1)).length ∧ l.Perm (l.getD 0 0 :: l2.take (l.length - 1)) ∧ ∀ y ∈ l2.take (l.length - 1), l.getD 0 0 ≤ y := by
  have h2l : l2.length = l.length := by rw [hp.length_eq, swp_len]
  have hp2 : l2.Perm l := hp.trans (swp_perm hl (by omega))
  have htl : (l2.take (l.length - 1)).length = l.length - 1 := by rw [List.length_take]; omega
  have hg : ∀ k, k < l.length - 1 → (l2.take (l.length - 1)).getD k 0 = l2.getD k 0 := fun k hk => by
    rw [List.getD_eq_getElem?_getD, List.getElem?_take_of_lt hk, ← List.getD_eq_getElem?_getD]
  have hc : l2 = l2.take (l.length - 1) ++ [l.getD 0 0] := by
    conv => lhs; rw [← List.take_append_drop (l.length - 1) l2, List.drop_eq_getElem_cons (show l.length - 1 < l2.length by omega)]
    rw [← getD_ltz (show l.length - 1 < l2.length by omega), hlast, List.drop_of_length_le (by omega)]
  have hpp : l.Perm (l.getD 0 0 :: l2.take (l.length - 1)) := by
    refine hp2.symm.trans ?_
    conv => lhs; rw [hc]
    exact List.perm_append_comm
  refine ⟨fun k h0 h1 => ?_, hpp, fun y hy => ?_⟩
  · rw [htl] at h1
    rw [hg _ (by omega), hg _ h1]; exact hh k h0 h1
  · have hy2 : y ∈ l := hpp.mem_iff.2 (List.mem_cons_of_mem _ hy)
    obtain ⟨k, hk, rfl⟩ := List.getElem_of_mem hy2
    rw [← getD_ltz hk]; exact heap_min h k hk
theorem swp_last {l : List Int} (hl : 0 < l.length) : (swp l 0 (l.length - 1)).getD (l.length - 1) 0 = l.getD 0 0 := by
  rw [swp_get hl (by omega), if_pos rfl]
end Go.Proofs.YtffmanidnlbjjaaGreat
set_option linter.unusedSimpArgs false
set_option linter.unusedVariables false
set_option maxHeartbeats 1000000
set_option maxRecDepth 100000
namespace Go.Proofs.YtffmanidnlbjjaaGreat
open Go.RowKit

def dR (d : Int) : Nat := (d / 4294967296).toNat
def MayD (d : Int) : Prop := 0 ≤ d ∧ d / 4294967296 < 16 ∧ 0 < d % 4294967296
instance (d : Int) : Decidable (MayD d) := inferInstanceAs (Decidable (_ ∧ _ ∧ _))
def flo (v : List Int) (d : Int) : Int := v.getD (dR d) 0
def HasD (v cl : List Int) (d : Int) : Prop := MayD d ∧ (d % 4294967296 ≤ flo v d ∨ d ∈ cl)
instance (v cl : List Int) (d : Int) : Decidable (HasD v cl d) := inferInstanceAs (Decidable (_ ∧ (_ ∨ _)))
/-- a right set -/
structure NS (v cl : List Int) : Prop where
  vok : VOk v
  srt : cl.Pairwise (· < ·)
  may : ∀ d ∈ cl, MayD d
  ov : ∀ d ∈ cl, flo v d + 1 < d % 4294967296
theorem flo_set {v : List Int} (hv : VOk v) {d x n : Int} (hd : MayD d) : flo (v.set (dR d) n) x = if dR d = dR x then n else flo v x := by
  have h1 := hv.len
  have h2 : dR d < v.length := by obtain ⟨a, b, c⟩ := hd; unfold dR; omega
  rw [flo, getD_set_z h2]; rfl
theorem dot_eq {d x : Int} (hd : MayD d) (hx : MayD x) (h : dR d = dR x) (h2 : d % 4294967296 = x % 4294967296) : d = x := by
  obtain ⟨a, b, c⟩ := hd; obtain ⟨a2, b2, c2⟩ := hx
  unfold dR at h; omega
theorem dot_le {d x : Int} (hd : MayD d) (hx : MayD x) (h : dR d = dR x) (h2 : d ≤ x) : d % 4294967296 ≤ x % 4294967296 := by
  obtain ⟨a, b, c⟩ := hd; obtain ⟨a2, b2, c2⟩ := hx
  unfold dR at h; omega
theorem srt_ext : ∀ {a b : List Int}, a.Pairwise (· < ·) → b.Pairwise (· < ·) → (∀ x, x ∈ a ↔ x ∈ b) → a = b
  | [], [], _, _, _ => rfl
  | [], y :: b, _, _, h => by have := (h y).2 (by simp); cases this
  | x :: a, [], _, _, h => by have := (h x).1 (by simp); cases this
  | x :: a, y :: b, ha, hb, h => by
    obtain ⟨ha1, ha2⟩ := List.pairwise_cons.1 ha
    obtain ⟨hb1, hb2⟩ := List.pairwise_cons.1 hb
    have e : x = y := by
      rcases List.mem_cons.1 ((h x).1 (by simp)) with h1 | h1
      · exact h1
      · rcases List.mem_cons.1 ((h y).2 (by simp)) with h2 | h2
        · exact h2.symm
        · have := ha1 y h2; have := hb1 x h1; omega
    subst e
    have na : x ∉ a := fun hm => by have := ha1 x hm; omega
    have nb : x ∉ b := fun hm => by have := hb1 x hm; omega
    rw [srt_ext ha2 hb2 fun c => by
      have := h c
      simp only [List.mem_cons] at this
      constructor
      · intro hc
        rcases this.1 (.inr hc) with rfl | h2
        · exact absurd hc na
        · exact h2
      · intro hc
        rcases this.2 (.inr hc) with rfl | h2
        · exact absurd hc nb
        · exact h2]
/-- right sets that have the same are the same -/
theorem ns_uniq {v cl v' cl' : List Int} (h : NS v cl) (h' : NS v' cl') (hh : ∀ d, HasD v cl d ↔ HasD v' cl' d) : v = v' ∧ cl = cl' := by
  have key : ∀ {v cl v' cl' : List Int}, NS v cl → NS v' cl' → (∀ d, HasD v' cl' d → HasD v cl d) → ∀ r : Nat, r < 16 → v'.getD r 0 ≤ v.getD r 0 := by
    intro v cl v' cl' h h' hh r hr
    have b1 := h.vok.nat r; have b2 := h'.vok.nat r
    by_cases hc : v'.getD r 0 ≤ v.getD r 0
    · exact hc
    · exfalso
      obtain ⟨d, hd⟩ : ∃ d : Int, d = (r : Int) * 4294967296 + (v.getD r 0 + 1) := ⟨_, rfl⟩
      have hdr : dR d = r := by unfold dR; omega
      have hds : d % 4294967296 = v.getD r 0 + 1 := by omega
      have hm : MayD d := ⟨by omega, by omega, by omega⟩
      have h1 : HasD v' cl' d := ⟨hm, .inl (by rw [flo, hdr]; omega)⟩
      rcases (hh d h1).2 with h2 | h2
      · rw [flo, hdr] at h2; omega
      · have := h.ov d h2; rw [flo, hdr] at this; omega
  have hv : v = v' := by
    refine List.ext_getElem (by rw [h.vok.len, h'.vok.len]) fun i h1 h2 => ?_
    have hi : i < 16 := by have := h.vok.len; omega
    have a := key h h' (fun d hd => (hh d).2 hd) i hi
    have b := key h' h (fun d hd => (hh d).1 hd) i hi
    rw [getD_ltz h1, getD_ltz h2] at a b; omega
  subst hv
  refine ⟨rfl, srt_ext h.srt h'.srt fun x => ⟨fun hx => ?_, fun hx => ?_⟩⟩
  · rcases ((hh x).1 ⟨h.may x hx, .inr hx⟩).2 with h2 | h2
    · have := h.ov x hx; omega
    · exact h2
  · rcases ((hh x).2 ⟨h'.may x hx, .inr hx⟩).2 with h2 | h2
    · have := h'.ov x hx; omega
    · exact h2
/-- one dot more, not below those before -/
def stepD (p : List Int × List Int) (d : Int) : List Int × List Int :=
  if d % 4294967296 ≤ flo p.1 d ∨ d ∈ p.2 then p else if d % 4294967296 = flo p.1 d + 1 then (p.1.set (dR d) (d % 4294967296), p.2) else (p.1, p.2 ++ [d])
theorem step_ns {v cl : List Int} {d : Int} (h : NS v cl) (hd : MayD d) (hle : ∀ c ∈ cl, c ≤ d) :
    NS (stepD (v, cl) d).1 (stepD (v, cl) d).2 ∧ (∀ c ∈ (stepD (v, cl) d).2, c ≤ d) ∧ ∀ x, HasD (stepD (v, cl) d).1 (stepD (v, cl) d).2 x ↔ (HasD v cl x ∨ x = d) := by
  unfold stepD
  split
  · next hs =>
    refine ⟨h, hle, fun x => ⟨fun hx => .inl hx, fun hx => ?_⟩⟩
    rcases hx with hx | rfl
    · exact hx
    · exact ⟨hd, hs⟩
  · next hs =>
    split
    · next he =>
      dsimp only at hs he ⊢
      have hr : dR d < 16 := by obtain ⟨a, b, c⟩ := hd; unfold dR; omega
      have hne : ∀ c ∈ cl, ¬ dR d = dR c := fun c hc e => by
        have h1 := h.ov c hc
        have h2 := dot_le (h.may c hc) hd e.symm (hle c hc)
        have h3 : flo v c = flo v d := by rw [flo, flo, e]
        omega
      have hb : d % 4294967296 ≤ 4294967295 := by omega
      refine ⟨⟨h.vok.set (by omega) hb, h.srt, h.may, fun c hc => by rw [flo_set h.vok hd, if_neg (hne c hc)]; exact h.ov c hc⟩, hle, fun x => ?_⟩
      unfold HasD
      rw [flo_set h.vok hd]
      constructor
      · rintro ⟨hm, hx⟩
        by_cases e : dR d = dR x
        · rw [if_pos e] at hx
          have h3 : flo v x = flo v d := by rw [flo, flo, e]
          rcases hx with hx | hx
          · by_cases e2 : d % 4294967296 = x % 4294967296
            · exact .inr (dot_eq hd hm e e2).symm
            · exact .inl ⟨hm, .inl (by omega)⟩
          · exact .inl ⟨hm, .inr hx⟩
        · rw [if_neg e] at hx; exact .inl ⟨hm, hx⟩
      · rintro (⟨hm, hx⟩ | rfl)
        · refine ⟨hm, ?_⟩
          by_cases e : dR d = dR x
          · have h3 : flo v x = flo v d := by rw [flo, flo, e]
            rw [if_pos e]
            rcases hx with hx | hx
            · exact .inl (by omega)
            · exact .inr hx
          · rw [if_neg e]; exact hx
        · exact ⟨hd, .inl (by rw [if_pos rfl]; omega)⟩
    · next he =>
      dsimp only at hs he ⊢
      have hlt : ∀ c ∈ cl, c < d := fun c hc => by
        have h1 := hle c hc
        have h2 : ¬ c = d := fun e => hs (.inr (e ▸ hc))
        omega
      refine ⟨⟨h.vok, ?_, fun c hc => ?_, fun c hc => ?_⟩, fun c hc => ?_, fun x => ?_⟩
      · refine List.pairwise_append.2 ⟨h.srt, by simp, fun a ha b hb => ?_⟩
        rw [List.mem_singleton] at hb; rw [hb]; exact hlt a ha
      · rcases List.mem_append.1 hc with hc | hc
        · exact h.may c hc
        · rw [List.mem_singleton] at hc; rw [hc]; exact hd
      · rcases List.mem_append.1 hc with hc | hc
        · exact h.ov c hc
        · rw [List.mem_singleton] at hc; rw [hc]
          have : ¬ d % 4294967296 ≤ flo v d := fun e => hs (.inl e)
          omega
      · rcases List.mem_append.1 hc with hc | hc
        · exact hle c hc
        · rw [List.mem_singleton] at hc; omega
      · unfold HasD
        rw [List.mem_append, List.mem_singleton]
        constructor
        · rintro ⟨hm, hx | hx | hx⟩
          · exact .inl ⟨hm, .inl hx⟩
          · exact .inl ⟨hm, .inr hx⟩
          · exact .inr hx
        · rintro (⟨hm, hx⟩ | rfl)
          · exact ⟨hm, hx.imp id .inl⟩
          · exact ⟨hd, .inr (.inr rfl)⟩
theorem fold_ns : ∀ {ds v cl : List Int}, NS v cl → (∀ d ∈ ds, MayD d) → ds.Pairwise (· ≤ ·) → (∀ c ∈ cl, ∀ d ∈ ds, c ≤ d) →
    NS (ds.foldl stepD (v, cl)).1 (ds.foldl stepD (v, cl)).2 ∧ ∀ x, HasD (ds.foldl stepD (v, cl)).1 (ds.foldl stepD (v, cl)).2 x ↔ (HasD v cl x ∨ x ∈ ds)
  | [], _, _, h, _, _, _ => ⟨h, fun x => by simp⟩
  | d :: ds, v, cl, h, hm, hs, hle => by
    obtain ⟨hs1, hs2⟩ := List.pairwise_cons.1 hs
    obtain ⟨h1, h2, h3⟩ := step_ns h (hm d (by simp)) (fun c hc => hle c hc d (by simp))
    obtain ⟨h4, h5⟩ := fold_ns (ds := ds) (v := (stepD (v, cl) d).1) (cl := (stepD (v, cl) d).2) h1 (fun x hx => hm x (by simp [hx])) hs2 (fun c hc x hx => by have := h2 c hc; have := hs1 x hx; omega)
    refine ⟨h4, fun x => ?_⟩
    rw [List.foldl_cons, show stepD (v, cl) d = ((stepD (v, cl) d).1, (stepD (v, cl) d).2) from rfl, h5, h3, List.mem_cons, or_assoc]
def insI (d : Int) : List Int → List Int
  | [] => [d]
  | x :: l => if d ≤ x then d :: x :: l else x :: insI d l
def sortI : List Int → List Int
  | [] => []
  | d :: l => insI d (sortI l)
theorem insI_perm (d : Int) : ∀ l : List Int, (insI d l).Perm (d :: l)
  | [] => .refl _
  | x :: l => by
    rw [insI]; split
    · exact .refl _
    · exact ((insI_perm d l).cons x).trans (.swap _ _ _)
theorem sortI_perm : ∀ l : List Int, (sortI l).Perm l
  | [] => .refl _
  | d :: l => (insI_perm d _).trans ((sortI_perm l).cons d)
theorem insI_srt (d : Int) : ∀ {l : List Int}, l.Pairwise (· ≤ ·) → (insI d l).Pairwise (· ≤ ·)
  | [], _ => by simp [insI]
  | x :: l, h => by
    obtain ⟨h1, h2⟩ := List.pairwise_cons.1 h
    rw [insI]; split
    · next e => exact List.pairwise_cons.2 ⟨fun y hy => by rcases List.mem_cons.1 hy with rfl | hy; exact e; have := h1 y hy; omega, h⟩
    · next e => exact List.pairwise_cons.2 ⟨fun y hy => by rcases List.mem_cons.1 ((insI_perm d l).mem_iff.1 hy) with rfl | hy; omega; exact h1 y hy, insI_srt d h2⟩
theorem sortI_srt : ∀ l : List Int, (sortI l).Pairwise (· ≤ ·)
  | [] => .nil
  | d :: l => insI_srt d (sortI_srt l)
def mayF (l : List Int) : List Int := l.filter fun d => decide (MayD d)
theorem mem_mayF {l : List Int} {d : Int} : d ∈ mayF l ↔ d ∈ l ∧ MayD d := by simp [mayF]
/-- the right set of a floor and dots -/
def addS (v : List Int) (l : List Int) : List Int × List Int := (sortI (mayF l)).foldl stepD (v, [])
/-- what a set has -/
structure Nrm (H : Int → Prop) (p : List Int × List Int) : Prop where
  ns : NS p.1 p.2
  has : ∀ d, HasD p.1 p.2 d ↔ H d
theorem Nrm.uniq {H H' : Int → Prop} {p q : List Int × List Int} (h : Nrm H p) (h' : Nrm H' q) (hh : ∀ d, H d ↔ H' d) : p = q := by
  obtain ⟨a, b⟩ := ns_uniq h.ns h'.ns fun d => (h.has d).trans ((hh d).trans (h'.has d).symm)
  exact Prod.ext a b
theorem ns_nil {v : List Int} (hv : VOk v) : NS v [] := ⟨hv, .nil, (fun d h => by cases h), (fun d h => by cases h)⟩
theorem fold_nrm {v l ds : List Int} (hv : VOk v) (hp : ds.Perm (mayF l)) (hs : ds.Pairwise (· ≤ ·)) : Nrm (HasD v l) (ds.foldl stepD (v, [])) := by
  have hm : ∀ d ∈ ds, MayD d := fun d hd => (mem_mayF.1 (hp.mem_iff.1 hd)).2
  obtain ⟨h1, h2⟩ := fold_ns (ds := ds) (ns_nil hv) hm hs (fun c hc => by cases hc)
  refine ⟨h1, fun d => (h2 d).trans ?_⟩
  rw [hp.mem_iff, mem_mayF]
  unfold HasD
  constructor
  · rintro (⟨a, b | b⟩ | ⟨a, b⟩)
    · exact ⟨a, .inl b⟩
    · cases b
    · exact ⟨b, .inr a⟩
  · rintro ⟨a, b | b⟩
    · exact .inl ⟨a, .inl b⟩
    · exact .inr ⟨b, a⟩
theorem add_nrm {v : List Int} (hv : VOk v) (l : List Int) : Nrm (HasD v l) (addS v l) := fold_nrm hv (sortI_perm _) (sortI_srt _)
theorem fold_add {v l ds : List Int} (hv : VOk v) (hp : ds.Perm (mayF l)) (hs : ds.Pairwise (· ≤ ·)) : ds.foldl stepD (v, []) = addS v l := (fold_nrm hv hp hs).uniq (add_nrm hv l) fun _ => Iff.rfl
/-- the document's way -/
def putC (v cl : List Int) (d : Int) : List Int := if MayD d ∧ ¬ HasD v cl d then cl.filter (fun x => decide (x < d)) ++ d :: cl.filter (fun x => !decide (x < d)) else cl
structure PreS (v cl : List Int) : Prop where
  vok : VOk v
  srt : cl.Pairwise (· < ·)
  may : ∀ d ∈ cl, MayD d
theorem putC_pre {v cl : List Int} {d : Int} (h : PreS v cl) : PreS v (putC v cl d) ∧ ∀ x, HasD v (putC v cl d) x ↔ (HasD v cl x ∨ (MayD d ∧ x = d)) := by
  unfold putC
  split
  · next hd =>
    obtain ⟨hm, hn⟩ := hd
    have hnd : d ∉ cl := fun hx => hn ⟨hm, .inr hx⟩
    have hmem : ∀ x, x ∈ cl.filter (fun x => decide (x < d)) ++ d :: cl.filter (fun x => !decide (x < d)) ↔ x ∈ cl ∨ x = d := fun x => by
      simp only [List.mem_append, List.mem_cons, List.mem_filter]
      by_cases e : x < d <;> simp [e]
      exact Or.comm
    refine ⟨⟨h.vok, ?_, fun x hx => ?_⟩, fun x => ?_⟩
    · refine List.pairwise_append.2 ⟨h.srt.filter _, List.pairwise_cons.2 ⟨fun y hy => ?_, h.srt.filter _⟩, fun a ha b hb => ?_⟩
      · simp only [List.mem_filter, Bool.not_eq_true', decide_eq_false_iff_not] at hy
        have : ¬ y = d := fun e => hnd (e ▸ hy.1)
        omega
      · simp only [List.mem_filter, decide_eq_true_eq] at ha
        rcases List.mem_cons.1 hb with rfl | hb
        · exact ha.2
        · simp only [List.mem_filter, Bool.not_eq_true', decide_eq_false_iff_not] at hb
          omega
    · rcases (hmem x).1 hx with hx | rfl
      · exact h.may x hx
      · exact hm
    · unfold HasD
      rw [hmem]
      constructor
      · rintro ⟨a, b | b | b⟩
        · exact .inl ⟨a, .inl b⟩
        · exact .inl ⟨a, .inr b⟩
        · exact .inr ⟨hm, b⟩
      · rintro (⟨a, b⟩ | ⟨_, rfl⟩)
        · exact ⟨a, b.imp id .inl⟩
        · exact ⟨hm, .inr (.inr rfl)⟩
  · next hd =>
    refine ⟨h, fun x => ⟨fun hx => .inl hx, fun hx => ?_⟩⟩
    rcases hx with hx | ⟨hm, rfl⟩
    · exact hx
    · exact Classical.byContradiction fun hn => hd ⟨hm, hn⟩
theorem puts_pre {v : List Int} : ∀ {l cl : List Int}, PreS v cl → PreS v (l.foldl (putC v) cl) ∧ ∀ x, HasD v (l.foldl (putC v) cl) x ↔ (HasD v cl x ∨ (MayD x ∧ x ∈ l))
  | [], cl, h => ⟨h, fun x => by simp⟩
  | d :: l, cl, h => by
    obtain ⟨h1, h2⟩ := putC_pre (d := d) h
    obtain ⟨h3, h4⟩ := puts_pre (l := l) h1
    refine ⟨h3, fun x => ?_⟩
    rw [List.foldl_cons, h4, h2, List.mem_cons]
    constructor
    · rintro ((a | ⟨a, rfl⟩) | ⟨a, b⟩)
      · exact .inl a
      · exact .inr ⟨a, .inl rfl⟩
      · exact .inr ⟨a, .inr b⟩
    · rintro (a | ⟨a, rfl | b⟩)
      · exact .inl (.inl a)
      · exact .inl (.inr ⟨a, rfl⟩)
      · exact .inr ⟨a, b⟩
def setD (p : List Int × List Int) (d : Int) : List Int × List Int :=
  if d % 4294967296 ≤ flo p.1 d then p else if d % 4294967296 = flo p.1 d + 1 then (p.1.set (dR d) (d % 4294967296), p.2) else (p.1, p.2 ++ [d])
theorem set_len : ∀ (l : List Int) (p : List Int × List Int), (l.foldl setD p).2.length ≤ p.2.length + l.length
  | [], p => Nat.le_refl _
  | d :: l, p => by
    have h := set_len l (setD p d)
    have h2 : (setD p d).2.length ≤ p.2.length + 1 := by
      unfold setD; split
      · omega
      · split
        · simp
        · simp
    rw [List.foldl_cons, List.length_cons]; omega
theorem set_all : ∀ (l : List Int) (p : List Int × List Int), (l.foldl setD p).2.length = p.2.length + l.length → l.foldl setD p = (p.1, p.2 ++ l) ∧ ∀ d ∈ l, flo p.1 d + 1 < d % 4294967296
  | [], p, _ => ⟨by simp, fun d h => by cases h⟩
  | d :: l, p, h => by
    have h1 := set_len l (setD p d)
    rw [List.foldl_cons, List.length_cons] at h
    have e : setD p d = (p.1, p.2 ++ [d]) ∧ flo p.1 d + 1 < d % 4294967296 := by
      unfold setD at h1 h ⊢
      split
      · next q => rw [if_pos q] at h1 h; omega
      · next q =>
        rw [if_neg q] at h1 h
        split
        · next q2 => rw [if_pos q2] at h1 h; dsimp only at h1 h; omega
        · next q2 => exact ⟨rfl, by omega⟩
    obtain ⟨h3, h4⟩ := set_all l (setD p d) (by rw [e.1]; rw [e.1] at h; simp only [List.length_append, List.length_cons, List.length_nil] at h ⊢; omega)
    rw [e.1] at h3 h4
    refine ⟨by rw [List.foldl_cons, e.1, h3]; simp, fun x hx => ?_⟩
    rcases List.mem_cons.1 hx with rfl | hx
    · exact e.2
    · exact h4 x hx
theorem set_pre : ∀ {l v o : List Int}, PreS v (o ++ l) → PreS (l.foldl setD (v, o)).1 (l.foldl setD (v, o)).2 ∧ ∀ x, HasD (l.foldl setD (v, o)).1 (l.foldl setD (v, o)).2 x ↔ HasD v (o ++ l) x
  | [], v, o, h => by rw [List.append_nil] at h ⊢; exact ⟨h, fun x => Iff.rfl⟩
  | d :: l, v, o, h => by
    have hd : MayD d := h.may d (by simp)
    have key : PreS (setD (v, o) d).1 ((setD (v, o) d).2 ++ l) ∧ ∀ x, HasD (setD (v, o) d).1 ((setD (v, o) d).2 ++ l) x ↔ HasD v (o ++ d :: l) x := by
      have hsub : (o ++ l).Sublist (o ++ d :: l) := (List.sublist_cons_self d l).append_left o
      unfold setD
      split
      · next q =>
        dsimp only at q ⊢
        refine ⟨⟨h.vok, h.srt.sublist hsub, fun x hx => h.may x (hsub.subset hx)⟩, fun x => ?_⟩
        unfold HasD
        simp only [List.mem_append, List.mem_cons]
        constructor
        · rintro ⟨a, b | b | b⟩
          · exact ⟨a, .inl b⟩
          · exact ⟨a, .inr (.inl b)⟩
          · exact ⟨a, .inr (.inr (.inr b))⟩
        · rintro ⟨a, b | b | rfl | b⟩
          · exact ⟨a, .inl b⟩
          · exact ⟨a, .inr (.inl b)⟩
          · exact ⟨a, .inl q⟩
          · exact ⟨a, .inr (.inr b)⟩
      · next q =>
        split
        · next q2 =>
          dsimp only at q q2 ⊢
          have hfl := h.vok.nat (dR d)
          refine ⟨⟨h.vok.set (by obtain ⟨a, b, c⟩ := hd; omega) (by omega), h.srt.sublist hsub, fun x hx => h.may x (hsub.subset hx)⟩, fun x => ?_⟩
          unfold HasD
          rw [flo_set h.vok hd]
          simp only [List.mem_append, List.mem_cons]
          by_cases e : dR d = dR x
          · have h3 : flo v x = flo v d := by rw [flo, flo, e]
            rw [if_pos e]
            constructor
            · rintro ⟨a, b | b | b⟩
              · by_cases e2 : d % 4294967296 = x % 4294967296
                · exact ⟨a, .inr (.inr (.inl (dot_eq hd a e e2).symm))⟩
                · exact ⟨a, .inl (by omega)⟩
              · exact ⟨a, .inr (.inl b)⟩
              · exact ⟨a, .inr (.inr (.inr b))⟩
            · rintro ⟨a, b | b | rfl | b⟩
              · exact ⟨a, .inl (by omega)⟩
              · exact ⟨a, .inr (.inl b)⟩
              · exact ⟨a, .inl (by omega)⟩
              · exact ⟨a, .inr (.inr b)⟩
          · rw [if_neg e]
            constructor
            · rintro ⟨a, b | b | b⟩
              · exact ⟨a, .inl b⟩
              · exact ⟨a, .inr (.inl b)⟩
              · exact ⟨a, .inr (.inr (.inr b))⟩
            · rintro ⟨a, b | b | rfl | b⟩
              · exact ⟨a, .inl b⟩
              · exact ⟨a, .inr (.inl b)⟩
              · exact absurd rfl e
              · exact ⟨a, .inr (.inr b)⟩
        · next q2 =>
          dsimp only
          rw [List.append_assoc]
          exact ⟨h, fun x => Iff.rfl⟩
    obtain ⟨h1, h2⟩ := key
    obtain ⟨h3, h4⟩ := set_pre (l := l) (v := (setD (v, o) d).1) (o := (setD (v, o) d).2) h1
    exact ⟨h3, fun x => (h4 x).trans (h2 x)⟩
/-- where nothing falls away, the set is right -/
theorem set_end {v cl : List Int} (h : PreS v cl) (hl : (cl.foldl setD (v, [])).2.length = cl.length) : cl.foldl setD (v, []) = (v, cl) ∧ NS v cl := by
  obtain ⟨h1, h2⟩ := set_all cl (v, []) (by simpa using hl)
  exact ⟨by simpa using h1, ⟨h.vok, h.srt, h.may, h2⟩⟩
def cntS (p : List Int × List Int) : Int := (p.2.length : Int) + p.1.sum
theorem sum_set : ∀ {v : List Int} {r : Nat} {n : Int}, r < v.length → (v.set r n).sum = v.sum + (n - v.getD r 0)
  | x :: v, 0, n, _ => by simp only [List.set_cons_zero, List.sum_cons, List.getD_cons_zero]; omega
  | x :: v, r + 1, n, h => by
    have := sum_set (v := v) (r := r) (n := n) (by simpa using h)
    simp only [List.set_cons_succ, List.sum_cons, List.getD_cons_succ]; omega
theorem cnt_step1 {p : List Int × List Int} {d : Int} (h : VOk p.1) (hd : MayD d) : cntS (stepD p d) ≤ cntS p + 1 ∧ VOk (stepD p d).1 := by
  have hr : dR d < p.1.length := by have := h.len; obtain ⟨a, b, c⟩ := hd; unfold dR; omega
  unfold stepD
  split
  · exact ⟨by omega, h⟩
  · split
    · next q =>
      refine ⟨?_, h.set (by have := hd.2.2; omega) (by omega)⟩
      unfold cntS; dsimp only
      rw [sum_set hr]; unfold flo at q; omega
    · refine ⟨?_, h⟩
      unfold cntS; simp only [List.length_append, List.length_cons, List.length_nil]; omega
end Go.Proofs.YtffmanidnlbjjaaGreat
set_option linter.unusedSimpArgs false
set_option linter.unusedVariables false
namespace Go.Proofs.YtffmanidnlbjjaaGreat
open Go.RowKit
/-- what a type's method is: its function, and whether it takes the pointer -/
def MT (P : Program) (T : TypeId) (name : String) (f : FuncId) (pr : Bool) : Prop := (P.info? T).bind (fun i => (i.methods.find? (·.name == name)).map fun m => (m.path.toList, m.func)) = some ([], some (f, pr))
theorem MT.get {P : Program} {T : TypeId} {name : String} {f : FuncId} {pr : Bool} (h : MT P T name f pr) : ∃ i m, P.info? T = some i ∧ i.methods.find? (·.name == name) = some m ∧ m.path.toList = [] ∧ m.func = some (f, pr) := by
  unfold MT at h
  cases hi : P.info? T with
  | none => rw [hi] at h; cases h
  | some i =>
    rw [hi] at h
    simp only [Option.bind_some] at h
    cases hm : i.methods.find? (·.name == name) with
    | none => rw [hm] at h; cases h
    | some m =>
      rw [hm] at h
      simp only [Option.map_some, Option.some.injEq, Prod.mk.injEq] at h
      exact ⟨i, m, rfl, hm, h.1, h.2⟩
theorem run_method_ptr {P : Program} {T E : TypeId} {name : String} {f : FuncId} {v : Value} {n : Nat} {w : World} (h : MT P T name f true) (hu : P.underlying T = some (.pointer E)) : (method (n + 1) T v name).run P w = .ok (f, v) w := by
  obtain ⟨i, m, h1, h2, h3, h4⟩ := h.get
  simp [method, typeInfo, h1, h2, h3, h4, follow, receiverAt, run_underlying hu, Place.get]
theorem run_method_val {P : Program} {T E : TypeId} {name : String} {f : FuncId} {p : Addr} {u : Value} {n : Nat} {w : World} (h : MT P T name f false) (hu : P.underlying T = some (.pointer E)) (hl : (loadVar E p).run P w = .ok u w) : (method (n + 1) T (.pointer (some p)) name).run P w = .ok (f, u) w := by
  obtain ⟨i, m, h1, h2, h3, h4⟩ := h.get
  have hp : m.path = #[] := Array.toList_eq_nil_iff.1 h3
  have hw : ∀ s : String, (Builtin.ssaWrapNilChk_ #[T] T #[.pointer (some p), strVal "", strVal s]).run P w = .ok (.pointer (some p)) w := fun s => rfl
  simp [method, typeInfo, h1, h2, h4, follow, receiverAt, run_underlying hu, Place.get, hp, hw, asAddr, hl]
section
variable {P : Program} {ops : Array Oper} {Q : Exit → Act → World → Prop} {rest : List Oper} {l : List Value} {w w0 : World} {d : Nat} {ty : TypeId} {pos : String} {aft : Array Edge} {S : Nat → Prop} {L L' : List Res}
theorem s_invoke {x : Operand} {name : String} {args : Array Operand} {tys : Array TypeId} {T : TypeId} {f : FuncId} {v recv : Value} (hv : opv l x = .iface T v) (hm : ∀ n, (method (n + 1) T v name).run P w = .ok (f, recv) w) (he : Enters P f) (h : CallR P f (#[recv] ++ args.map (opv l)) w fun v w'' => WL P ops Q rest (fr (l.set d v)) w'') :
    WL P ops Q (⟨some d, .call { callee := .invoke x name, args := args, argTypes := tys }, ty, pos, aft, none⟩ :: rest) (fr l) w :=
  wl_plain rfl fun K hK => by
    have he' := he (#[recv] ++ args.map (opv l)) w
    have hm' : (method (P.types.size + Made.depth) T v name).run P w = .ok (f, recv) w := by
      obtain ⟨n, hn⟩ : ∃ n, P.types.size + Made.depth = n + 1 := ⟨P.types.size + (Made.depth - 1), by first | rfl | (simp only [Made.depth]; done) | (simp only [Made.depth]; omega)⟩
      rw [hn]; exact hm n
    have h0 : (#[Value.iface T v] ++ args.map (opv l))[0]? = some (Value.iface T v) := by rw [Array.getElem?_append_left (by simp)]; rfl
    have h1 : (#[Value.iface T v] ++ args.map (opv l)).extract 1 (#[Value.iface T v] ++ args.map (opv l)).size = args.map (opv l) := by
      apply Array.ext'
      simp [Nat.add_comm 1]
      try exact List.take_of_length_le (by simp)
    have h2 : (args.map (opv l)).extract 0 args.size = args.map (opv l) := by
      apply Array.ext'
      simp
      try exact List.take_of_length_le (by simp)
    refine s_call_any (f := f) (args := #[recv] ++ args.map (opv l)) ?_ (h.mono fun v w1 q => ?_)
    · simp [execOp, resolve, hv, h0, h1, h2, hm', he', invoke, callMethod]
    · show K ((fr l).put (some d) v) w1
      rw [put_fr]; exact hK _ _ q
/-- the receiver is the pointer -/
theorem s_inv_ptr {x : Operand} {name : String} {args : Array Operand} {tys : Array TypeId} {T E : TypeId} {f : FuncId} {v : Value} (hmt : MT P T name f true) (hu : P.underlying T = some (.pointer E)) (he : Enters P f) (hv : opv l x = .iface T v := by rfl) (h : CallR P f (#[v] ++ args.map (opv l)) w fun v w'' => WL P ops Q rest (fr (l.set d v)) w'') :
    WL P ops Q (⟨some d, .call { callee := .invoke x name, args := args, argTypes := tys }, ty, pos, aft, none⟩ :: rest) (fr l) w :=
  s_invoke hv (fun n => run_method_ptr hmt hu) he h
/-- the receiver is what lies at the pointer -/
theorem s_inv_val {x : Operand} {name : String} {args : Array Operand} {tys : Array TypeId} {T E : TypeId} {dsc : TypeDesc} {f : FuncId} {g : Nat} {u : Value} {t : TypeId} {fz : Nat × Nat} (hmt : MT P T name f false) (hu : P.underlying T = some (.pointer E)) (hE : P.underlying E = some dsc) (he : Enters P f) (hd : isAggD dsc = false := by rfl) (hv : opv l x = .iface T (.pointer (some ⟨g, 0, none⟩)) := by rfl)
    (hS : St S w0 w L) (hg : Has L (.obj g (.cells #[u] t fz)) := by repeat (first | exact Has.head | apply Has.tail)) (h : CallR P f (#[u] ++ args.map (opv l)) w fun v w'' => WL P ops Q rest (fr (l.set d v)) w'') :
    WL P ops Q (⟨some d, .call { callee := .invoke x name, args := args, argTypes := tys }, ty, pos, aft, none⟩ :: rest) (fr l) w :=
  s_invoke hv (fun n => run_method_val hmt hu (obj_loads_one hE hd hS hg rfl)) he h
theorem s_iface {x : Operand} {T : TypeId} {dsc : TypeDesc} (hu : P.underlying T = some dsc) (hd : (match dsc with | .interface _ => false | _ => true) = true := by rfl) : Go1 P l w ⟨some d, .makeInterface T x, ty, pos, aft, none⟩ (.iface T (opv l x)) := by
  unfold Go1
  cases dsc <;> simp_all [execOp, Instr.makeInterface, run_underlying hu]
theorem s_assert {x : Operand} {xT T : TypeId} {dsc : TypeDesc} {v : Value} (hu : P.underlying T = some dsc) (hd : (match dsc with | .interface _ => false | _ => true) = true := by rfl) (hx : opv l x = .iface T v := by rfl) : Go1 P l w ⟨some d, .typeAssert x xT T false, ty, pos, aft, none⟩ v := by
  unfold Go1
  cases dsc <;> simp_all [execOp, Instr.typeAssert, run_underlying hu]
theorem s_cap {x : Operand} {T e : TypeId} {A : Option Addr} {n c : Nat} (hT : P.underlying T = some (.slice e)) (hx : opv l x = .slice A n c := by rfl) : Go1 P l w ⟨some d, .call { callee := .builtin .cap, args := #[x], argTypes := #[T] }, ty, pos, aft, none⟩ (.int .i64 c) :=
  (by unfold Go1; simp [execOp, resolve, invoke, builtin, hx, Builtin.cap_, run_underlying hT, goInt])
/-- an append of zeros to nothing: a new row -/
theorem run_append_zs {t u ty e : TypeId} {sz by' : Nat} {z : Value} (ht : P.underlying t = some (.slice e)) (hu : P.underlying u = some (.int .i64)) (hi : TI P e sz by' z) (hsz : 0 < sz) (hzs : z.cells.size = sz) {n : Nat} (hn : 0 < n) (h63 : n ≤ maxLen) (hby : n * by' ≤ 140737488355328) :
    ∃ g c' w', (Builtin.append_ #[t, u] ty #[.slice none 0 0, .int .i64 (n : Int)]).run P w = .ok (.slice (some ⟨g, 0, none⟩) n c') w' ∧ n ≤ c' ∧ w'.ownsRow 0 e sz (.slice (some ⟨g, 0, none⟩) 0 c') 0 [] ∧ Ext w w' ∧ w.heap.size ≤ g := by
  obtain ⟨i, hi, rfl, rfl, hz⟩ := hi
  have hwr : IntKind.i64.wrap (n : Int) = (n : Int) := wr_i64 (by omega) (by simp only [maxLen] at h63; omega)
  have hge := grownCap_ge w n 0 e
  have hcm : grownCap w n 0 e ≤ maxLen := grownCap_le_maxLen w n 0 e h63
  have h48' : ¬ (281474976710656 < Builtin.nextslicecap n 0 * i.bytes) := by have := growslice_fits (show 0 < n by omega) hby; omega
  have hb : ¬ ((281474976710656 : Int) < (n : Int) * (i.bytes : Int)) := by
    have : ((n * i.bytes : Nat) : Int) ≤ 140737488355328 := by omega
    rw [Int.natCast_mul] at this; omega
  have h64 : ¬ ((9223372036854775807 : Int) < (n : Int)) := by simp only [maxLen] at h63; omega
  have h0 : ¬ ((n : Int) < 0) := by omega
  have hn0 : ¬ n = 0 := by omega
  have hs' : ¬ i.size = 0 := by omega
  refine ⟨w.heap.size, grownCap w n 0 e, w.drew.alloc (.cells (Builtin.zeroCells z.cells n ++ Builtin.zeroCells z.cells (grownCap w n 0 e - n)) e), ?_, hge, ⟨by simp, .inr ⟨w.heap.size, _, _, rfl, Nat.zero_le _, heap_alloc_new w.drew _, Nat.zero_le _, hcm, ?_, by simp⟩⟩, (Ext.drew w).trans (Ext.alloc _ _), Nat.le_refl _⟩
  · simp [Builtin.append_, run_underlying ht, run_underlying hu, sizeOf, typeInfo, zeroValue, hi, hz, Builtin.lenOf, hn0, h64, h48', hb, h0, hs', asInt, asIntOf, hwr, Question.forced, Builtin.firstCells, newRow, grownCap]
    intro hh; exact absurd hh (Nat.mul_ne_zero hn0 hs')
  · rw [Array.size_append, size_zeroCells, size_zeroCells, hzs, ← Nat.add_mul]; congr 1; omega
theorem m_append_zero {T U e : TypeId} {x y : Operand} {sz by' n : Nat} {z : Value} (hT : P.underlying T = some (.slice e)) (hU : P.underlying U = some (.int .i64)) (hi : TI P e sz by' z) (hsz : 0 < sz := by decide) (hzs : z.cells.size = sz := by decide) (hx : opv l x = .slice none 0 0 := by rfl) (hy : opv l y = .int .i64 (n : Int) := by rfl) (hn : 0 < n := by omega) (h63 : n ≤ maxLen := by first | omega | (simp only [maxLen]; omega)) (hby : n * by' ≤ 140737488355328 := by omega) (hS : St S w0 w L)
    (h : ∀ w' A' c', n ≤ c' → St S w0 w' (.vec A' c' e sz 0 [] :: L) → WL P ops Q rest (fr (l.set d (.slice A' n c'))) w') : WL P ops Q (⟨some d, .call { callee := .builtin .append, args := #[x, y], argTypes := #[T, U] }, ty, pos, aft, none⟩ :: rest) (fr l) w := by
  obtain ⟨g, c', w', hrun, hc, hown, hE, hg⟩ := run_append_zs (w := w) (t := T) (u := U) (ty := ty) hT hU hi hsz hzs hn h63 hby
  refine s_val (v := .slice (some ⟨g, 0, none⟩) n c') (w' := w') (by simp [execOp, resolve, invoke, builtin, hx, hy, hrun]) (h w' _ c' hc ?_)
  exact hS.add (r := .vec (some ⟨g, 0, none⟩) c' e sz 0 []) hE hown (by
    intro k hk
    rcases hk with hk | hk
    · simp [Res.own] at hk; omega
    · simp [Res.reads] at hk)
/-- the first part of a slice, by its value alone -/
theorem m_slice_lo0 {T e : TypeId} {x : Operand} {A : Option Addr} {n c sz by' hi : Nat} {z : Value} {hi' : Option Operand} (hT : P.underlying T = some (.slice e)) (hi0 : TI P e sz by' z) (hx : opv l x = .slice A n c := by rfl)
    (hhi : (match hi' with | none => hi = n ∧ (none : Option Operand) = none | some q => ∃ k, opv l q = .int k (hi : Int))) (h2 : hi ≤ c := by omega) : Go1 P l w ⟨some d, .slice T x none hi' none, ty, pos, aft, none⟩ (.slice A hi c) := by
  have h := m_slice (w := w) (d := d) (ty := ty) (pos := pos) (aft := aft) (lo := 0) (lo' := none) (mx' := none) (m := c) hT hi0 hx rfl hhi rfl (by omega) h2 (Nat.le_refl _)
  have e : (if c = 0 then A else A.map (·.add (0 * sz))) = A := by
    split
    · rfl
    · cases A with
      | none => rfl
      | some a => simp [Addr.add]
  rw [e] at h
  exact h
/-- the first part of what is owned -/
theorem St.vec_cut {A : Option Addr} {c : Nat} {e : TypeId} {sz n : Nat} {xs : List Value} (k : Nat) (h : St S w0 w L) (hk : k ≤ n) (hu : Upd L (.vec A c e sz n xs) (.vec A c e sz k (xs.take (k * sz))) L') : St S w0 w L' := by
  refine h.weaken hu ?_ (fun g hg => hg) (fun g hg => by simp [Res.reads] at hg)
  have hv := h.holds _ hu.mem
  obtain ⟨h1, h2⟩ := hv
  refine ⟨by rw [List.length_take, h1]; exact Nat.min_eq_left (Nat.mul_le_mul_right _ hk), ?_⟩
  rcases h2 with ⟨h3, h4⟩ | ⟨g, cap, cur, h3, h4, h5, h6, h7, h8, h9⟩
  · refine .inl ⟨?_, by omega⟩
    simp only [Value.slice.injEq] at h3 ⊢
    exact ⟨h3.1, by omega, h3.2.2⟩
  · refine .inr ⟨g, cap, cur, ?_, h4, h5, by omega, h7, h8, ?_⟩
    · simp only [Value.slice.injEq] at h3 ⊢
      first | exact ⟨h3.1, rfl, h3.2.2⟩ | exact ⟨h3.1, trivial, h3.2.2⟩
    · rw [← h9, List.take_take, Nat.min_eq_left (Nat.mul_le_mul_right _ hk)]
end
end Go.Proofs.YtffmanidnlbjjaaGreat
set_option linter.unusedSimpArgs false
set_option linter.unusedVariables false
set_option maxHeartbeats 2000000
set_option maxRecDepth 100000
namespace Go.Proofs.YtffmanidnlbjjaaGreat
open Go.RowKit

theorem mt_len : MT Tryz.prog 154 "Len" 104 false := by unfold MT; kernel_rfl
theorem mt_less : MT Tryz.prog 154 "Less" 277 false := by unfold MT; kernel_rfl
theorem mt_swap : MT Tryz.prog 154 "Swap" 280 false := by unfold MT; kernel_rfl
theorem mt_push : MT Tryz.prog 154 "Push" 279 true := by unfold MT; kernel_rfl
theorem mt_pop : MT Tryz.prog 154 "Pop" 278 true := by unfold MT; kernel_rfl
theorem up_par (j : Nat) (h : j < 4611686018427387904) : IntKind.i64.wrap (((j : Int) - 1).tdiv 2) = (((j - 1) / 2 : Nat) : Int) := by
  rcases Nat.eq_zero_or_pos j with rfl | h0
  · decide
  · rw [show (j : Int) - 1 = ((j - 1 : Nat) : Int) by omega]; exact quo_i64 (r := j - 1) (p := 2) (by omega)

theorem c_wLen (A : Option Addr) (n c : Nat)  (w0 : World) :
    CallR Tryz.prog 104 #[.slice A n c] w0 fun v w' => v = .int .i64 (n : Int) ∧ Ext w0 w' := by
 have hS : St NoB w0 w0 [] := St.start w0
 refine c_enter (l := [.slice A n c, undef, undef, undef, undef]) Tryz.func104 rfl (by simp only [Tryz.ntmps104, List.size_toArray, List.length_cons, List.length_nil, Nat.reduceAdd, Nat.reduceSub, Array.replicate_succ, Array.replicate_zero, List.push_toArray, List.append_toArray, List.nil_append, List.cons_append]) ?_
 refine x_seq fun K1 hK1 => ?_
 refine x_region ?_
 refine s_go (s_assign) ?_
 try simp only [opv, n1, n2, n3, n4, Value.cells]
 refine x_nil ?_
 refine hK1 _ _ ?_
 refine x_seq fun K2 hK2 => ?_
 refine x_region ?_
 refine s_go (s_move) ?_
 try simp only [opv, n1, n2, n3, n4, Value.cells]
 refine s_go (s_len_sl Tryz.underlying155) ?_
 try simp only [opv, n1, n2, n3, n4, Value.cells]
 refine s_go (s_assign) ?_
 try simp only [opv, n1, n2, n3, n4, Value.cells]
 refine x_nil ?_
 refine hK2 _ _ ?_
 refine x_ret ?_
 refine r_tmp rfl ?_
 exact ⟨rfl, hS.ext_of⟩
theorem c_wLess (w0 : World) (A : Option Addr) (n c : Nat) (l : List Int) (hr : Rd w0 A 1 n (List.map (Value.int .u64) l)) (hl : l.length = n) (hn : n ≤ 4000000000) (i j : Nat) (hi : i < n) (hj : j < n)  :
    CallR Tryz.prog 277 #[.slice A n c, .int .i64 (i : Int), .int .i64 (j : Int)] w0 fun v w' => v = .bool (decide (l.getD i 0 < l.getD j 0)) ∧ Ext w0 w' := by
 have hS := St.rd1 (S := NoB) hr
 refine c_enter (l := [.slice A n c, .int .i64 (i : Int), .int .i64 (j : Int), undef, undef, undef, undef, undef, undef, undef, undef, undef, undef, undef, undef, undef]) Tryz.func277 rfl (by simp only [Tryz.ntmps277, List.size_toArray, List.length_cons, List.length_nil, Nat.reduceAdd, Nat.reduceSub, Array.replicate_succ, Array.replicate_zero, List.push_toArray, List.append_toArray, List.nil_append, List.cons_append]) ?_
 refine x_seq fun K1 hK1 => ?_
 refine x_region ?_
 refine s_go (s_assign) ?_
 try simp only [opv, n1, n2, n3, n4, Value.cells]
 refine x_nil ?_
 refine hK1 _ _ ?_
 refine x_seq fun K2 hK2 => ?_
 refine x_quiet (by kernel_rfl) (by kernel_rfl) hS ?_
 refine q_go (fun w hS => s_move) ?_
 try simp only [opv, n1, n2, n3, n4, Value.cells]
 refine q_go (fun w hS => s_move) ?_
 try simp only [opv, n1, n2, n3, n4, Value.cells]
 first | refine q_go (fun w hS => m_indexAddr_rd Tryz.underlying155 ti84 (hS := hS)) ?_ | refine q_go (fun w hS => m_indexAddr_vec Tryz.underlying155 ti84 (hS := hS)) ?_
 try simp only [opv, n1, n2, n3, n4, Value.cells, Nat.mul_one, Nat.zero_add, Int.toNat_natCast, Int.reduceToNat]
 first | refine q_go (fun w hS => m_load_obj Tryz.underlying84 (hS := hS)) ?_ | refine q_go (fun w hS => m_load_bx Tryz.underlying84 (hS := hS)) ?_ | refine q_go (fun w hS => m_load_rd Tryz.underlying84 (hS := hS)) ?_ | refine q_go (fun w hS => m_load_vec Tryz.underlying84 (hS := hS)) ?_
 try simp only [opv, n1, n2, n3, n4, Value.cells, List.getElem_toArray, List.getElem_cons_zero, List.getElem_cons_succ]
 refine q_go (fun w hS => s_move) ?_
 try simp only [opv, n1, n2, n3, n4, Value.cells]
 refine q_go (fun w hS => s_move) ?_
 try simp only [opv, n1, n2, n3, n4, Value.cells]
 first | refine q_go (fun w hS => m_indexAddr_rd Tryz.underlying155 ti84 (hS := hS)) ?_ | refine q_go (fun w hS => m_indexAddr_vec Tryz.underlying155 ti84 (hS := hS)) ?_
 try simp only [opv, n1, n2, n3, n4, Value.cells, Nat.mul_one, Nat.zero_add, Int.toNat_natCast, Int.reduceToNat]
 first | refine q_go (fun w hS => m_load_obj Tryz.underlying84 (hS := hS)) ?_ | refine q_go (fun w hS => m_load_bx Tryz.underlying84 (hS := hS)) ?_ | refine q_go (fun w hS => m_load_rd Tryz.underlying84 (hS := hS)) ?_ | refine q_go (fun w hS => m_load_vec Tryz.underlying84 (hS := hS)) ?_
 try simp only [opv, n1, n2, n3, n4, Value.cells, List.getElem_toArray, List.getElem_cons_zero, List.getElem_cons_succ]
 refine q_go (fun w hS => s_lss) ?_
 try simp only [opv, n1, n2, n3, n4, Value.cells]
 refine q_go (fun w hS => s_assign) ?_
 try simp only [opv, n1, n2, n3, n4, Value.cells]
 clear hS
 refine q_nil fun w1 hS => ?_
 refine hK2 _ _ ?_
 refine x_ret ?_
 refine r_tmp rfl ?_
 exact ⟨rfl, hS.ext_of⟩
theorem c_wSwap (w0 : World) (A : Option Addr) (c n : Nat) (l : List Int) (hl : l.length = n) (i j : Nat) (hi : i < n) (hj : j < n) (hM : St (OwnB [.vec A c 84 1 n (List.map (Value.int .u64) l)]) w0 w0 [.vec A c 84 1 n (List.map (Value.int .u64) l)])  :
    CallR Tryz.prog 280 #[.slice A n c, .int .i64 (i : Int), .int .i64 (j : Int)] w0 fun v w' => v = .tuple #[] ∧ St (OwnB [.vec A c 84 1 n (List.map (Value.int .u64) l)]) w0 w' [.vec A c 84 1 n (List.map (Value.int .u64) (swp l i j))] := by
 have hS := hM
 refine c_enter (l := [.slice A n c, .int .i64 (i : Int), .int .i64 (j : Int), undef, undef, undef, undef, undef, undef, undef, undef, undef, undef, undef, undef, undef, undef, undef, undef, undef]) Tryz.func280 rfl (by simp only [Tryz.ntmps280, List.size_toArray, List.length_cons, List.length_nil, Nat.reduceAdd, Nat.reduceSub, Array.replicate_succ, Array.replicate_zero, List.push_toArray, List.append_toArray, List.nil_append, List.cons_append]) ?_
 refine x_mixed_c (Lc := []) [] 0 [6, 7, 8, 9, 10, 11, 12, 13, 14, 15, 16, 17, 18, 19] (fun f w => St (OwnB [.vec A c 84 1 n (List.map (Value.int .u64) l)]) w0 w [.vec A c 84 1 n (List.map (Value.int .u64) ((l.set i (l.getD j 0)).set j (l.getD i 0)))]) (by kernel_rfl) (by kernel_rfl) (by kernel_rfl) (by decide) hS (fun w1 hS => ?mixpre1) ?mixrest1
 case mixpre1 =>
  refine p_nil ?_
  simp only [List.length_cons, List.length_nil, Nat.reduceAdd, Nat.reduceSub]
  refine any_go (i := 0) (by rfl) (by decide +kernel) (by decide +kernel) noLate_nil (go_yields w_none (fun w hS => s_move)) ?_
  try simp only [opv, n1, n2, n3, n4, Value.cells]
  refine any_go (i := 1) (by rfl) (by decide +kernel) (by decide +kernel) noLate_nil (go_yields w_none (fun w hS => s_move)) ?_
  try simp only [opv, n1, n2, n3, n4, Value.cells]
  refine any_go (i := 2) (by rfl) (by decide +kernel) (by decide +kernel) noLate_nil (go_yields w_none (fun w hS => s_move)) ?_
  try simp only [opv, n1, n2, n3, n4, Value.cells]
  refine any_go (i := 3) (by rfl) (by decide +kernel) (by decide +kernel) noLate_nil (go_yields w_none (fun w hS => s_move)) ?_
  try simp only [opv, n1, n2, n3, n4, Value.cells]
  refine any_go (i := 4) (by rfl) (by decide +kernel) (by decide +kernel) noLate_nil (go_yields w_none (fun w hS => s_move)) ?_
  try simp only [opv, n1, n2, n3, n4, Value.cells]
  refine any_go (i := 5) (by rfl) (by decide +kernel) (by decide +kernel) noLate_nil (go_yields w_none (fun w hS => s_move)) ?_
  try simp only [opv, n1, n2, n3, n4, Value.cells]
  refine any_go (i := 8) (by rfl) (by decide +kernel) (by decide +kernel) noLate_nil (go_yields w_none (fun w hS => s_move)) ?_
  try simp only [opv, n1, n2, n3, n4, Value.cells]
  refine any_go (i := 9) (by rfl) (by decide +kernel) (by decide +kernel) noLate_nil (go_yields w_none (fun w hS => s_move)) ?_
  try simp only [opv, n1, n2, n3, n4, Value.cells]
  refine any_step [6, 10] (by kernel_rfl) (by decide) (fun w2 hE => ⟨fun _ => (hS.ext hE).sel (by repeat (first | exact Sel.nil | (refine Sel.cons (by repeat (first | exact Del.head | apply Del.tail)) ?_))), ?_⟩)
  replace hS := hS.ext hE
  intro i hi
  simp only [List.mem_cons, List.not_mem_nil, or_false] at hi
  rcases hi with rfl | rfl
  ·
   refine any_op (by rfl) ?_
   first | refine s_go (m_indexAddr_rd Tryz.underlying155 ti84 (hS := hS)) ?_ | refine s_go (m_indexAddr_vec Tryz.underlying155 ti84 (hS := hS)) ?_
   try simp only [opv, n1, n2, n3, n4, Value.cells, Nat.mul_one, Nat.zero_add, Int.toNat_natCast, Int.reduceToNat]
   refine x_nil ?_
   refine any_step [7, 10] (by kernel_rfl) (by decide) (fun w3 hE => ⟨fun _ => (hS.ext hE).sel (by repeat (first | exact Sel.nil | (refine Sel.cons (by repeat (first | exact Del.head | apply Del.tail)) ?_))), ?_⟩)
   replace hS := hS.ext hE
   intro i hi
   simp only [List.mem_cons, List.not_mem_nil, or_false] at hi
   rcases hi with rfl | rfl
   ·
    refine any_op (by rfl) ?_
    first | refine s_go (m_load_obj Tryz.underlying84 (hS := hS)) ?_ | refine s_go (m_load_bx Tryz.underlying84 (hS := hS)) ?_ | refine s_go (m_load_rd Tryz.underlying84 (hS := hS)) ?_ | refine s_go (m_load_vec Tryz.underlying84 (hS := hS)) ?_
    try simp only [opv, n1, n2, n3, n4, Value.cells, List.getElem_toArray, List.getElem_cons_zero, List.getElem_cons_succ]
    refine x_nil ?_
    refine any_step [10] (by kernel_rfl) (by decide) (fun w4 hE => ⟨fun _ => (hS.ext hE).sel (by repeat (first | exact Sel.nil | (refine Sel.cons (by repeat (first | exact Del.head | apply Del.tail)) ?_))), ?_⟩)
    replace hS := hS.ext hE
    intro i hi
    simp only [List.mem_cons, List.not_mem_nil, or_false] at hi
    subst hi
    ·
     refine any_op (by rfl) ?_
     first | refine s_go (m_indexAddr_rd Tryz.underlying155 ti84 (hS := hS)) ?_ | refine s_go (m_indexAddr_vec Tryz.underlying155 ti84 (hS := hS)) ?_
     try simp only [opv, n1, n2, n3, n4, Value.cells, Nat.mul_one, Nat.zero_add, Int.toNat_natCast, Int.reduceToNat]
     refine x_nil ?_
     refine any_step [11] (by kernel_rfl) (by decide) (fun w5 hE => ⟨fun _ => (hS.ext hE).sel (by repeat (first | exact Sel.nil | (refine Sel.cons (by repeat (first | exact Del.head | apply Del.tail)) ?_))), ?_⟩)
     replace hS := hS.ext hE
     intro i hi
     simp only [List.mem_cons, List.not_mem_nil, or_false] at hi
     subst hi
     ·
      refine any_op (by rfl) ?_
      first | refine s_go (m_load_obj Tryz.underlying84 (hS := hS)) ?_ | refine s_go (m_load_bx Tryz.underlying84 (hS := hS)) ?_ | refine s_go (m_load_rd Tryz.underlying84 (hS := hS)) ?_ | refine s_go (m_load_vec Tryz.underlying84 (hS := hS)) ?_
      try simp only [opv, n1, n2, n3, n4, Value.cells, List.getElem_toArray, List.getElem_cons_zero, List.getElem_cons_succ]
      refine x_nil ?_
      refine any_step [12] (by kernel_rfl) (by decide) (fun w6 hE => ⟨fun _ => (hS.ext hE).sel (by repeat (first | exact Sel.nil | (refine Sel.cons (by repeat (first | exact Del.head | apply Del.tail)) ?_))), ?_⟩)
      replace hS := hS.ext hE
      intro i hi
      simp only [List.mem_cons, List.not_mem_nil, or_false] at hi
      subst hi
      ·
       refine any_op (by rfl) ?_
       first | refine s_go (m_indexAddr_rd Tryz.underlying155 ti84 (hS := hS)) ?_ | refine s_go (m_indexAddr_vec Tryz.underlying155 ti84 (hS := hS)) ?_
       try simp only [opv, n1, n2, n3, n4, Value.cells, Nat.mul_one, Nat.zero_add, Int.toNat_natCast, Int.reduceToNat]
       refine x_nil ?_
       refine any_step [13] (by kernel_rfl) (by decide) (fun w7 hE => ⟨fun _ => (hS.ext hE).sel (by repeat (first | exact Sel.nil | (refine Sel.cons (by repeat (first | exact Del.head | apply Del.tail)) ?_))), ?_⟩)
       replace hS := hS.ext hE
       intro i hi
       simp only [List.mem_cons, List.not_mem_nil, or_false] at hi
       subst hi
       ·
        refine any_op (by rfl) ?_
        first | refine m_store_obj ti84 (hS := hS) (h := fun w8 hS => ?_) | refine m_store_vec ti84 (hS := hS) (h := fun w8 hS => ?_)
        try simp only [opv, n1, n2, n3, n4, Value.cells, Array.toArray_toList] at hS ⊢
        refine x_nil ?_
        refine any_step [14] (by kernel_rfl) (by decide) (fun w9 hE => ⟨fun _ => (hS.ext hE).sel (by repeat (first | exact Sel.nil | (refine Sel.cons (by repeat (first | exact Del.head | apply Del.tail)) ?_))), ?_⟩)
        replace hS := hS.ext hE
        intro i hi
        simp only [List.mem_cons, List.not_mem_nil, or_false] at hi
        subst hi
        ·
         refine any_op (by rfl) ?_
         first | refine s_go (m_indexAddr_rd Tryz.underlying155 ti84 (hS := hS)) ?_ | refine s_go (m_indexAddr_vec Tryz.underlying155 ti84 (hS := hS)) ?_
         try simp only [opv, n1, n2, n3, n4, Value.cells, Nat.mul_one, Nat.zero_add, Int.toNat_natCast, Int.reduceToNat]
         refine x_nil ?_
         refine any_step [15] (by kernel_rfl) (by decide) (fun w10 hE => ⟨fun _ => (hS.ext hE).sel (by repeat (first | exact Sel.nil | (refine Sel.cons (by repeat (first | exact Del.head | apply Del.tail)) ?_))), ?_⟩)
         replace hS := hS.ext hE
         intro i hi
         simp only [List.mem_cons, List.not_mem_nil, or_false] at hi
         subst hi
         ·
          refine any_op (by rfl) ?_
          first | refine m_store_obj ti84 (hS := hS) (h := fun w11 hS => ?_) | refine m_store_vec ti84 (hS := hS) (h := fun w11 hS => ?_)
          try simp only [opv, n1, n2, n3, n4, Value.cells, Array.toArray_toList] at hS ⊢
          refine x_nil ?_
          refine any_nil (by kernel_rfl) (fun w12 hE => ?_)
          replace hS := hS.ext hE
          refine ⟨fun _ => hS.sel (by repeat (first | exact Sel.nil | (refine Sel.cons (by repeat (first | exact Del.head | apply Del.tail)) ?_))), ?_⟩
          refine mix_leaf (by simp only [clob, List.foldl, n1, n2, n3, n4]) ?_
          try simp only [n1, n2]
          exact hS.sel (by repeat (first | exact Sel.nil | (refine Sel.cons (by repeat (first | exact Del.head | apply Del.tail)) ?_)))
   ·
    refine any_op (by rfl) ?_
    first | refine s_go (m_indexAddr_rd Tryz.underlying155 ti84 (hS := hS)) ?_ | refine s_go (m_indexAddr_vec Tryz.underlying155 ti84 (hS := hS)) ?_
    try simp only [opv, n1, n2, n3, n4, Value.cells, Nat.mul_one, Nat.zero_add, Int.toNat_natCast, Int.reduceToNat]
    refine x_nil ?_
    refine any_step [7, 11] (by kernel_rfl) (by decide) (fun w13 hE => ⟨fun _ => (hS.ext hE).sel (by repeat (first | exact Sel.nil | (refine Sel.cons (by repeat (first | exact Del.head | apply Del.tail)) ?_))), ?_⟩)
    replace hS := hS.ext hE
    intro i hi
    simp only [List.mem_cons, List.not_mem_nil, or_false] at hi
    rcases hi with rfl | rfl
    ·
     refine any_op (by rfl) ?_
     first | refine s_go (m_load_obj Tryz.underlying84 (hS := hS)) ?_ | refine s_go (m_load_bx Tryz.underlying84 (hS := hS)) ?_ | refine s_go (m_load_rd Tryz.underlying84 (hS := hS)) ?_ | refine s_go (m_load_vec Tryz.underlying84 (hS := hS)) ?_
     try simp only [opv, n1, n2, n3, n4, Value.cells, List.getElem_toArray, List.getElem_cons_zero, List.getElem_cons_succ]
     refine x_nil ?_
     refine any_step [11] (by kernel_rfl) (by decide) (fun w14 hE => ⟨fun _ => (hS.ext hE).sel (by repeat (first | exact Sel.nil | (refine Sel.cons (by repeat (first | exact Del.head | apply Del.tail)) ?_))), ?_⟩)
     replace hS := hS.ext hE
     intro i hi
     simp only [List.mem_cons, List.not_mem_nil, or_false] at hi
     subst hi
     ·
      refine any_op (by rfl) ?_
      first | refine s_go (m_load_obj Tryz.underlying84 (hS := hS)) ?_ | refine s_go (m_load_bx Tryz.underlying84 (hS := hS)) ?_ | refine s_go (m_load_rd Tryz.underlying84 (hS := hS)) ?_ | refine s_go (m_load_vec Tryz.underlying84 (hS := hS)) ?_
      try simp only [opv, n1, n2, n3, n4, Value.cells, List.getElem_toArray, List.getElem_cons_zero, List.getElem_cons_succ]
      refine x_nil ?_
      refine any_step [12] (by kernel_rfl) (by decide) (fun w15 hE => ⟨fun _ => (hS.ext hE).sel (by repeat (first | exact Sel.nil | (refine Sel.cons (by repeat (first | exact Del.head | apply Del.tail)) ?_))), ?_⟩)
      replace hS := hS.ext hE
      intro i hi
      simp only [List.mem_cons, List.not_mem_nil, or_false] at hi
      subst hi
      ·
       refine any_op (by rfl) ?_
       first | refine s_go (m_indexAddr_rd Tryz.underlying155 ti84 (hS := hS)) ?_ | refine s_go (m_indexAddr_vec Tryz.underlying155 ti84 (hS := hS)) ?_
       try simp only [opv, n1, n2, n3, n4, Value.cells, Nat.mul_one, Nat.zero_add, Int.toNat_natCast, Int.reduceToNat]
       refine x_nil ?_
       refine any_step [13] (by kernel_rfl) (by decide) (fun w16 hE => ⟨fun _ => (hS.ext hE).sel (by repeat (first | exact Sel.nil | (refine Sel.cons (by repeat (first | exact Del.head | apply Del.tail)) ?_))), ?_⟩)
       replace hS := hS.ext hE
       intro i hi
       simp only [List.mem_cons, List.not_mem_nil, or_false] at hi
       subst hi
       ·
        refine any_op (by rfl) ?_
        first | refine m_store_obj ti84 (hS := hS) (h := fun w17 hS => ?_) | refine m_store_vec ti84 (hS := hS) (h := fun w17 hS => ?_)
        try simp only [opv, n1, n2, n3, n4, Value.cells, Array.toArray_toList] at hS ⊢
        refine x_nil ?_
        refine any_step [14] (by kernel_rfl) (by decide) (fun w18 hE => ⟨fun _ => (hS.ext hE).sel (by repeat (first | exact Sel.nil | (refine Sel.cons (by repeat (first | exact Del.head | apply Del.tail)) ?_))), ?_⟩)
        replace hS := hS.ext hE
        intro i hi
        simp only [List.mem_cons, List.not_mem_nil, or_false] at hi
        subst hi
        ·
         refine any_op (by rfl) ?_
         first | refine s_go (m_indexAddr_rd Tryz.underlying155 ti84 (hS := hS)) ?_ | refine s_go (m_indexAddr_vec Tryz.underlying155 ti84 (hS := hS)) ?_
         try simp only [opv, n1, n2, n3, n4, Value.cells, Nat.mul_one, Nat.zero_add, Int.toNat_natCast, Int.reduceToNat]
         refine x_nil ?_
         refine any_step [15] (by kernel_rfl) (by decide) (fun w19 hE => ⟨fun _ => (hS.ext hE).sel (by repeat (first | exact Sel.nil | (refine Sel.cons (by repeat (first | exact Del.head | apply Del.tail)) ?_))), ?_⟩)
         replace hS := hS.ext hE
         intro i hi
         simp only [List.mem_cons, List.not_mem_nil, or_false] at hi
         subst hi
         ·
          refine any_op (by rfl) ?_
          first | refine m_store_obj ti84 (hS := hS) (h := fun w20 hS => ?_) | refine m_store_vec ti84 (hS := hS) (h := fun w20 hS => ?_)
          try simp only [opv, n1, n2, n3, n4, Value.cells, Array.toArray_toList] at hS ⊢
          refine x_nil ?_
          refine any_nil (by kernel_rfl) (fun w21 hE => ?_)
          replace hS := hS.ext hE
          refine ⟨fun _ => hS.sel (by repeat (first | exact Sel.nil | (refine Sel.cons (by repeat (first | exact Del.head | apply Del.tail)) ?_))), ?_⟩
          refine mix_leaf (by simp only [clob, List.foldl, n1, n2, n3, n4]) ?_
          try simp only [n1, n2]
          exact hS.sel (by repeat (first | exact Sel.nil | (refine Sel.cons (by repeat (first | exact Del.head | apply Del.tail)) ?_)))
    ·
     refine any_op (by rfl) ?_
     first | refine s_go (m_load_obj Tryz.underlying84 (hS := hS)) ?_ | refine s_go (m_load_bx Tryz.underlying84 (hS := hS)) ?_ | refine s_go (m_load_rd Tryz.underlying84 (hS := hS)) ?_ | refine s_go (m_load_vec Tryz.underlying84 (hS := hS)) ?_
     try simp only [opv, n1, n2, n3, n4, Value.cells, List.getElem_toArray, List.getElem_cons_zero, List.getElem_cons_succ]
     refine x_nil ?_
     refine any_step [7] (by kernel_rfl) (by decide) (fun w22 hE => ⟨fun _ => (hS.ext hE).sel (by repeat (first | exact Sel.nil | (refine Sel.cons (by repeat (first | exact Del.head | apply Del.tail)) ?_))), ?_⟩)
     replace hS := hS.ext hE
     intro i hi
     simp only [List.mem_cons, List.not_mem_nil, or_false] at hi
     subst hi
     ·
      refine any_op (by rfl) ?_
      first | refine s_go (m_load_obj Tryz.underlying84 (hS := hS)) ?_ | refine s_go (m_load_bx Tryz.underlying84 (hS := hS)) ?_ | refine s_go (m_load_rd Tryz.underlying84 (hS := hS)) ?_ | refine s_go (m_load_vec Tryz.underlying84 (hS := hS)) ?_
      try simp only [opv, n1, n2, n3, n4, Value.cells, List.getElem_toArray, List.getElem_cons_zero, List.getElem_cons_succ]
      refine x_nil ?_
      refine any_step [12] (by kernel_rfl) (by decide) (fun w23 hE => ⟨fun _ => (hS.ext hE).sel (by repeat (first | exact Sel.nil | (refine Sel.cons (by repeat (first | exact Del.head | apply Del.tail)) ?_))), ?_⟩)
      replace hS := hS.ext hE
      intro i hi
      simp only [List.mem_cons, List.not_mem_nil, or_false] at hi
      subst hi
      ·
       refine any_op (by rfl) ?_
       first | refine s_go (m_indexAddr_rd Tryz.underlying155 ti84 (hS := hS)) ?_ | refine s_go (m_indexAddr_vec Tryz.underlying155 ti84 (hS := hS)) ?_
       try simp only [opv, n1, n2, n3, n4, Value.cells, Nat.mul_one, Nat.zero_add, Int.toNat_natCast, Int.reduceToNat]
       refine x_nil ?_
       refine any_step [13] (by kernel_rfl) (by decide) (fun w24 hE => ⟨fun _ => (hS.ext hE).sel (by repeat (first | exact Sel.nil | (refine Sel.cons (by repeat (first | exact Del.head | apply Del.tail)) ?_))), ?_⟩)
       replace hS := hS.ext hE
       intro i hi
       simp only [List.mem_cons, List.not_mem_nil, or_false] at hi
       subst hi
       ·
        refine any_op (by rfl) ?_
        first | refine m_store_obj ti84 (hS := hS) (h := fun w25 hS => ?_) | refine m_store_vec ti84 (hS := hS) (h := fun w25 hS => ?_)
        try simp only [opv, n1, n2, n3, n4, Value.cells, Array.toArray_toList] at hS ⊢
        refine x_nil ?_
        refine any_step [14] (by kernel_rfl) (by decide) (fun w26 hE => ⟨fun _ => (hS.ext hE).sel (by repeat (first | exact Sel.nil | (refine Sel.cons (by repeat (first | exact Del.head | apply Del.tail)) ?_))), ?_⟩)
        replace hS := hS.ext hE
        intro i hi
        simp only [List.mem_cons, List.not_mem_nil, or_false] at hi
        subst hi
        ·
         refine any_op (by rfl) ?_
         first | refine s_go (m_indexAddr_rd Tryz.underlying155 ti84 (hS := hS)) ?_ | refine s_go (m_indexAddr_vec Tryz.underlying155 ti84 (hS := hS)) ?_
         try simp only [opv, n1, n2, n3, n4, Value.cells, Nat.mul_one, Nat.zero_add, Int.toNat_natCast, Int.reduceToNat]
         refine x_nil ?_
         refine any_step [15] (by kernel_rfl) (by decide) (fun w27 hE => ⟨fun _ => (hS.ext hE).sel (by repeat (first | exact Sel.nil | (refine Sel.cons (by repeat (first | exact Del.head | apply Del.tail)) ?_))), ?_⟩)
         replace hS := hS.ext hE
         intro i hi
         simp only [List.mem_cons, List.not_mem_nil, or_false] at hi
         subst hi
         ·
          refine any_op (by rfl) ?_
          first | refine m_store_obj ti84 (hS := hS) (h := fun w28 hS => ?_) | refine m_store_vec ti84 (hS := hS) (h := fun w28 hS => ?_)
          try simp only [opv, n1, n2, n3, n4, Value.cells, Array.toArray_toList] at hS ⊢
          refine x_nil ?_
          refine any_nil (by kernel_rfl) (fun w29 hE => ?_)
          replace hS := hS.ext hE
          refine ⟨fun _ => hS.sel (by repeat (first | exact Sel.nil | (refine Sel.cons (by repeat (first | exact Del.head | apply Del.tail)) ?_))), ?_⟩
          refine mix_leaf (by simp only [clob, List.foldl, n1, n2, n3, n4]) ?_
          try simp only [n1, n2]
          exact hS.sel (by repeat (first | exact Sel.nil | (refine Sel.cons (by repeat (first | exact Del.head | apply Del.tail)) ?_)))
  ·
   refine any_op (by rfl) ?_
   first | refine s_go (m_indexAddr_rd Tryz.underlying155 ti84 (hS := hS)) ?_ | refine s_go (m_indexAddr_vec Tryz.underlying155 ti84 (hS := hS)) ?_
   try simp only [opv, n1, n2, n3, n4, Value.cells, Nat.mul_one, Nat.zero_add, Int.toNat_natCast, Int.reduceToNat]
   refine x_nil ?_
   refine any_step [6, 11] (by kernel_rfl) (by decide) (fun w30 hE => ⟨fun _ => (hS.ext hE).sel (by repeat (first | exact Sel.nil | (refine Sel.cons (by repeat (first | exact Del.head | apply Del.tail)) ?_))), ?_⟩)
   replace hS := hS.ext hE
   intro i hi
   simp only [List.mem_cons, List.not_mem_nil, or_false] at hi
   rcases hi with rfl | rfl
   ·
    refine any_op (by rfl) ?_
    first | refine s_go (m_indexAddr_rd Tryz.underlying155 ti84 (hS := hS)) ?_ | refine s_go (m_indexAddr_vec Tryz.underlying155 ti84 (hS := hS)) ?_
    try simp only [opv, n1, n2, n3, n4, Value.cells, Nat.mul_one, Nat.zero_add, Int.toNat_natCast, Int.reduceToNat]
    refine x_nil ?_
    refine any_step [7, 11] (by kernel_rfl) (by decide) (fun w31 hE => ⟨fun _ => (hS.ext hE).sel (by repeat (first | exact Sel.nil | (refine Sel.cons (by repeat (first | exact Del.head | apply Del.tail)) ?_))), ?_⟩)
    replace hS := hS.ext hE
    intro i hi
    simp only [List.mem_cons, List.not_mem_nil, or_false] at hi
    rcases hi with rfl | rfl
    ·
     refine any_op (by rfl) ?_
     first | refine s_go (m_load_obj Tryz.underlying84 (hS := hS)) ?_ | refine s_go (m_load_bx Tryz.underlying84 (hS := hS)) ?_ | refine s_go (m_load_rd Tryz.underlying84 (hS := hS)) ?_ | refine s_go (m_load_vec Tryz.underlying84 (hS := hS)) ?_
     try simp only [opv, n1, n2, n3, n4, Value.cells, List.getElem_toArray, List.getElem_cons_zero, List.getElem_cons_succ]
     refine x_nil ?_
     refine any_step [11] (by kernel_rfl) (by decide) (fun w32 hE => ⟨fun _ => (hS.ext hE).sel (by repeat (first | exact Sel.nil | (refine Sel.cons (by repeat (first | exact Del.head | apply Del.tail)) ?_))), ?_⟩)
     replace hS := hS.ext hE
     intro i hi
     simp only [List.mem_cons, List.not_mem_nil, or_false] at hi
     subst hi
     ·
      refine any_op (by rfl) ?_
      first | refine s_go (m_load_obj Tryz.underlying84 (hS := hS)) ?_ | refine s_go (m_load_bx Tryz.underlying84 (hS := hS)) ?_ | refine s_go (m_load_rd Tryz.underlying84 (hS := hS)) ?_ | refine s_go (m_load_vec Tryz.underlying84 (hS := hS)) ?_
      try simp only [opv, n1, n2, n3, n4, Value.cells, List.getElem_toArray, List.getElem_cons_zero, List.getElem_cons_succ]
      refine x_nil ?_
      refine any_step [12] (by kernel_rfl) (by decide) (fun w33 hE => ⟨fun _ => (hS.ext hE).sel (by repeat (first | exact Sel.nil | (refine Sel.cons (by repeat (first | exact Del.head | apply Del.tail)) ?_))), ?_⟩)
      replace hS := hS.ext hE
      intro i hi
      simp only [List.mem_cons, List.not_mem_nil, or_false] at hi
      subst hi
      ·
       refine any_op (by rfl) ?_
       first | refine s_go (m_indexAddr_rd Tryz.underlying155 ti84 (hS := hS)) ?_ | refine s_go (m_indexAddr_vec Tryz.underlying155 ti84 (hS := hS)) ?_
       try simp only [opv, n1, n2, n3, n4, Value.cells, Nat.mul_one, Nat.zero_add, Int.toNat_natCast, Int.reduceToNat]
       refine x_nil ?_
       refine any_step [13] (by kernel_rfl) (by decide) (fun w34 hE => ⟨fun _ => (hS.ext hE).sel (by repeat (first | exact Sel.nil | (refine Sel.cons (by repeat (first | exact Del.head | apply Del.tail)) ?_))), ?_⟩)
       replace hS := hS.ext hE
       intro i hi
       simp only [List.mem_cons, List.not_mem_nil, or_false] at hi
       subst hi
       ·
        refine any_op (by rfl) ?_
        first | refine m_store_obj ti84 (hS := hS) (h := fun w35 hS => ?_) | refine m_store_vec ti84 (hS := hS) (h := fun w35 hS => ?_)
        try simp only [opv, n1, n2, n3, n4, Value.cells, Array.toArray_toList] at hS ⊢
        refine x_nil ?_
        refine any_step [14] (by kernel_rfl) (by decide) (fun w36 hE => ⟨fun _ => (hS.ext hE).sel (by repeat (first | exact Sel.nil | (refine Sel.cons (by repeat (first | exact Del.head | apply Del.tail)) ?_))), ?_⟩)
        replace hS := hS.ext hE
        intro i hi
        simp only [List.mem_cons, List.not_mem_nil, or_false] at hi
        subst hi
        ·
         refine any_op (by rfl) ?_
         first | refine s_go (m_indexAddr_rd Tryz.underlying155 ti84 (hS := hS)) ?_ | refine s_go (m_indexAddr_vec Tryz.underlying155 ti84 (hS := hS)) ?_
         try simp only [opv, n1, n2, n3, n4, Value.cells, Nat.mul_one, Nat.zero_add, Int.toNat_natCast, Int.reduceToNat]
         refine x_nil ?_
         refine any_step [15] (by kernel_rfl) (by decide) (fun w37 hE => ⟨fun _ => (hS.ext hE).sel (by repeat (first | exact Sel.nil | (refine Sel.cons (by repeat (first | exact Del.head | apply Del.tail)) ?_))), ?_⟩)
         replace hS := hS.ext hE
         intro i hi
         simp only [List.mem_cons, List.not_mem_nil, or_false] at hi
         subst hi
         ·
          refine any_op (by rfl) ?_
          first | refine m_store_obj ti84 (hS := hS) (h := fun w38 hS => ?_) | refine m_store_vec ti84 (hS := hS) (h := fun w38 hS => ?_)
          try simp only [opv, n1, n2, n3, n4, Value.cells, Array.toArray_toList] at hS ⊢
          refine x_nil ?_
          refine any_nil (by kernel_rfl) (fun w39 hE => ?_)
          replace hS := hS.ext hE
          refine ⟨fun _ => hS.sel (by repeat (first | exact Sel.nil | (refine Sel.cons (by repeat (first | exact Del.head | apply Del.tail)) ?_))), ?_⟩
          refine mix_leaf (by simp only [clob, List.foldl, n1, n2, n3, n4]) ?_
          try simp only [n1, n2]
          exact hS.sel (by repeat (first | exact Sel.nil | (refine Sel.cons (by repeat (first | exact Del.head | apply Del.tail)) ?_)))
    ·
     refine any_op (by rfl) ?_
     first | refine s_go (m_load_obj Tryz.underlying84 (hS := hS)) ?_ | refine s_go (m_load_bx Tryz.underlying84 (hS := hS)) ?_ | refine s_go (m_load_rd Tryz.underlying84 (hS := hS)) ?_ | refine s_go (m_load_vec Tryz.underlying84 (hS := hS)) ?_
     try simp only [opv, n1, n2, n3, n4, Value.cells, List.getElem_toArray, List.getElem_cons_zero, List.getElem_cons_succ]
     refine x_nil ?_
     refine any_step [7] (by kernel_rfl) (by decide) (fun w40 hE => ⟨fun _ => (hS.ext hE).sel (by repeat (first | exact Sel.nil | (refine Sel.cons (by repeat (first | exact Del.head | apply Del.tail)) ?_))), ?_⟩)
     replace hS := hS.ext hE
     intro i hi
     simp only [List.mem_cons, List.not_mem_nil, or_false] at hi
     subst hi
     ·
      refine any_op (by rfl) ?_
      first | refine s_go (m_load_obj Tryz.underlying84 (hS := hS)) ?_ | refine s_go (m_load_bx Tryz.underlying84 (hS := hS)) ?_ | refine s_go (m_load_rd Tryz.underlying84 (hS := hS)) ?_ | refine s_go (m_load_vec Tryz.underlying84 (hS := hS)) ?_
      try simp only [opv, n1, n2, n3, n4, Value.cells, List.getElem_toArray, List.getElem_cons_zero, List.getElem_cons_succ]
      refine x_nil ?_
      refine any_step [12] (by kernel_rfl) (by decide) (fun w41 hE => ⟨fun _ => (hS.ext hE).sel (by repeat (first | exact Sel.nil | (refine Sel.cons (by repeat (first | exact Del.head | apply Del.tail)) ?_))), ?_⟩)
      replace hS := hS.ext hE
      intro i hi
      simp only [List.mem_cons, List.not_mem_nil, or_false] at hi
      subst hi
      ·
       refine any_op (by rfl) ?_
       first | refine s_go (m_indexAddr_rd Tryz.underlying155 ti84 (hS := hS)) ?_ | refine s_go (m_indexAddr_vec Tryz.underlying155 ti84 (hS := hS)) ?_
       try simp only [opv, n1, n2, n3, n4, Value.cells, Nat.mul_one, Nat.zero_add, Int.toNat_natCast, Int.reduceToNat]
       refine x_nil ?_
       refine any_step [13] (by kernel_rfl) (by decide) (fun w42 hE => ⟨fun _ => (hS.ext hE).sel (by repeat (first | exact Sel.nil | (refine Sel.cons (by repeat (first | exact Del.head | apply Del.tail)) ?_))), ?_⟩)
       replace hS := hS.ext hE
       intro i hi
       simp only [List.mem_cons, List.not_mem_nil, or_false] at hi
       subst hi
       ·
        refine any_op (by rfl) ?_
        first | refine m_store_obj ti84 (hS := hS) (h := fun w43 hS => ?_) | refine m_store_vec ti84 (hS := hS) (h := fun w43 hS => ?_)
        try simp only [opv, n1, n2, n3, n4, Value.cells, Array.toArray_toList] at hS ⊢
        refine x_nil ?_
        refine any_step [14] (by kernel_rfl) (by decide) (fun w44 hE => ⟨fun _ => (hS.ext hE).sel (by repeat (first | exact Sel.nil | (refine Sel.cons (by repeat (first | exact Del.head | apply Del.tail)) ?_))), ?_⟩)
        replace hS := hS.ext hE
        intro i hi
        simp only [List.mem_cons, List.not_mem_nil, or_false] at hi
        subst hi
        ·
         refine any_op (by rfl) ?_
         first | refine s_go (m_indexAddr_rd Tryz.underlying155 ti84 (hS := hS)) ?_ | refine s_go (m_indexAddr_vec Tryz.underlying155 ti84 (hS := hS)) ?_
         try simp only [opv, n1, n2, n3, n4, Value.cells, Nat.mul_one, Nat.zero_add, Int.toNat_natCast, Int.reduceToNat]
         refine x_nil ?_
         refine any_step [15] (by kernel_rfl) (by decide) (fun w45 hE => ⟨fun _ => (hS.ext hE).sel (by repeat (first | exact Sel.nil | (refine Sel.cons (by repeat (first | exact Del.head | apply Del.tail)) ?_))), ?_⟩)
         replace hS := hS.ext hE
         intro i hi
         simp only [List.mem_cons, List.not_mem_nil, or_false] at hi
         subst hi
         ·
          refine any_op (by rfl) ?_
          first | refine m_store_obj ti84 (hS := hS) (h := fun w46 hS => ?_) | refine m_store_vec ti84 (hS := hS) (h := fun w46 hS => ?_)
          try simp only [opv, n1, n2, n3, n4, Value.cells, Array.toArray_toList] at hS ⊢
          refine x_nil ?_
          refine any_nil (by kernel_rfl) (fun w47 hE => ?_)
          replace hS := hS.ext hE
          refine ⟨fun _ => hS.sel (by repeat (first | exact Sel.nil | (refine Sel.cons (by repeat (first | exact Del.head | apply Del.tail)) ?_))), ?_⟩
          refine mix_leaf (by simp only [clob, List.foldl, n1, n2, n3, n4]) ?_
          try simp only [n1, n2]
          exact hS.sel (by repeat (first | exact Sel.nil | (refine Sel.cons (by repeat (first | exact Del.head | apply Del.tail)) ?_)))
   ·
    refine any_op (by rfl) ?_
    first | refine s_go (m_load_obj Tryz.underlying84 (hS := hS)) ?_ | refine s_go (m_load_bx Tryz.underlying84 (hS := hS)) ?_ | refine s_go (m_load_rd Tryz.underlying84 (hS := hS)) ?_ | refine s_go (m_load_vec Tryz.underlying84 (hS := hS)) ?_
    try simp only [opv, n1, n2, n3, n4, Value.cells, List.getElem_toArray, List.getElem_cons_zero, List.getElem_cons_succ]
    refine x_nil ?_
    refine any_step [6] (by kernel_rfl) (by decide) (fun w48 hE => ⟨fun _ => (hS.ext hE).sel (by repeat (first | exact Sel.nil | (refine Sel.cons (by repeat (first | exact Del.head | apply Del.tail)) ?_))), ?_⟩)
    replace hS := hS.ext hE
    intro i hi
    simp only [List.mem_cons, List.not_mem_nil, or_false] at hi
    subst hi
    ·
     refine any_op (by rfl) ?_
     first | refine s_go (m_indexAddr_rd Tryz.underlying155 ti84 (hS := hS)) ?_ | refine s_go (m_indexAddr_vec Tryz.underlying155 ti84 (hS := hS)) ?_
     try simp only [opv, n1, n2, n3, n4, Value.cells, Nat.mul_one, Nat.zero_add, Int.toNat_natCast, Int.reduceToNat]
     refine x_nil ?_
     refine any_step [7] (by kernel_rfl) (by decide) (fun w49 hE => ⟨fun _ => (hS.ext hE).sel (by repeat (first | exact Sel.nil | (refine Sel.cons (by repeat (first | exact Del.head | apply Del.tail)) ?_))), ?_⟩)
     replace hS := hS.ext hE
     intro i hi
     simp only [List.mem_cons, List.not_mem_nil, or_false] at hi
     subst hi
     ·
      refine any_op (by rfl) ?_
      first | refine s_go (m_load_obj Tryz.underlying84 (hS := hS)) ?_ | refine s_go (m_load_bx Tryz.underlying84 (hS := hS)) ?_ | refine s_go (m_load_rd Tryz.underlying84 (hS := hS)) ?_ | refine s_go (m_load_vec Tryz.underlying84 (hS := hS)) ?_
      try simp only [opv, n1, n2, n3, n4, Value.cells, List.getElem_toArray, List.getElem_cons_zero, List.getElem_cons_succ]
      refine x_nil ?_
      refine any_step [12] (by kernel_rfl) (by decide) (fun w50 hE => ⟨fun _ => (hS.ext hE).sel (by repeat (first | exact Sel.nil | (refine Sel.cons (by repeat (first | exact Del.head | apply Del.tail)) ?_))), ?_⟩)
      replace hS := hS.ext hE
      intro i hi
      simp only [List.mem_cons, List.not_mem_nil, or_false] at hi
      subst hi
      ·
       refine any_op (by rfl) ?_
       first | refine s_go (m_indexAddr_rd Tryz.underlying155 ti84 (hS := hS)) ?_ | refine s_go (m_indexAddr_vec Tryz.underlying155 ti84 (hS := hS)) ?_
       try simp only [opv, n1, n2, n3, n4, Value.cells, Nat.mul_one, Nat.zero_add, Int.toNat_natCast, Int.reduceToNat]
       refine x_nil ?_
       refine any_step [13] (by kernel_rfl) (by decide) (fun w51 hE => ⟨fun _ => (hS.ext hE).sel (by repeat (first | exact Sel.nil | (refine Sel.cons (by repeat (first | exact Del.head | apply Del.tail)) ?_))), ?_⟩)
       replace hS := hS.ext hE
       intro i hi
       simp only [List.mem_cons, List.not_mem_nil, or_false] at hi
       subst hi
       ·
        refine any_op (by rfl) ?_
        first | refine m_store_obj ti84 (hS := hS) (h := fun w52 hS => ?_) | refine m_store_vec ti84 (hS := hS) (h := fun w52 hS => ?_)
        try simp only [opv, n1, n2, n3, n4, Value.cells, Array.toArray_toList] at hS ⊢
        refine x_nil ?_
        refine any_step [14] (by kernel_rfl) (by decide) (fun w53 hE => ⟨fun _ => (hS.ext hE).sel (by repeat (first | exact Sel.nil | (refine Sel.cons (by repeat (first | exact Del.head | apply Del.tail)) ?_))), ?_⟩)
        replace hS := hS.ext hE
        intro i hi
        simp only [List.mem_cons, List.not_mem_nil, or_false] at hi
        subst hi
        ·
         refine any_op (by rfl) ?_
         first | refine s_go (m_indexAddr_rd Tryz.underlying155 ti84 (hS := hS)) ?_ | refine s_go (m_indexAddr_vec Tryz.underlying155 ti84 (hS := hS)) ?_
         try simp only [opv, n1, n2, n3, n4, Value.cells, Nat.mul_one, Nat.zero_add, Int.toNat_natCast, Int.reduceToNat]
         refine x_nil ?_
         refine any_step [15] (by kernel_rfl) (by decide) (fun w54 hE => ⟨fun _ => (hS.ext hE).sel (by repeat (first | exact Sel.nil | (refine Sel.cons (by repeat (first | exact Del.head | apply Del.tail)) ?_))), ?_⟩)
         replace hS := hS.ext hE
         intro i hi
         simp only [List.mem_cons, List.not_mem_nil, or_false] at hi
         subst hi
         ·
          refine any_op (by rfl) ?_
          first | refine m_store_obj ti84 (hS := hS) (h := fun w55 hS => ?_) | refine m_store_vec ti84 (hS := hS) (h := fun w55 hS => ?_)
          try simp only [opv, n1, n2, n3, n4, Value.cells, Array.toArray_toList] at hS ⊢
          refine x_nil ?_
          refine any_nil (by kernel_rfl) (fun w56 hE => ?_)
          replace hS := hS.ext hE
          refine ⟨fun _ => hS.sel (by repeat (first | exact Sel.nil | (refine Sel.cons (by repeat (first | exact Del.head | apply Del.tail)) ?_))), ?_⟩
          refine mix_leaf (by simp only [clob, List.foldl, n1, n2, n3, n4]) ?_
          try simp only [n1, n2]
          exact hS.sel (by repeat (first | exact Sel.nil | (refine Sel.cons (by repeat (first | exact Del.head | apply Del.tail)) ?_)))
 intro fm1 w57 hM
 replace hS := hM
 simp only [clob, List.foldl, n3, n4]
 refine r_none rfl ?_
 unfold swp
 exact ⟨rfl, hS.sel (by repeat (first | exact Sel.nil | (refine Sel.cons (by repeat (first | exact Del.head | apply Del.tail)) ?_)))⟩
theorem c_heapUp (w0 : World) (gw : Nat) (A : Option Addr) (c n : Nat) (l : List Int) (hl : l.length = n) (hn : n ≤ 4000000000) (j : Nat) (hj : j < n) (hU : UpI l j) (hM : St (OwnB [.obj gw (.cells #[.slice A n c] 155 (0, 0)), .vec A c 84 1 n (List.map (Value.int .u64) l)]) w0 w0 [.obj gw (.cells #[.slice A n c] 155 (0, 0)), .vec A c 84 1 n (List.map (Value.int .u64) l)])  :
    CallR Tryz.prog 169 #[.iface 154 (.pointer (some ⟨gw, 0, none⟩)), .int .i64 (j : Int)] w0 fun v w' => ∃ l2 : List Int, v = .tuple #[] ∧ l2.Perm l ∧ l2.length = n ∧ HeapN l2 n ∧ St (OwnB [.obj gw (.cells #[.slice A n c] 155 (0, 0)), .vec A c 84 1 n (List.map (Value.int .u64) l)]) w0 w' [.obj gw (.cells #[.slice A n c] 155 (0, 0)), .vec A c 84 1 n (List.map (Value.int .u64) l2)] := by
 have hS := hM
 refine c_enter (l := [.iface 154 (.pointer (some ⟨gw, 0, none⟩)), .int .i64 (j : Int), undef, undef, undef, undef, undef, undef, undef, undef, undef, undef, undef, undef, undef, undef, undef, undef, undef, undef, undef, undef, undef]) Tryz.func169 rfl (by simp only [Tryz.ntmps169, List.size_toArray, List.length_cons, List.length_nil, Nat.reduceAdd, Nat.reduceSub, Array.replicate_succ, Array.replicate_zero, List.push_toArray, List.append_toArray, List.nil_append, List.cons_append]) ?_
 refine x_block ?_
 refine x_loop [1, 4, 5, 6, 7, 8, 9, 10, 11, 12, 13, 14, 15, 16, 17, 18, 19, 20, 21, 22] (fun m f w => ∃ (q : Nat) (l2 : List Int), q < n ∧ m = q ∧ l2.Perm l ∧ l2.length = n ∧ UpI l2 q ∧ f 1 = .int .i64 (q : Int) ∧ St (OwnB [.obj gw (.cells #[.slice A n c] 155 (0, 0)), .vec A c 84 1 n (List.map (Value.int .u64) l)]) w0 w [.obj gw (.cells #[.slice A n c] 155 (0, 0)), .vec A c 84 1 n (List.map (Value.int .u64) l2)]) (j) ?init1 (fun m1 f1 wl1 hI => ?_)
 case init1 =>
  try simp only [opv, n1, n2, n3, n4, Value.cells]
  exact ⟨j, l, hj, rfl, .refl _, hl, hU, rfl, hS⟩
 obtain ⟨q, l2, hq, hm, hp, hl2, hU2, h1, hS⟩ := hI
 simp only [clob, List.foldl, n3, n4, h1]
 have hpr := up_par q (by omega)
 refine x_block ?_
 refine x_seq fun K1 hK1 => ?_
 refine x_region ?_
 refine s_go (s_move) ?_
 try simp only [opv, n1, n2, n3, n4, Value.cells]
 refine s_go (s_sub (hc := by first | exact wr_i64 (by omega) (by omega) | rfl)) ?_
 try simp only [opv, n1, n2, n3, n4, Value.cells]
 refine s_go (s_quo (hc := hpr)) ?_
 try simp only [opv, n1, n2, n3, n4, Value.cells]
 refine s_go (s_assign) ?_
 try simp only [opv, n1, n2, n3, n4, Value.cells]
 refine x_nil ?_
 refine hK1 _ _ ?_
 refine x_seq fun K2 hK2 => ?_
 refine x_seq fun K3 hK3 => ?_
 refine x_region ?_
 refine s_go (s_move) ?_
 try simp only [opv, n1, n2, n3, n4, Value.cells]
 refine s_go (s_move) ?_
 try simp only [opv, n1, n2, n3, n4, Value.cells]
 refine s_go (s_eql) ?_
 try simp only [opv, n1, n2, n3, n4, Value.cells]
 refine s_go (s_move) ?_
 try simp only [opv, n1, n2, n3, n4, Value.cells]
 refine s_part 11 rfl (fun hp1 => ?_) (fun hp1 => ?_)
 ·
  try simp only [n3, n4]
  try simp only [decide_eq_true_eq, decide_eq_false_iff_not, Bool.not_eq_true', Bool.not_eq_false', Int.not_lt, Int.not_le, ne_eq, Decidable.not_not] at hp1
  first
  | (exfalso; omega)
  | skip
    have hd : q = 0 ∨ ¬ l2.getD q 0 < l2.getD ((q - 1) / 2) 0 := .inl (by omega)
    refine g_off (yi (t := 11) rfl rfl) ?_
    try simp only [opv, n1, n2, n3, n4, Value.cells]
    refine g_off (yi (t := 11) rfl rfl) ?_
    try simp only [opv, n1, n2, n3, n4, Value.cells]
    refine g_off (yi (t := 11) rfl rfl) ?_
    try simp only [opv, n1, n2, n3, n4, Value.cells]
    refine g_off (yi (t := 11) rfl rfl) ?_
    try simp only [opv, n1, n2, n3, n4, Value.cells]
    refine g_off (yi (t := 11) rfl rfl) ?_
    try simp only [opv, n1, n2, n3, n4, Value.cells]
    first | refine s_go (s_pick_t) ?_ | refine s_go (s_pick_f) ?_
    try simp only [opv, n1, n2, n3, n4, Value.cells]
    refine x_nil ?_
    refine hK3 _ _ ?_
    refine x_cond_t (h := ?_)
    try have hd : q = 0 ∨ ¬ l2.getD q 0 < l2.getD ((q - 1) / 2) 0 := .inr (by simpa using @c)
    refine x_exit (look_on (by decide) (look_here ?_))
    refine r_none rfl ?_
    have hH := up_done hU2 hd
    rw [hl2] at hH
    exact ⟨_, rfl, hp, hl2, hH, hS.sel (by repeat (first | exact Sel.nil | (refine Sel.cons (by repeat (first | exact Del.head | apply Del.tail)) ?_)))⟩
 ·
  try simp only [n3, n4]
  try simp only [decide_eq_true_eq, decide_eq_false_iff_not, Bool.not_eq_true', Bool.not_eq_false', Int.not_lt, Int.not_le, ne_eq, Decidable.not_not] at hp1
  first
  | (exfalso; omega)
  | skip
    have hq0 : 0 < q := by omega
    refine g_on (yi (t := 11) rfl rfl) ?_
    refine s_go (s_move) ?_
    try simp only [opv, n1, n2, n3, n4, Value.cells]
    refine g_on (yi (t := 11) rfl rfl) ?_
    refine s_go (s_move) ?_
    try simp only [opv, n1, n2, n3, n4, Value.cells]
    refine g_on (yi (t := 11) rfl rfl) ?_
    refine s_go (s_move) ?_
    try simp only [opv, n1, n2, n3, n4, Value.cells]
    refine g_on (yi (t := 11) rfl rfl) ?_
    refine s_inv_val mt_less Tryz.underlying154 Tryz.underlying155 en277 (hS := hS) (h := ?_)
    try simp only [opv, n1, n2, n3, n4, Value.cells, List.map_toArray, List.map_cons, List.map_nil, List.append_toArray, List.cons_append, List.nil_append, Array.append_empty]
    refine CallR.mono (c_wLess _ A n c l2 (hS.vecRd (by repeat (first | exact Has.head | apply Has.tail))) hl2 hn q ((q - 1) / 2) (by omega) (by omega)) ?_
    rintro _ w1 ⟨rfl, hE1⟩
    replace hS := hS.ext hE1
    try simp only [opv, n1, n2, n3, n4, Value.cells]
    refine g_on (yi (t := 11) rfl rfl) ?_
    refine s_go (s_not) ?_
    try simp only [opv, n1, n2, n3, n4, Value.cells]
    first | refine s_go (s_pick_t) ?_ | refine s_go (s_pick_f) ?_
    try simp only [opv, n1, n2, n3, n4, Value.cells]
    refine x_nil ?_
    refine hK3 _ _ ?_
    refine x_cond (ht := fun hc2 => ?_) (hf := fun hc2 => ?_)
    ·
     try simp only [decide_eq_true_eq, decide_eq_false_iff_not, Bool.not_eq_true', Bool.not_eq_false', Int.not_lt, Int.not_le, ne_eq, Decidable.not_not, bne_iff_ne, beq_iff_eq, not_true_eq_false, not_false_eq_true] at hc2
     first
     | (exfalso; omega)
     | skip
       try have hd : q = 0 ∨ ¬ l2.getD q 0 < l2.getD ((q - 1) / 2) 0 := .inr (by simpa using hc2)
       refine x_exit (look_on (by decide) (look_here ?_))
       refine r_none rfl ?_
       have hH := up_done hU2 hd
       rw [hl2] at hH
       exact ⟨_, rfl, hp, hl2, hH, hS.sel (by repeat (first | exact Sel.nil | (refine Sel.cons (by repeat (first | exact Del.head | apply Del.tail)) ?_)))⟩
    ·
     try simp only [decide_eq_true_eq, decide_eq_false_iff_not, Bool.not_eq_true', Bool.not_eq_false', Int.not_lt, Int.not_le, ne_eq, Decidable.not_not, bne_iff_ne, beq_iff_eq, not_true_eq_false, not_false_eq_true] at hc2
     first
     | (exfalso; omega)
     | skip
       have hlt : l2.getD q 0 < l2.getD ((q - 1) / 2) 0 := by simpa using hc2
       refine x_skip ?_
       refine hK2 _ _ ?_
       refine x_seq fun K4 hK4 => ?_
       refine x_region ?_
       refine s_go (s_move) ?_
       try simp only [opv, n1, n2, n3, n4, Value.cells]
       refine s_go (s_move) ?_
       try simp only [opv, n1, n2, n3, n4, Value.cells]
       refine s_go (s_move) ?_
       try simp only [opv, n1, n2, n3, n4, Value.cells]
       refine s_inv_val mt_swap Tryz.underlying154 Tryz.underlying155 en280 (hS := hS) (h := ?_)
       try simp only [opv, n1, n2, n3, n4, Value.cells, List.map_toArray, List.map_cons, List.map_nil, List.append_toArray, List.cons_append, List.nil_append, Array.append_empty]
       refine CallR.mono (c_wSwap _ A c n l2 hl2 ((q - 1) / 2) q (by omega) (by omega) (hS.owns (by repeat (first | exact Spl.nil | (apply Spl.cons (by repeat (first | exact Del.head | apply Del.tail))))))) ?_
       rintro _ w2 ⟨rfl, hC2⟩
       replace hS := hS.frame (by repeat (first | exact Spl.nil | (apply Spl.cons (by repeat (first | exact Del.head | apply Del.tail))))) hC2 (by intro r hr g hg; simp only [List.mem_cons, List.not_mem_nil, or_false] at hr; subst hr; simp [Res.reads] at hg)
       simp only [List.cons_append, List.nil_append] at hS
       try simp only [opv, n1, n2, n3, n4, Value.cells]
       refine x_nil ?_
       refine hK4 _ _ ?_
       refine x_region ?_
       refine s_go (s_move) ?_
       try simp only [opv, n1, n2, n3, n4, Value.cells]
       refine s_go (s_assign) ?_
       try simp only [opv, n1, n2, n3, n4, Value.cells]
       refine x_nil ?_
       refine loop_back (m' := (q - 1) / 2) (by simp only [clob, List.foldl, n1, n2, n3, n4]) ?_ ?_
       · try simp only [opv, n1, n2, n3, n4, Value.cells]
         exact ⟨(q - 1) / 2, _, by omega, rfl, (swp_perm (by omega) (by omega)).trans hp, by rw [swp_len]; exact hl2, up_step hU2 rfl (by omega) (by omega) hlt, by rfl, hS.sel (by repeat (first | exact Sel.nil | (refine Sel.cons (by repeat (first | exact Del.head | apply Del.tail)) ?_)))⟩
       · omega
theorem c_heapDown (w0 : World) (gw : Nat) (A : Option Addr) (c n : Nat) (l : List Int) (hl : l.length = n) (hn : n ≤ 4000000000) (k : Nat) (hk : k ≤ n) (h0n : 0 < n) (hD : DnI l k 0) (hM : St (OwnB [.obj gw (.cells #[.slice A n c] 155 (0, 0)), .vec A c 84 1 n (List.map (Value.int .u64) l)]) w0 w0 [.obj gw (.cells #[.slice A n c] 155 (0, 0)), .vec A c 84 1 n (List.map (Value.int .u64) l)])  :
    CallR Tryz.prog 170 #[.iface 154 (.pointer (some ⟨gw, 0, none⟩)), .int .i64 0, .int .i64 (k : Int)] w0 fun v w' => ∃ (l2 : List Int) (z : Bool), v = .bool z ∧ l2.Perm l ∧ l2.length = n ∧ HeapN l2 k ∧ (∀ q, k ≤ q → l2.getD q 0 = l.getD q 0) ∧ St (OwnB [.obj gw (.cells #[.slice A n c] 155 (0, 0)), .vec A c 84 1 n (List.map (Value.int .u64) l)]) w0 w' [.obj gw (.cells #[.slice A n c] 155 (0, 0)), .vec A c 84 1 n (List.map (Value.int .u64) l2)] := by
 have hS := hM
 refine c_enter (l := [.iface 154 (.pointer (some ⟨gw, 0, none⟩)), .int .i64 0, .int .i64 (k : Int), undef, undef, undef, undef, undef, undef, undef, undef, undef, undef, undef, undef, undef, undef, undef, undef, undef, undef, undef, undef, undef, undef, undef, undef, undef, undef, undef, undef, undef, undef, undef, undef, undef, undef, undef, undef, undef, undef, undef, undef, undef, undef, undef, undef, undef]) Tryz.func170 rfl (by simp only [Tryz.ntmps170, List.size_toArray, List.length_cons, List.length_nil, Nat.reduceAdd, Nat.reduceSub, Array.replicate_succ, Array.replicate_zero, List.push_toArray, List.append_toArray, List.nil_append, List.cons_append]) ?_
 refine x_seq fun K1 hK1 => ?_
 refine x_region ?_
 refine s_go (s_assign) ?_
 try simp only [opv, n1, n2, n3, n4, Value.cells]
 refine x_nil ?_
 refine hK1 _ _ ?_
 refine x_seq fun K2 hK2 => ?_
 refine x_region ?_
 refine s_go (s_move) ?_
 try simp only [opv, n1, n2, n3, n4, Value.cells]
 refine s_go (s_assign) ?_
 try simp only [opv, n1, n2, n3, n4, Value.cells]
 refine x_nil ?_
 refine hK2 _ _ ?_
 refine x_seq fun K3 hK3 => ?_
 refine x_block ?_
 refine x_loop [7, 8, 9, 10, 12, 13, 14, 15, 16, 17, 18, 19, 20, 21, 22, 23, 24, 25, 26, 27, 28, 29, 30, 31, 32, 33, 34, 35, 36, 37, 38, 39, 40, 41, 42, 43, 44] (fun m f w => ∃ (i : Nat) (l2 : List Int), i < n ∧ m = n - i ∧ l2.Perm l ∧ l2.length = n ∧ DnI l2 k i ∧ (∀ q, k ≤ q → l2.getD q 0 = l.getD q 0) ∧ f 7 = .int .i64 (i : Int) ∧ St (OwnB [.obj gw (.cells #[.slice A n c] 155 (0, 0)), .vec A c 84 1 n (List.map (Value.int .u64) l)]) w0 w [.obj gw (.cells #[.slice A n c] 155 (0, 0)), .vec A c 84 1 n (List.map (Value.int .u64) l2)]) (n) ?init1 (fun m1 f1 wl1 hI => ?_)
 case init1 =>
  try simp only [opv, n1, n2, n3, n4, Value.cells]
  exact ⟨0, l, h0n, rfl, .refl _, hl, hD, (fun q h => rfl), rfl, hS⟩
 obtain ⟨i, l2, hi, hm, hp, hl2, hD2, hk2, h7, hS⟩ := hI
 simp only [clob, List.foldl, n3, n4, h7]
 refine x_block ?_
 refine x_seq fun K4 hK4 => ?_
 refine x_region ?_
 refine s_go (s_move) ?_
 try simp only [opv, n1, n2, n3, n4, Value.cells]
 refine s_go (s_mul (hc := by first | exact wr_i64 (by omega) (by omega) | rfl)) ?_
 try simp only [opv, n1, n2, n3, n4, Value.cells]
 refine s_go (s_add (hc := by first | exact wr_i64 (by omega) (by omega) | rfl)) ?_
 try simp only [opv, n1, n2, n3, n4, Value.cells]
 rw [show (2 * (i : Int) + 1) = ((2 * i + 1 : Nat) : Int) by omega]
 refine s_go (s_assign) ?_
 try simp only [opv, n1, n2, n3, n4, Value.cells]
 refine x_nil ?_
 refine hK4 _ _ ?_
 refine x_seq fun K5 hK5 => ?_
 refine x_seq fun K6 hK6 => ?_
 refine x_region ?_
 refine s_go (s_move) ?_
 try simp only [opv, n1, n2, n3, n4, Value.cells]
 refine s_go (s_move) ?_
 try simp only [opv, n1, n2, n3, n4, Value.cells]
 refine s_go (s_geq) ?_
 try simp only [opv, n1, n2, n3, n4, Value.cells]
 refine s_go (s_move) ?_
 try simp only [opv, n1, n2, n3, n4, Value.cells]
 refine s_part 18 rfl (fun hp1 => ?_) (fun hp1 => ?_)
 ·
  try simp only [n3, n4]
  try simp only [decide_eq_true_eq, decide_eq_false_iff_not, Bool.not_eq_true', Bool.not_eq_false', Int.not_lt, Int.not_le, ne_eq, Decidable.not_not] at hp1
  first
  | (exfalso; omega)
  | skip
    have hN : HeapN l2 k := dn_done hD2 (fun q h0 h1 h2 => by omega)
    refine g_off (yi (t := 18) rfl rfl) ?_
    try simp only [opv, n1, n2, n3, n4, Value.cells]
    refine g_off (yi (t := 18) rfl rfl) ?_
    try simp only [opv, n1, n2, n3, n4, Value.cells]
    first | refine s_go (s_pick_t) ?_ | refine s_go (s_pick_f) ?_
    try simp only [opv, n1, n2, n3, n4, Value.cells]
    refine x_nil ?_
    refine hK6 _ _ ?_
    refine x_cond_t (h := ?_)
    refine x_exit (look_on (by decide) (look_here ?_))
    refine hK3 _ _ ?_
    refine x_seq fun K7 hK7 => ?_
    refine x_region ?_
    refine s_go (s_move) ?_
    try simp only [opv, n1, n2, n3, n4, Value.cells]
    refine s_go (s_move) ?_
    try simp only [opv, n1, n2, n3, n4, Value.cells]
    refine s_go (s_gtr) ?_
    try simp only [opv, n1, n2, n3, n4, Value.cells]
    refine s_go (s_assign) ?_
    try simp only [opv, n1, n2, n3, n4, Value.cells]
    refine x_nil ?_
    refine hK7 _ _ ?_
    refine x_ret ?_
    refine r_tmp rfl ?_
    exact ⟨_, _, rfl, hp, hl2, hN, hk2, hS.sel (by repeat (first | exact Sel.nil | (refine Sel.cons (by repeat (first | exact Del.head | apply Del.tail)) ?_)))⟩
 ·
  try simp only [n3, n4]
  try simp only [decide_eq_true_eq, decide_eq_false_iff_not, Bool.not_eq_true', Bool.not_eq_false', Int.not_lt, Int.not_le, ne_eq, Decidable.not_not] at hp1
  first
  | (exfalso; omega)
  | skip
    have hj1 : 2 * i + 1 < k := by omega
    refine g_on (yi (t := 18) rfl rfl) ?_
    refine s_go (s_move) ?_
    try simp only [opv, n1, n2, n3, n4, Value.cells]
    refine g_on (yi (t := 18) rfl rfl) ?_
    refine s_go (s_lss) ?_
    try simp only [opv, n1, n2, n3, n4, Value.cells]
    first | refine s_go (s_pick_t) ?_ | refine s_go (s_pick_f) ?_
    try simp only [opv, n1, n2, n3, n4, Value.cells]
    refine x_nil ?_
    refine hK6 _ _ ?_
    refine x_cond (ht := fun hc2 => ?_) (hf := fun hc2 => ?_)
    ·
     try simp only [decide_eq_true_eq, decide_eq_false_iff_not, Bool.not_eq_true', Bool.not_eq_false', Int.not_lt, Int.not_le, ne_eq, Decidable.not_not, bne_iff_ne, beq_iff_eq, not_true_eq_false, not_false_eq_true] at hc2
     first
     | (exfalso; omega)
     | skip
       refine x_exit (look_on (by decide) (look_here ?_))
       refine hK3 _ _ ?_
       refine x_seq fun K8 hK8 => ?_
       refine x_region ?_
       refine s_go (s_move) ?_
       try simp only [opv, n1, n2, n3, n4, Value.cells]
       refine s_go (s_move) ?_
       try simp only [opv, n1, n2, n3, n4, Value.cells]
       refine s_go (s_gtr) ?_
       try simp only [opv, n1, n2, n3, n4, Value.cells]
       refine s_go (s_assign) ?_
       try simp only [opv, n1, n2, n3, n4, Value.cells]
       refine x_nil ?_
       refine hK8 _ _ ?_
       refine x_ret ?_
       refine r_tmp rfl ?_
       exact ⟨_, _, rfl, hp, hl2, hN, hk2, hS.sel (by repeat (first | exact Sel.nil | (refine Sel.cons (by repeat (first | exact Del.head | apply Del.tail)) ?_)))⟩
    ·
     try simp only [decide_eq_true_eq, decide_eq_false_iff_not, Bool.not_eq_true', Bool.not_eq_false', Int.not_lt, Int.not_le, ne_eq, Decidable.not_not, bne_iff_ne, beq_iff_eq, not_true_eq_false, not_false_eq_true] at hc2
     first
     | (exfalso; omega)
     | skip
       refine x_skip ?_
       refine hK5 _ _ ?_
       refine x_seq fun K9 hK9 => ?_
       refine x_region ?_
       refine s_go (s_move) ?_
       try simp only [opv, n1, n2, n3, n4, Value.cells]
       refine s_go (s_assign) ?_
       try simp only [opv, n1, n2, n3, n4, Value.cells]
       refine x_nil ?_
       refine hK9 _ _ ?_
       refine x_seq fun K10 hK10 => ?_
       refine x_seq fun K11 hK11 => ?_
       refine x_region ?_
       refine s_go (s_move) ?_
       try simp only [opv, n1, n2, n3, n4, Value.cells]
       refine s_go (s_add (hc := by first | exact wr_i64 (by omega) (by omega) | rfl)) ?_
       try simp only [opv, n1, n2, n3, n4, Value.cells]
       rw [show (((2 * i + 1 : Nat) : Int) + 1) = ((2 * i + 2 : Nat) : Int) by omega]
       refine s_go (s_assign) ?_
       try simp only [opv, n1, n2, n3, n4, Value.cells]
       refine x_nil ?_
       refine hK11 _ _ ?_
       refine x_seq fun K12 hK12 => ?_
       refine x_region ?_
       refine s_go (s_move) ?_
       try simp only [opv, n1, n2, n3, n4, Value.cells]
       refine s_go (s_move) ?_
       try simp only [opv, n1, n2, n3, n4, Value.cells]
       refine s_go (s_lss) ?_
       try simp only [opv, n1, n2, n3, n4, Value.cells]
       refine s_go (s_move) ?_
       try simp only [opv, n1, n2, n3, n4, Value.cells]
       refine s_part 28 rfl (fun hp2 => ?_) (fun hp2 => ?_)
       ·
        try simp only [n3, n4]
        try simp only [decide_eq_true_eq, decide_eq_false_iff_not, Bool.not_eq_true', Bool.not_eq_false', Int.not_lt, Int.not_le, ne_eq, Decidable.not_not] at hp2
        first
        | (exfalso; omega)
        | skip
          have hj2 : 2 * i + 2 < k := by omega
          refine g_on (yi (t := 28) rfl rfl) ?_
          refine s_go (s_move) ?_
          try simp only [opv, n1, n2, n3, n4, Value.cells]
          refine g_on (yi (t := 28) rfl rfl) ?_
          refine s_go (s_move) ?_
          try simp only [opv, n1, n2, n3, n4, Value.cells]
          refine g_on (yi (t := 28) rfl rfl) ?_
          refine s_go (s_move) ?_
          try simp only [opv, n1, n2, n3, n4, Value.cells]
          refine g_on (yi (t := 28) rfl rfl) ?_
          refine s_inv_val mt_less Tryz.underlying154 Tryz.underlying155 en277 (hS := hS) (h := ?_)
          try simp only [opv, n1, n2, n3, n4, Value.cells, List.map_toArray, List.map_cons, List.map_nil, List.append_toArray, List.cons_append, List.nil_append, Array.append_empty]
          refine CallR.mono (c_wLess _ A n c l2 (hS.vecRd (by repeat (first | exact Has.head | apply Has.tail))) hl2 hn (2 * i + 2) (2 * i + 1) (by omega) (by omega)) ?_
          rintro _ w1 ⟨rfl, hE1⟩
          replace hS := hS.ext hE1
          try simp only [opv, n1, n2, n3, n4, Value.cells]
          first | refine s_go (s_pick_t) ?_ | refine s_go (s_pick_f) ?_
          try simp only [opv, n1, n2, n3, n4, Value.cells]
          refine x_nil ?_
          refine hK12 _ _ ?_
          refine x_cond (ht := fun hc3 => ?_) (hf := fun hc3 => ?_)
          ·
           try simp only [decide_eq_true_eq, decide_eq_false_iff_not, Bool.not_eq_true', Bool.not_eq_false', Int.not_lt, Int.not_le, ne_eq, Decidable.not_not, bne_iff_ne, beq_iff_eq, not_true_eq_false, not_false_eq_true] at hc3
           first
           | (exfalso; omega)
           | skip
             have h21 : l2.getD (2 * i + 2) 0 < l2.getD (2 * i + 1) 0 := by simpa using hc3
             obtain ⟨jj, hjj0⟩ : ∃ z, z = 2 * i + 2 := ⟨_, rfl⟩
             have hjj : jj = 2 * i + 1 ∨ jj = 2 * i + 2 := .inr hjj0
             have hmin : ∀ q, 0 < q → q < k → (q - 1) / 2 = i → l2.getD jj 0 ≤ l2.getD q 0 := fun q a b e => by (have hq : q = 2 * i + 1 ∨ q = 2 * i + 2 := by omega); (rw [hjj0]); (rcases hq with hq | hq <;> rw [hq] <;> omega)
             rw [← hjj0]
             refine x_region ?_
             refine s_go (s_move) ?_
             try simp only [opv, n1, n2, n3, n4, Value.cells]
             refine s_go (s_assign) ?_
             try simp only [opv, n1, n2, n3, n4, Value.cells]
             refine x_nil ?_
             refine hK10 _ _ ?_
             refine x_seq fun K13 hK13 => ?_
             refine x_seq fun K14 hK14 => ?_
             refine x_region ?_
             refine s_go (s_move) ?_
             try simp only [opv, n1, n2, n3, n4, Value.cells]
             refine s_go (s_move) ?_
             try simp only [opv, n1, n2, n3, n4, Value.cells]
             refine s_go (s_move) ?_
             try simp only [opv, n1, n2, n3, n4, Value.cells]
             refine s_inv_val mt_less Tryz.underlying154 Tryz.underlying155 en277 (hS := hS) (h := ?_)
             try simp only [opv, n1, n2, n3, n4, Value.cells, List.map_toArray, List.map_cons, List.map_nil, List.append_toArray, List.cons_append, List.nil_append, Array.append_empty]
             refine CallR.mono (c_wLess _ A n c l2 (hS.vecRd (by repeat (first | exact Has.head | apply Has.tail))) hl2 hn jj i (by omega) (by omega)) ?_
             rintro _ w2 ⟨rfl, hE2⟩
             replace hS := hS.ext hE2
             try simp only [opv, n1, n2, n3, n4, Value.cells]
             refine s_go (s_not) ?_
             try simp only [opv, n1, n2, n3, n4, Value.cells]
             refine x_nil ?_
             refine hK14 _ _ ?_
             refine x_cond (ht := fun hc4 => ?_) (hf := fun hc4 => ?_)
             ·
              try simp only [decide_eq_true_eq, decide_eq_false_iff_not, Bool.not_eq_true', Bool.not_eq_false', Int.not_lt, Int.not_le, ne_eq, Decidable.not_not, bne_iff_ne, beq_iff_eq, not_true_eq_false, not_false_eq_true] at hc4
              first
              | (exfalso; omega)
              | skip
                have hge : ¬ l2.getD jj 0 < l2.getD i 0 := by simpa using hc4
                have hN : HeapN l2 k := dn_done hD2 (fun q a b e => by have := hmin q a b e; omega)
                refine x_exit (look_on (by decide) (look_here ?_))
                refine hK3 _ _ ?_
                refine x_seq fun K15 hK15 => ?_
                refine x_region ?_
                refine s_go (s_move) ?_
                try simp only [opv, n1, n2, n3, n4, Value.cells]
                refine s_go (s_move) ?_
                try simp only [opv, n1, n2, n3, n4, Value.cells]
                refine s_go (s_gtr) ?_
                try simp only [opv, n1, n2, n3, n4, Value.cells]
                refine s_go (s_assign) ?_
                try simp only [opv, n1, n2, n3, n4, Value.cells]
                refine x_nil ?_
                refine hK15 _ _ ?_
                refine x_ret ?_
                refine r_tmp rfl ?_
                exact ⟨_, _, rfl, hp, hl2, hN, hk2, hS.sel (by repeat (first | exact Sel.nil | (refine Sel.cons (by repeat (first | exact Del.head | apply Del.tail)) ?_)))⟩
             ·
              try simp only [decide_eq_true_eq, decide_eq_false_iff_not, Bool.not_eq_true', Bool.not_eq_false', Int.not_lt, Int.not_le, ne_eq, Decidable.not_not, bne_iff_ne, beq_iff_eq, not_true_eq_false, not_false_eq_true] at hc4
              first
              | (exfalso; omega)
              | skip
                have hlt : l2.getD jj 0 < l2.getD i 0 := by simpa using hc4
                refine x_skip ?_
                refine hK13 _ _ ?_
                refine x_seq fun K16 hK16 => ?_
                refine x_region ?_
                refine s_go (s_move) ?_
                try simp only [opv, n1, n2, n3, n4, Value.cells]
                refine s_go (s_move) ?_
                try simp only [opv, n1, n2, n3, n4, Value.cells]
                refine s_go (s_move) ?_
                try simp only [opv, n1, n2, n3, n4, Value.cells]
                refine s_inv_val mt_swap Tryz.underlying154 Tryz.underlying155 en280 (hS := hS) (h := ?_)
                try simp only [opv, n1, n2, n3, n4, Value.cells, List.map_toArray, List.map_cons, List.map_nil, List.append_toArray, List.cons_append, List.nil_append, Array.append_empty]
                refine CallR.mono (c_wSwap _ A c n l2 hl2 i jj (by omega) (by omega) (hS.owns (by repeat (first | exact Spl.nil | (apply Spl.cons (by repeat (first | exact Del.head | apply Del.tail))))))) ?_
                rintro _ w3 ⟨rfl, hC3⟩
                replace hS := hS.frame (by repeat (first | exact Spl.nil | (apply Spl.cons (by repeat (first | exact Del.head | apply Del.tail))))) hC3 (by intro r hr g hg; simp only [List.mem_cons, List.not_mem_nil, or_false] at hr; subst hr; simp [Res.reads] at hg)
                simp only [List.cons_append, List.nil_append] at hS
                try simp only [opv, n1, n2, n3, n4, Value.cells]
                refine x_nil ?_
                refine hK16 _ _ ?_
                refine x_region ?_
                refine s_go (s_move) ?_
                try simp only [opv, n1, n2, n3, n4, Value.cells]
                refine s_go (s_assign) ?_
                try simp only [opv, n1, n2, n3, n4, Value.cells]
                refine x_nil ?_
                refine loop_back (m' := n - jj) (by simp only [clob, List.foldl, n1, n2, n3, n4]) ?_ ?_
                · try simp only [opv, n1, n2, n3, n4, Value.cells]
                  exact ⟨jj, _, by omega, rfl, (swp_perm (by omega) (by omega)).trans hp, by rw [swp_len]; exact hl2, dn_step hD2 (by omega) hjj (by omega) hmin hlt, (fun q hq => by rw [swp_get (by omega) (by omega), if_neg (by omega), if_neg (by omega)]; exact hk2 q hq), by rfl, hS.sel (by repeat (first | exact Sel.nil | (refine Sel.cons (by repeat (first | exact Del.head | apply Del.tail)) ?_)))⟩
                · omega
          ·
           try simp only [decide_eq_true_eq, decide_eq_false_iff_not, Bool.not_eq_true', Bool.not_eq_false', Int.not_lt, Int.not_le, ne_eq, Decidable.not_not, bne_iff_ne, beq_iff_eq, not_true_eq_false, not_false_eq_true] at hc3
           first
           | (exfalso; omega)
           | skip
             obtain ⟨jj, hjj0⟩ : ∃ z, z = 2 * i + 1 := ⟨_, rfl⟩
             have hjj : jj = 2 * i + 1 ∨ jj = 2 * i + 2 := .inl hjj0
             have hmin : ∀ q, 0 < q → q < k → (q - 1) / 2 = i → l2.getD jj 0 ≤ l2.getD q 0 := fun q a b e => by (have hq : q = 2 * i + 1 ∨ q = 2 * i + 2 := by omega); (rw [hjj0]); (rcases hq with hq | hq <;> rw [hq] <;> first | omega | (exfalso; omega) | (simp at hc3; omega))
             rw [← hjj0]
             refine x_skip ?_
             refine hK10 _ _ ?_
             refine x_seq fun K17 hK17 => ?_
             refine x_seq fun K18 hK18 => ?_
             refine x_region ?_
             refine s_go (s_move) ?_
             try simp only [opv, n1, n2, n3, n4, Value.cells]
             refine s_go (s_move) ?_
             try simp only [opv, n1, n2, n3, n4, Value.cells]
             refine s_go (s_move) ?_
             try simp only [opv, n1, n2, n3, n4, Value.cells]
             refine s_inv_val mt_less Tryz.underlying154 Tryz.underlying155 en277 (hS := hS) (h := ?_)
             try simp only [opv, n1, n2, n3, n4, Value.cells, List.map_toArray, List.map_cons, List.map_nil, List.append_toArray, List.cons_append, List.nil_append, Array.append_empty]
             refine CallR.mono (c_wLess _ A n c l2 (hS.vecRd (by repeat (first | exact Has.head | apply Has.tail))) hl2 hn jj i (by omega) (by omega)) ?_
             rintro _ w4 ⟨rfl, hE4⟩
             replace hS := hS.ext hE4
             try simp only [opv, n1, n2, n3, n4, Value.cells]
             refine s_go (s_not) ?_
             try simp only [opv, n1, n2, n3, n4, Value.cells]
             refine x_nil ?_
             refine hK18 _ _ ?_
             refine x_cond (ht := fun hc5 => ?_) (hf := fun hc5 => ?_)
             ·
              try simp only [decide_eq_true_eq, decide_eq_false_iff_not, Bool.not_eq_true', Bool.not_eq_false', Int.not_lt, Int.not_le, ne_eq, Decidable.not_not, bne_iff_ne, beq_iff_eq, not_true_eq_false, not_false_eq_true] at hc5
              first
              | (exfalso; omega)
              | skip
                have hge : ¬ l2.getD jj 0 < l2.getD i 0 := by simpa using hc5
                have hN : HeapN l2 k := dn_done hD2 (fun q a b e => by have := hmin q a b e; omega)
                refine x_exit (look_on (by decide) (look_here ?_))
                refine hK3 _ _ ?_
                refine x_seq fun K19 hK19 => ?_
                refine x_region ?_
                refine s_go (s_move) ?_
                try simp only [opv, n1, n2, n3, n4, Value.cells]
                refine s_go (s_move) ?_
                try simp only [opv, n1, n2, n3, n4, Value.cells]
                refine s_go (s_gtr) ?_
                try simp only [opv, n1, n2, n3, n4, Value.cells]
                refine s_go (s_assign) ?_
                try simp only [opv, n1, n2, n3, n4, Value.cells]
                refine x_nil ?_
                refine hK19 _ _ ?_
                refine x_ret ?_
                refine r_tmp rfl ?_
                exact ⟨_, _, rfl, hp, hl2, hN, hk2, hS.sel (by repeat (first | exact Sel.nil | (refine Sel.cons (by repeat (first | exact Del.head | apply Del.tail)) ?_)))⟩
             ·
              try simp only [decide_eq_true_eq, decide_eq_false_iff_not, Bool.not_eq_true', Bool.not_eq_false', Int.not_lt, Int.not_le, ne_eq, Decidable.not_not, bne_iff_ne, beq_iff_eq, not_true_eq_false, not_false_eq_true] at hc5
              first
              | (exfalso; omega)
              | skip
                have hlt : l2.getD jj 0 < l2.getD i 0 := by simpa using hc5
                refine x_skip ?_
                refine hK17 _ _ ?_
                refine x_seq fun K20 hK20 => ?_
                refine x_region ?_
                refine s_go (s_move) ?_
                try simp only [opv, n1, n2, n3, n4, Value.cells]
                refine s_go (s_move) ?_
                try simp only [opv, n1, n2, n3, n4, Value.cells]
                refine s_go (s_move) ?_
                try simp only [opv, n1, n2, n3, n4, Value.cells]
                refine s_inv_val mt_swap Tryz.underlying154 Tryz.underlying155 en280 (hS := hS) (h := ?_)
                try simp only [opv, n1, n2, n3, n4, Value.cells, List.map_toArray, List.map_cons, List.map_nil, List.append_toArray, List.cons_append, List.nil_append, Array.append_empty]
                refine CallR.mono (c_wSwap _ A c n l2 hl2 i jj (by omega) (by omega) (hS.owns (by repeat (first | exact Spl.nil | (apply Spl.cons (by repeat (first | exact Del.head | apply Del.tail))))))) ?_
                rintro _ w5 ⟨rfl, hC5⟩
                replace hS := hS.frame (by repeat (first | exact Spl.nil | (apply Spl.cons (by repeat (first | exact Del.head | apply Del.tail))))) hC5 (by intro r hr g hg; simp only [List.mem_cons, List.not_mem_nil, or_false] at hr; subst hr; simp [Res.reads] at hg)
                simp only [List.cons_append, List.nil_append] at hS
                try simp only [opv, n1, n2, n3, n4, Value.cells]
                refine x_nil ?_
                refine hK20 _ _ ?_
                refine x_region ?_
                refine s_go (s_move) ?_
                try simp only [opv, n1, n2, n3, n4, Value.cells]
                refine s_go (s_assign) ?_
                try simp only [opv, n1, n2, n3, n4, Value.cells]
                refine x_nil ?_
                refine loop_back (m' := n - jj) (by simp only [clob, List.foldl, n1, n2, n3, n4]) ?_ ?_
                · try simp only [opv, n1, n2, n3, n4, Value.cells]
                  exact ⟨jj, _, by omega, rfl, (swp_perm (by omega) (by omega)).trans hp, by rw [swp_len]; exact hl2, dn_step hD2 (by omega) hjj (by omega) hmin hlt, (fun q hq => by rw [swp_get (by omega) (by omega), if_neg (by omega), if_neg (by omega)]; exact hk2 q hq), by rfl, hS.sel (by repeat (first | exact Sel.nil | (refine Sel.cons (by repeat (first | exact Del.head | apply Del.tail)) ?_)))⟩
                · omega
       ·
        try simp only [n3, n4]
        try simp only [decide_eq_true_eq, decide_eq_false_iff_not, Bool.not_eq_true', Bool.not_eq_false', Int.not_lt, Int.not_le, ne_eq, Decidable.not_not] at hp2
        first
        | (exfalso; omega)
        | skip
          have hj2 : ¬ 2 * i + 2 < k := by omega
          refine g_off (yi (t := 28) rfl rfl) ?_
          try simp only [opv, n1, n2, n3, n4, Value.cells]
          refine g_off (yi (t := 28) rfl rfl) ?_
          try simp only [opv, n1, n2, n3, n4, Value.cells]
          refine g_off (yi (t := 28) rfl rfl) ?_
          try simp only [opv, n1, n2, n3, n4, Value.cells]
          refine g_off (yi (t := 28) rfl rfl) ?_
          try simp only [opv, n1, n2, n3, n4, Value.cells]
          first | refine s_go (s_pick_t) ?_ | refine s_go (s_pick_f) ?_
          try simp only [opv, n1, n2, n3, n4, Value.cells]
          refine x_nil ?_
          refine hK12 _ _ ?_
          refine x_cond_f (h := ?_)
          obtain ⟨jj, hjj0⟩ : ∃ z, z = 2 * i + 1 := ⟨_, rfl⟩
          have hjj : jj = 2 * i + 1 ∨ jj = 2 * i + 2 := .inl hjj0
          have hmin : ∀ q, 0 < q → q < k → (q - 1) / 2 = i → l2.getD jj 0 ≤ l2.getD q 0 := fun q a b e => by (have hq : q = 2 * i + 1 ∨ q = 2 * i + 2 := by omega); (rw [hjj0]); (rcases hq with hq | hq <;> rw [hq] <;> first | omega | (exfalso; omega) | (simp at @c; omega))
          rw [← hjj0]
          refine x_skip ?_
          refine hK10 _ _ ?_
          refine x_seq fun K21 hK21 => ?_
          refine x_seq fun K22 hK22 => ?_
          refine x_region ?_
          refine s_go (s_move) ?_
          try simp only [opv, n1, n2, n3, n4, Value.cells]
          refine s_go (s_move) ?_
          try simp only [opv, n1, n2, n3, n4, Value.cells]
          refine s_go (s_move) ?_
          try simp only [opv, n1, n2, n3, n4, Value.cells]
          refine s_inv_val mt_less Tryz.underlying154 Tryz.underlying155 en277 (hS := hS) (h := ?_)
          try simp only [opv, n1, n2, n3, n4, Value.cells, List.map_toArray, List.map_cons, List.map_nil, List.append_toArray, List.cons_append, List.nil_append, Array.append_empty]
          refine CallR.mono (c_wLess _ A n c l2 (hS.vecRd (by repeat (first | exact Has.head | apply Has.tail))) hl2 hn jj i (by omega) (by omega)) ?_
          rintro _ w6 ⟨rfl, hE6⟩
          replace hS := hS.ext hE6
          try simp only [opv, n1, n2, n3, n4, Value.cells]
          refine s_go (s_not) ?_
          try simp only [opv, n1, n2, n3, n4, Value.cells]
          refine x_nil ?_
          refine hK22 _ _ ?_
          refine x_cond (ht := fun hc7 => ?_) (hf := fun hc7 => ?_)
          ·
           try simp only [decide_eq_true_eq, decide_eq_false_iff_not, Bool.not_eq_true', Bool.not_eq_false', Int.not_lt, Int.not_le, ne_eq, Decidable.not_not, bne_iff_ne, beq_iff_eq, not_true_eq_false, not_false_eq_true] at hc7
           first
           | (exfalso; omega)
           | skip
             have hge : ¬ l2.getD jj 0 < l2.getD i 0 := by simpa using hc7
             have hN : HeapN l2 k := dn_done hD2 (fun q a b e => by have := hmin q a b e; omega)
             refine x_exit (look_on (by decide) (look_here ?_))
             refine hK3 _ _ ?_
             refine x_seq fun K23 hK23 => ?_
             refine x_region ?_
             refine s_go (s_move) ?_
             try simp only [opv, n1, n2, n3, n4, Value.cells]
             refine s_go (s_move) ?_
             try simp only [opv, n1, n2, n3, n4, Value.cells]
             refine s_go (s_gtr) ?_
             try simp only [opv, n1, n2, n3, n4, Value.cells]
             refine s_go (s_assign) ?_
             try simp only [opv, n1, n2, n3, n4, Value.cells]
             refine x_nil ?_
             refine hK23 _ _ ?_
             refine x_ret ?_
             refine r_tmp rfl ?_
             exact ⟨_, _, rfl, hp, hl2, hN, hk2, hS.sel (by repeat (first | exact Sel.nil | (refine Sel.cons (by repeat (first | exact Del.head | apply Del.tail)) ?_)))⟩
          ·
           try simp only [decide_eq_true_eq, decide_eq_false_iff_not, Bool.not_eq_true', Bool.not_eq_false', Int.not_lt, Int.not_le, ne_eq, Decidable.not_not, bne_iff_ne, beq_iff_eq, not_true_eq_false, not_false_eq_true] at hc7
           first
           | (exfalso; omega)
           | skip
             have hlt : l2.getD jj 0 < l2.getD i 0 := by simpa using hc7
             refine x_skip ?_
             refine hK21 _ _ ?_
             refine x_seq fun K24 hK24 => ?_
             refine x_region ?_
             refine s_go (s_move) ?_
             try simp only [opv, n1, n2, n3, n4, Value.cells]
             refine s_go (s_move) ?_
             try simp only [opv, n1, n2, n3, n4, Value.cells]
             refine s_go (s_move) ?_
             try simp only [opv, n1, n2, n3, n4, Value.cells]
             refine s_inv_val mt_swap Tryz.underlying154 Tryz.underlying155 en280 (hS := hS) (h := ?_)
             try simp only [opv, n1, n2, n3, n4, Value.cells, List.map_toArray, List.map_cons, List.map_nil, List.append_toArray, List.cons_append, List.nil_append, Array.append_empty]
             refine CallR.mono (c_wSwap _ A c n l2 hl2 i jj (by omega) (by omega) (hS.owns (by repeat (first | exact Spl.nil | (apply Spl.cons (by repeat (first | exact Del.head | apply Del.tail))))))) ?_
             rintro _ w7 ⟨rfl, hC7⟩
             replace hS := hS.frame (by repeat (first | exact Spl.nil | (apply Spl.cons (by repeat (first | exact Del.head | apply Del.tail))))) hC7 (by intro r hr g hg; simp only [List.mem_cons, List.not_mem_nil, or_false] at hr; subst hr; simp [Res.reads] at hg)
             simp only [List.cons_append, List.nil_append] at hS
             try simp only [opv, n1, n2, n3, n4, Value.cells]
             refine x_nil ?_
             refine hK24 _ _ ?_
             refine x_region ?_
             refine s_go (s_move) ?_
             try simp only [opv, n1, n2, n3, n4, Value.cells]
             refine s_go (s_assign) ?_
             try simp only [opv, n1, n2, n3, n4, Value.cells]
             refine x_nil ?_
             refine loop_back (m' := n - jj) (by simp only [clob, List.foldl, n1, n2, n3, n4]) ?_ ?_
             · try simp only [opv, n1, n2, n3, n4, Value.cells]
               exact ⟨jj, _, by omega, rfl, (swp_perm (by omega) (by omega)).trans hp, by rw [swp_len]; exact hl2, dn_step hD2 (by omega) hjj (by omega) hmin hlt, (fun q hq => by rw [swp_get (by omega) (by omega), if_neg (by omega), if_neg (by omega)]; exact hk2 q hq), by rfl, hS.sel (by repeat (first | exact Sel.nil | (refine Sel.cons (by repeat (first | exact Del.head | apply Del.tail)) ?_)))⟩
             · omega
theorem c_wPush (w0 : World) (gw : Nat) (A : Option Addr) (c n : Nat) (l : List Int) (hl : l.length = n) (hn : n ≤ 4000000000) (x : Int) (hM : St (OwnB [.obj gw (.cells #[.slice A n c] 155 (0, 0)), .vec A c 84 1 n (List.map (Value.int .u64) l)]) w0 w0 [.obj gw (.cells #[.slice A n c] 155 (0, 0)), .vec A c 84 1 n (List.map (Value.int .u64) l)])  :
    CallR Tryz.prog 279 #[.pointer (some ⟨gw, 0, none⟩), .iface 84 (.int .u64 x)] w0 fun v w' => ∃ (A2 : Option Addr) (c2 : Nat), v = .tuple #[] ∧ St (OwnB [.obj gw (.cells #[.slice A n c] 155 (0, 0)), .vec A c 84 1 n (List.map (Value.int .u64) l)]) w0 w' [.obj gw (.cells #[.slice A2 (n + 1) c2] 155 (0, 0)), .vec A2 c2 84 1 (n + 1) (List.map (Value.int .u64) (l ++ [x]))] := by
 have hS := hM
 refine c_enter (l := [.pointer (some ⟨gw, 0, none⟩), .iface 84 (.int .u64 x), undef, undef, undef, undef, undef, undef, undef, undef, undef, undef, undef]) Tryz.func279 rfl (by simp only [Tryz.ntmps279, List.size_toArray, List.length_cons, List.length_nil, Nat.reduceAdd, Nat.reduceSub, Array.replicate_succ, Array.replicate_zero, List.push_toArray, List.append_toArray, List.nil_append, List.cons_append]) ?_
 refine x_mixed_c (Lc := [.obj gw (.cells #[.slice A n c] 155 (0, 0))]) [9] 0 [4, 5, 6, 7, 8, 9, 10, 11, 12] (fun f w => ∃ (A2 : Option Addr) (c2 : Nat), St (OwnB [.obj gw (.cells #[.slice A n c] 155 (0, 0)), .vec A c 84 1 n (List.map (Value.int .u64) l)]) w0 w [.obj gw (.cells #[.slice A2 (n + 1) c2] 155 (0, 0)), .vec A2 c2 84 1 (n + 1) (List.map (Value.int .u64) (l ++ [x]))]) (by kernel_rfl) (by kernel_rfl) (by kernel_rfl) (by decide) hS (fun w1 hS => ?mixpre1) ?mixrest1
 case mixpre1 =>
  refine p_nil ?_
  simp only [List.length_cons, List.length_nil, Nat.reduceAdd, Nat.reduceSub]
  refine any_go (i := 0) (by rfl) (by decide +kernel) (by decide +kernel) (by unfold noLate; decide) (go_yields w_none (fun w hS => s_move)) ?_
  try simp only [opv, n1, n2, n3, n4, Value.cells]
  refine any_go (i := 1) (by rfl) (by decide +kernel) (by decide +kernel) (by unfold noLate; decide) (go_yields w_none (fun w hS => s_move)) ?_
  try simp only [opv, n1, n2, n3, n4, Value.cells]
  refine any_go (i := 2) (by rfl) (by decide +kernel) (by decide +kernel) (by unfold noLate; decide) (go_yields w_none (fun w hS => s_nilCheck)) ?_
  try simp only [opv, n1, n2, n3, n4, Value.cells]
  first | refine any_go (i := 3) (by rfl) (by decide +kernel) (by decide +kernel) (by unfold noLate; decide) (go_yields w_none (fun w hS => m_load_obj Tryz.underlying155 (hS := hS))) ?_ | refine any_go (i := 3) (by rfl) (by decide +kernel) (by decide +kernel) (by unfold noLate; decide) (go_yields w_none (fun w hS => m_load_bx Tryz.underlying155 (hS := hS))) ?_ | refine any_go (i := 3) (by rfl) (by decide +kernel) (by decide +kernel) (by unfold noLate; decide) (go_yields w_none (fun w hS => m_load_rd Tryz.underlying155 (hS := hS))) ?_ | refine any_go (i := 3) (by rfl) (by decide +kernel) (by decide +kernel) (by unfold noLate; decide) (go_yields w_none (fun w hS => m_load_vec Tryz.underlying155 (hS := hS))) ?_
  try simp only [opv, n1, n2, n3, n4, Value.cells, List.getElem_toArray, List.getElem_cons_zero, List.getElem_cons_succ]
  refine any_go (i := 4) (by rfl) (by decide +kernel) (by decide +kernel) (by unfold noLate; decide) (go_yields w_none (fun w hS => s_move)) ?_
  try simp only [opv, n1, n2, n3, n4, Value.cells]
  refine any_go (i := 5) (by rfl) (by decide +kernel) (by decide +kernel) (by unfold noLate; decide) (go_yields w_none (fun w hS => s_assert Tryz.underlying84)) ?_
  try simp only [opv, n1, n2, n3, n4, Value.cells]
  refine any_step [6] (by kernel_rfl) (by decide) (fun w2 hE => ⟨fun _ => (hS.ext hE).sel (by repeat (first | exact Sel.nil | (refine Sel.cons (by repeat (first | exact Del.head | apply Del.tail)) ?_))), ?_⟩)
  replace hS := hS.ext hE
  intro i hi
  simp only [List.mem_cons, List.not_mem_nil, or_false] at hi
  subst hi
  ·
   refine any_op (by rfl) ?_
   refine m_buildRow (cells := #[_]) Tryz.underlying155 ti84 (hc := by simp only [List.map_toArray, List.map_cons, List.map_nil, opv, n1, n2, n3, n4, Value.cells, List.toList_toArray]; (repeat (refine fill_cons rfl rfl (Nat.le_of_ble_eq_true rfl) ?_)); rfl) (hS := hS) (h := fun w3 g3 hS => ?_)
   try simp only [opv, n1, n2, n3, n4, Value.cells, Array.toArray_toList] at hS ⊢
   replace hS := hS.obj_rd (sz := 1) (n := 1) rfl .head
   refine x_nil ?_
   refine any_step [7] (by kernel_rfl) (by decide) (fun w4 hE => ⟨fun _ => (hS.ext hE).sel (by repeat (first | exact Sel.nil | (refine Sel.cons (by repeat (first | exact Del.head | apply Del.tail)) ?_))), ?_⟩)
   replace hS := hS.ext hE
   intro i hi
   simp only [List.mem_cons, List.not_mem_nil, or_false] at hi
   subst hi
   ·
    refine any_op (by rfl) ?_
    refine m_append Tryz.underlying155 ti84 (hS := hS) (news := [x].map (Value.int .u64)) (h := fun w5 A5 C5 hS => ?_)
    try simp only [← List.map_append, ← List.map_drop, ← List.map_take, Nat.mul_one, Nat.zero_mul, Nat.sub_zero, List.drop_zero, List.nil_append, Nat.zero_add] at hS ⊢
    try simp only [opv, n1, n2, n3, n4, Value.cells, Array.toArray_toList] at hS ⊢
    refine x_nil ?_
    refine any_go (i := 8) (by rfl) (by decide +kernel) (by decide +kernel) (by unfold noLate; decide) (go_yields w_none (fun w hS => s_nilCheck)) ?_
    try simp only [opv, n1, n2, n3, n4, Value.cells]
    refine any_step [9] (by kernel_rfl) (by decide) (fun w6 hE => ⟨fun _ => (hS.ext hE).sel (by repeat (first | exact Sel.nil | (refine Sel.cons (by repeat (first | exact Del.head | apply Del.tail)) ?_))), ?_⟩)
    replace hS := hS.ext hE
    intro i hi
    simp only [List.mem_cons, List.not_mem_nil, or_false] at hi
    subst hi
    ·
     refine any_op (by rfl) ?_
     first | refine m_store_obj ti155 (hS := hS) (h := fun w7 hS => ?_) | refine m_store_vec ti155 (hS := hS) (h := fun w7 hS => ?_)
     try simp only [opv, n1, n2, n3, n4, Value.cells, Array.toArray_toList] at hS ⊢
     refine x_nil ?_
     refine any_nil (by kernel_rfl) (fun w8 hE => ?_)
     replace hS := hS.ext hE
     refine ⟨fun hl => absurd (hl 9 (by decide)) (by decide +kernel), ?_⟩
     refine mix_leaf (by simp only [clob, List.foldl, n1, n2, n3, n4]) ?_
     try simp only [n1, n2]
     exact ⟨_, _, hS.sel (by repeat (first | exact Sel.nil | (refine Sel.cons (by repeat (first | exact Del.head | apply Del.tail)) ?_)))⟩
 intro fm1 w9 hM
 obtain ⟨A2, c2, hS⟩ := hM
 simp only [clob, List.foldl, n3, n4]
 refine r_none rfl ?_
 exact ⟨_, _, rfl, hS.sel (by repeat (first | exact Sel.nil | (refine Sel.cons (by repeat (first | exact Del.head | apply Del.tail)) ?_)))⟩
theorem c_wPop (w0 : World) (gw : Nat) (A : Option Addr) (c n : Nat) (l : List Int) (hl : l.length = n + 1) (hn : n ≤ 4000000000) (hM : St (OwnB [.obj gw (.cells #[.slice A (n + 1) c] 155 (0, 0)), .vec A c 84 1 (n + 1) (List.map (Value.int .u64) l)]) w0 w0 [.obj gw (.cells #[.slice A (n + 1) c] 155 (0, 0)), .vec A c 84 1 (n + 1) (List.map (Value.int .u64) l)])  :
    CallR Tryz.prog 278 #[.pointer (some ⟨gw, 0, none⟩)] w0 fun v w' => v = .iface 84 (.int .u64 (l.getD n 0)) ∧ St (OwnB [.obj gw (.cells #[.slice A (n + 1) c] 155 (0, 0)), .vec A c 84 1 (n + 1) (List.map (Value.int .u64) l)]) w0 w' [.obj gw (.cells #[.slice A n c] 155 (0, 0)), .vec A c 84 1 n (List.map (Value.int .u64) (l.take n))] := by
 have hS := hM
 have hcp := hS.vec_cap (by repeat (first | exact Has.head | apply Has.tail))
 refine c_enter (l := [.pointer (some ⟨gw, 0, none⟩), undef, undef, undef, undef, undef, undef, undef, undef, undef, undef, undef, undef, undef, undef, undef, undef, undef, undef, undef, undef, undef, undef, undef, undef]) Tryz.func278 rfl (by simp only [Tryz.ntmps278, List.size_toArray, List.length_cons, List.length_nil, Nat.reduceAdd, Nat.reduceSub, Array.replicate_succ, Array.replicate_zero, List.push_toArray, List.append_toArray, List.nil_append, List.cons_append]) ?_
 refine x_seq fun K1 hK1 => ?_
 refine x_region ?_
 refine s_go (s_assign) ?_
 try simp only [opv, n1, n2, n3, n4, Value.cells]
 refine x_nil ?_
 refine hK1 _ _ ?_
 refine x_seq fun K2 hK2 => ?_
 refine x_region ?_
 refine s_go (s_move) ?_
 try simp only [opv, n1, n2, n3, n4, Value.cells]
 refine s_go (s_nilCheck) ?_
 try simp only [opv, n1, n2, n3, n4, Value.cells]
 first | refine s_go (m_load_obj Tryz.underlying155 (hS := hS)) ?_ | refine s_go (m_load_bx Tryz.underlying155 (hS := hS)) ?_ | refine s_go (m_load_rd Tryz.underlying155 (hS := hS)) ?_ | refine s_go (m_load_vec Tryz.underlying155 (hS := hS)) ?_
 try simp only [opv, n1, n2, n3, n4, Value.cells, List.getElem_toArray, List.getElem_cons_zero, List.getElem_cons_succ]
 refine s_go (s_len_sl Tryz.underlying155) ?_
 try simp only [opv, n1, n2, n3, n4, Value.cells]
 refine s_go (s_sub (hc := by first | exact wr_i64 (by omega) (by omega) | rfl)) ?_
 try simp only [opv, n1, n2, n3, n4, Value.cells]
 rw [show (((n + 1 : Nat) : Int) - 1) = (n : Int) by omega]
 refine s_go (s_assign) ?_
 try simp only [opv, n1, n2, n3, n4, Value.cells]
 refine x_nil ?_
 refine hK2 _ _ ?_
 refine x_seq fun K3 hK3 => ?_
 refine x_region ?_
 refine s_go (s_move) ?_
 try simp only [opv, n1, n2, n3, n4, Value.cells]
 refine s_go (s_nilCheck) ?_
 try simp only [opv, n1, n2, n3, n4, Value.cells]
 first | refine s_go (m_load_obj Tryz.underlying155 (hS := hS)) ?_ | refine s_go (m_load_bx Tryz.underlying155 (hS := hS)) ?_ | refine s_go (m_load_rd Tryz.underlying155 (hS := hS)) ?_ | refine s_go (m_load_vec Tryz.underlying155 (hS := hS)) ?_
 try simp only [opv, n1, n2, n3, n4, Value.cells, List.getElem_toArray, List.getElem_cons_zero, List.getElem_cons_succ]
 refine s_go (s_move) ?_
 try simp only [opv, n1, n2, n3, n4, Value.cells]
 first | refine s_go (m_indexAddr_rd Tryz.underlying155 ti84 (hS := hS)) ?_ | refine s_go (m_indexAddr_vec Tryz.underlying155 ti84 (hS := hS)) ?_
 try simp only [opv, n1, n2, n3, n4, Value.cells, Nat.mul_one, Nat.zero_add, Int.toNat_natCast, Int.reduceToNat]
 first | refine s_go (m_load_obj Tryz.underlying84 (hS := hS)) ?_ | refine s_go (m_load_bx Tryz.underlying84 (hS := hS)) ?_ | refine s_go (m_load_rd Tryz.underlying84 (hS := hS)) ?_ | refine s_go (m_load_vec Tryz.underlying84 (hS := hS)) ?_
 try simp only [opv, n1, n2, n3, n4, Value.cells, List.getElem_toArray, List.getElem_cons_zero, List.getElem_cons_succ]
 refine s_go (s_assign) ?_
 try simp only [opv, n1, n2, n3, n4, Value.cells]
 refine x_nil ?_
 refine hK3 _ _ ?_
 refine x_seq fun K4 hK4 => ?_
 refine x_region ?_
 refine s_go (s_move) ?_
 try simp only [opv, n1, n2, n3, n4, Value.cells]
 refine s_go (s_move) ?_
 try simp only [opv, n1, n2, n3, n4, Value.cells]
 refine s_go (s_nilCheck) ?_
 try simp only [opv, n1, n2, n3, n4, Value.cells]
 first | refine s_go (m_load_obj Tryz.underlying155 (hS := hS)) ?_ | refine s_go (m_load_bx Tryz.underlying155 (hS := hS)) ?_ | refine s_go (m_load_rd Tryz.underlying155 (hS := hS)) ?_ | refine s_go (m_load_vec Tryz.underlying155 (hS := hS)) ?_
 try simp only [opv, n1, n2, n3, n4, Value.cells, List.getElem_toArray, List.getElem_cons_zero, List.getElem_cons_succ]
 refine s_go (s_move) ?_
 try simp only [opv, n1, n2, n3, n4, Value.cells]
 refine s_go (m_slice_lo0 (hi := n) Tryz.underlying155 ti84 (hhi := ⟨_, rfl⟩)) ?_
 try simp only [opv, n1, n2, n3, n4, Value.cells]
 refine s_go (s_nilCheck) ?_
 try simp only [opv, n1, n2, n3, n4, Value.cells]
 first | refine m_store_obj ti155 (hS := hS) (h := fun w1 hS => ?_) | refine m_store_vec ti155 (hS := hS) (h := fun w1 hS => ?_)
 try simp only [opv, n1, n2, n3, n4, Value.cells, Array.toArray_toList] at hS ⊢
 replace hS := hS.vec_cut n (by omega) (.tail .head)
 simp only [Nat.mul_one, ← List.map_take] at hS
 refine x_nil ?_
 refine hK4 _ _ ?_
 refine x_seq fun K5 hK5 => ?_
 refine x_region ?_
 refine s_go (s_move) ?_
 try simp only [opv, n1, n2, n3, n4, Value.cells]
 refine s_go (s_iface Tryz.underlying84) ?_
 try simp only [opv, n1, n2, n3, n4, Value.cells]
 refine s_go (s_assign) ?_
 try simp only [opv, n1, n2, n3, n4, Value.cells]
 refine x_nil ?_
 refine hK5 _ _ ?_
 refine x_ret ?_
 refine r_tmp rfl ?_
 exact ⟨rfl, hS.sel (by repeat (first | exact Sel.nil | (refine Sel.cons (by repeat (first | exact Del.head | apply Del.tail)) ?_)))⟩
theorem c_heapPush (w0 : World) (gw : Nat) (A : Option Addr) (c n : Nat) (l : List Int) (hl : l.length = n) (hn : n + 1 ≤ 4000000000) (hH : HeapN l n) (x : Int) (hM : St (OwnB [.obj gw (.cells #[.slice A n c] 155 (0, 0)), .vec A c 84 1 n (List.map (Value.int .u64) l)]) w0 w0 [.obj gw (.cells #[.slice A n c] 155 (0, 0)), .vec A c 84 1 n (List.map (Value.int .u64) l)])  :
    CallR Tryz.prog 103 #[.iface 154 (.pointer (some ⟨gw, 0, none⟩)), .iface 84 (.int .u64 x)] w0 fun v w' => ∃ (A2 : Option Addr) (c2 : Nat) (l2 : List Int), v = .tuple #[] ∧ l2.Perm (l ++ [x]) ∧ l2.length = n + 1 ∧ HeapN l2 (n + 1) ∧ St (OwnB [.obj gw (.cells #[.slice A n c] 155 (0, 0)), .vec A c 84 1 n (List.map (Value.int .u64) l)]) w0 w' [.obj gw (.cells #[.slice A2 (n + 1) c2] 155 (0, 0)), .vec A2 c2 84 1 (n + 1) (List.map (Value.int .u64) l2)] := by
 have hS := hM
 have hui := up_init (x := x) (by rw [hl]; exact hH)
 rw [hl] at hui
 have hal : (l ++ [x]).length = n + 1 := by rw [List.length_append, hl]; rfl
 refine c_enter (l := [.iface 154 (.pointer (some ⟨gw, 0, none⟩)), .iface 84 (.int .u64 x), undef, undef, undef, undef, undef, undef, undef, undef, undef, undef]) Tryz.func103 rfl (by simp only [Tryz.ntmps103, List.size_toArray, List.length_cons, List.length_nil, Nat.reduceAdd, Nat.reduceSub, Array.replicate_succ, Array.replicate_zero, List.push_toArray, List.append_toArray, List.nil_append, List.cons_append]) ?_
 refine x_seq fun K1 hK1 => ?_
 refine x_region ?_
 refine s_go (s_move) ?_
 try simp only [opv, n1, n2, n3, n4, Value.cells]
 refine s_go (s_move) ?_
 try simp only [opv, n1, n2, n3, n4, Value.cells]
 refine s_inv_ptr mt_push Tryz.underlying154 en279 (h := ?_)
 try simp only [opv, n1, n2, n3, n4, Value.cells, List.map_toArray, List.map_cons, List.map_nil, List.append_toArray, List.cons_append, List.nil_append, Array.append_empty]
 refine CallR.mono (c_wPush _ gw A c n l hl (by omega) x (hS.owns (by repeat (first | exact Spl.nil | (apply Spl.cons (by repeat (first | exact Del.head | apply Del.tail))))))) ?_
 rintro _ w1 ⟨A2, c2, rfl, hC1⟩
 replace hS := hS.frame (by repeat (first | exact Spl.nil | (apply Spl.cons (by repeat (first | exact Del.head | apply Del.tail))))) hC1 (by intro r hr g hg; simp only [List.mem_cons, List.not_mem_nil, or_false] at hr; rcases hr with rfl | rfl <;> simp [Res.reads] at hg)
 simp only [List.cons_append, List.nil_append] at hS
 try simp only [opv, n1, n2, n3, n4, Value.cells]
 refine x_nil ?_
 refine hK1 _ _ ?_
 refine x_region ?_
 refine s_go (s_move) ?_
 try simp only [opv, n1, n2, n3, n4, Value.cells]
 refine s_go (s_move) ?_
 try simp only [opv, n1, n2, n3, n4, Value.cells]
 refine s_inv_val mt_len Tryz.underlying154 Tryz.underlying155 en104 (hS := hS) (h := ?_)
 try simp only [opv, n1, n2, n3, n4, Value.cells, List.map_toArray, List.map_cons, List.map_nil, List.append_toArray, List.cons_append, List.nil_append, Array.append_empty]
 refine CallR.mono (c_wLen _ _ _ _) ?_
 rintro _ w2 ⟨rfl, hE2⟩
 replace hS := hS.ext hE2
 try simp only [opv, n1, n2, n3, n4, Value.cells]
 refine s_go (s_sub (hc := by first | exact wr_i64 (by omega) (by omega) | rfl)) ?_
 try simp only [opv, n1, n2, n3, n4, Value.cells]
 rw [show (((n + 1 : Nat) : Int) - 1) = (n : Int) by omega]
 refine s_call en169 ?_
 try simp only [opv, n1, n2, n3, n4, Value.cells, List.map_toArray, List.map_cons, List.map_nil, List.append_toArray, List.cons_append, List.nil_append, Array.append_empty]
 refine CallR.mono (c_heapUp _ gw A2 c2 (n + 1) (l ++ [x]) hal (by omega) n (by omega) hui (hS.owns (by repeat (first | exact Spl.nil | (apply Spl.cons (by repeat (first | exact Del.head | apply Del.tail))))))) ?_
 rintro _ w3 ⟨l2, rfl, hp, hl2, hH2, hC3⟩
 replace hS := hS.frame (by repeat (first | exact Spl.nil | (apply Spl.cons (by repeat (first | exact Del.head | apply Del.tail))))) hC3 (by intro r hr g hg; simp only [List.mem_cons, List.not_mem_nil, or_false] at hr; rcases hr with rfl | rfl <;> simp [Res.reads] at hg)
 simp only [List.cons_append, List.nil_append] at hS
 try simp only [opv, n1, n2, n3, n4, Value.cells]
 refine x_nil ?_
 refine r_none rfl ?_
 exact ⟨_, _, l2, rfl, hp, hl2, hH2, hS.sel (by repeat (first | exact Sel.nil | (refine Sel.cons (by repeat (first | exact Del.head | apply Del.tail)) ?_)))⟩
theorem c_heapPop (w0 : World) (gw : Nat) (A : Option Addr) (c n : Nat) (l : List Int) (hl : l.length = n + 1) (hn : n + 1 ≤ 4000000000) (hH : HeapN l (n + 1)) (hM : St (OwnB [.obj gw (.cells #[.slice A (n + 1) c] 155 (0, 0)), .vec A c 84 1 (n + 1) (List.map (Value.int .u64) l)]) w0 w0 [.obj gw (.cells #[.slice A (n + 1) c] 155 (0, 0)), .vec A c 84 1 (n + 1) (List.map (Value.int .u64) l)])  :
    CallR Tryz.prog 105 #[.iface 154 (.pointer (some ⟨gw, 0, none⟩))] w0 fun v w' => ∃ (l2 : List Int), v = .iface 84 (.int .u64 (l.getD 0 0)) ∧ l.Perm (l.getD 0 0 :: l2) ∧ l2.length = n ∧ HeapN l2 n ∧ (∀ y ∈ l2, l.getD 0 0 ≤ y) ∧ St (OwnB [.obj gw (.cells #[.slice A (n + 1) c] 155 (0, 0)), .vec A c 84 1 (n + 1) (List.map (Value.int .u64) l)]) w0 w' [.obj gw (.cells #[.slice A n c] 155 (0, 0)), .vec A c 84 1 n (List.map (Value.int .u64) l2)] := by
 have hS := hM
 have hl0 : 0 < l.length := by omega
 have hH0 : HeapN l l.length := by rw [hl]; exact hH
 have hdi := dn_init hH0 hl0
 have hsl := swp_last hl0
 have hsw := swp_len l 0 n
 have hsn : l.length - 1 = n := by omega
 rw [hsn] at hdi hsl
 refine c_enter (l := [.iface 154 (.pointer (some ⟨gw, 0, none⟩)), undef, undef, undef, undef, undef, undef, undef, undef, undef, undef, undef, undef, undef, undef]) Tryz.func105 rfl (by simp only [Tryz.ntmps105, List.size_toArray, List.length_cons, List.length_nil, Nat.reduceAdd, Nat.reduceSub, Array.replicate_succ, Array.replicate_zero, List.push_toArray, List.append_toArray, List.nil_append, List.cons_append]) ?_
 refine x_seq fun K1 hK1 => ?_
 refine x_region ?_
 refine s_go (s_assign) ?_
 try simp only [opv, n1, n2, n3, n4, Value.cells]
 refine x_nil ?_
 refine hK1 _ _ ?_
 refine x_seq fun K2 hK2 => ?_
 refine x_region ?_
 refine s_go (s_move) ?_
 try simp only [opv, n1, n2, n3, n4, Value.cells]
 refine s_inv_val mt_len Tryz.underlying154 Tryz.underlying155 en104 (hS := hS) (h := ?_)
 try simp only [opv, n1, n2, n3, n4, Value.cells, List.map_toArray, List.map_cons, List.map_nil, List.append_toArray, List.cons_append, List.nil_append, Array.append_empty]
 refine CallR.mono (c_wLen _ _ _ _) ?_
 rintro _ w1 ⟨rfl, hE1⟩
 replace hS := hS.ext hE1
 try simp only [opv, n1, n2, n3, n4, Value.cells]
 refine s_go (s_sub (hc := by first | exact wr_i64 (by omega) (by omega) | rfl)) ?_
 try simp only [opv, n1, n2, n3, n4, Value.cells]
 rw [show (((n + 1 : Nat) : Int) - 1) = (n : Int) by omega]
 refine s_go (s_assign) ?_
 try simp only [opv, n1, n2, n3, n4, Value.cells]
 refine x_nil ?_
 refine hK2 _ _ ?_
 refine x_seq fun K3 hK3 => ?_
 refine x_region ?_
 refine s_go (s_move) ?_
 try simp only [opv, n1, n2, n3, n4, Value.cells]
 refine s_go (s_move) ?_
 try simp only [opv, n1, n2, n3, n4, Value.cells]
 refine s_inv_val mt_swap Tryz.underlying154 Tryz.underlying155 en280 (hS := hS) (h := ?_)
 try simp only [opv, n1, n2, n3, n4, Value.cells, List.map_toArray, List.map_cons, List.map_nil, List.append_toArray, List.cons_append, List.nil_append, Array.append_empty]
 refine CallR.mono (c_wSwap _ A c (n + 1) l hl 0 n (by omega) (by omega) (hS.owns (by repeat (first | exact Spl.nil | (apply Spl.cons (by repeat (first | exact Del.head | apply Del.tail))))))) ?_
 rintro _ w2 ⟨rfl, hC2⟩
 replace hS := hS.frame (by repeat (first | exact Spl.nil | (apply Spl.cons (by repeat (first | exact Del.head | apply Del.tail))))) hC2 (by intro r hr g hg; simp only [List.mem_cons, List.not_mem_nil, or_false] at hr; subst hr; simp [Res.reads] at hg)
 simp only [List.cons_append, List.nil_append] at hS
 try simp only [opv, n1, n2, n3, n4, Value.cells]
 refine x_nil ?_
 refine hK3 _ _ ?_
 refine x_seq fun K4 hK4 => ?_
 refine x_region ?_
 refine s_go (s_move) ?_
 try simp only [opv, n1, n2, n3, n4, Value.cells]
 refine s_go (s_move) ?_
 try simp only [opv, n1, n2, n3, n4, Value.cells]
 refine s_call en170 ?_
 try simp only [opv, n1, n2, n3, n4, Value.cells, List.map_toArray, List.map_cons, List.map_nil, List.append_toArray, List.cons_append, List.nil_append, Array.append_empty]
 refine CallR.mono (c_heapDown _ gw A c (n + 1) (swp l 0 n) (by omega) (by omega) n (by omega) (by omega) hdi (hS.owns (by repeat (first | exact Spl.nil | (apply Spl.cons (by repeat (first | exact Del.head | apply Del.tail))))))) ?_
 rintro _ w3 ⟨l2, z, rfl, hp, hl2, hH2, hk2, hC3⟩
 replace hS := hS.frame (by repeat (first | exact Spl.nil | (apply Spl.cons (by repeat (first | exact Del.head | apply Del.tail))))) hC3 (by intro r hr g hg; simp only [List.mem_cons, List.not_mem_nil, or_false] at hr; rcases hr with rfl | rfl <;> simp [Res.reads] at hg)
 simp only [List.cons_append, List.nil_append] at hS
 try simp only [opv, n1, n2, n3, n4, Value.cells]
 refine x_nil ?_
 refine hK4 _ _ ?_
 refine x_seq fun K5 hK5 => ?_
 refine x_region ?_
 refine s_go (s_move) ?_
 try simp only [opv, n1, n2, n3, n4, Value.cells]
 refine s_inv_ptr mt_pop Tryz.underlying154 en278 (h := ?_)
 try simp only [opv, n1, n2, n3, n4, Value.cells, List.map_toArray, List.map_cons, List.map_nil, List.append_toArray, List.cons_append, List.nil_append, Array.append_empty]
 refine CallR.mono (c_wPop _ gw A c n l2 hl2 (by omega) (hS.owns (by repeat (first | exact Spl.nil | (apply Spl.cons (by repeat (first | exact Del.head | apply Del.tail))))))) ?_
 rintro _ w4 ⟨rfl, hC4⟩
 replace hS := hS.frame (by repeat (first | exact Spl.nil | (apply Spl.cons (by repeat (first | exact Del.head | apply Del.tail))))) hC4 (by intro r hr g hg; simp only [List.mem_cons, List.not_mem_nil, or_false] at hr; rcases hr with rfl | rfl <;> simp [Res.reads] at hg)
 simp only [List.cons_append, List.nil_append] at hS
 try simp only [opv, n1, n2, n3, n4, Value.cells]
 refine s_go (s_assign) ?_
 try simp only [opv, n1, n2, n3, n4, Value.cells]
 refine x_nil ?_
 refine hK5 _ _ ?_
 refine x_ret ?_
 refine r_tmp rfl ?_
 have hpe := pop_end (l2 := l2) hl0 hH0 (by rw [hsn]; exact hp) (by rw [hsn, hk2 n (Nat.le_refl _)]; exact hsl) (by rw [hsn]; exact hH2)
 rw [hsn] at hpe
 obtain ⟨e1, e2, e3⟩ := hpe
 have htk : (l2.take n).length = n := by rw [List.length_take]; omega
 rw [htk] at e1
 rw [hk2 n (Nat.le_refl _), hsl]
 exact ⟨_, rfl, e2, htk, e1, e3, hS.sel (by repeat (first | exact Sel.nil | (refine Sel.cons (by repeat (first | exact Del.head | apply Del.tail)) ?_)))⟩
end Go.Proofs.YtffmanidnlbjjaaGreat
