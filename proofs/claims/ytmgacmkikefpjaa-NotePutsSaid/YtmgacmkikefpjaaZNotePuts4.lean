/- Rules, plain words and walks that the claim leans on: Gg, Gh, Gk, Na, Nb. -/
import Derived.Test.YtmgacmkikefpjaaZNotePuts3
set_option linter.unusedSimpArgs false
set_option linter.unusedVariables false
set_option linter.unusedSimpArgs false
set_option linter.unusedVariables false
set_option maxHeartbeats 600000
set_option maxRecDepth 100000
namespace Go.Proofs.Ytmgacmkikefpjaa
open Go.RowKit

/-- what a call hands back to be read: new, or what it was handed -/
structure RBack (w0 w' : World) (A : Option Addr) (l : List (List Int)) (B : Option Addr) (s : List (List Int)) : Prop where
  ext : Ext w0 w'
  rd : Rd w' B 21 s.length (arows s)
  wh : ∀ b, (Res.rd B 21 s.length (arows s)).reads = some b → w0.heap.size ≤ b ∨ (Res.rd A 21 l.length (arows l)).reads = some b
theorem pair_apart {g : Nat} {r s : Res} (ho : r.own = some g) (hs : s.own = none) (hrd : s.reads = some g) : ∀ {M : List Res}, M.Pairwise Res.compat → r ∈ M → s ∈ M → False
  | [], _, h, _ => by cases h
  | x :: M, hp, h1, h2 => by
    obtain ⟨hh, ht⟩ := List.pairwise_cons.1 hp
    rcases List.mem_cons.1 h1 with e1 | h1
    · rcases List.mem_cons.1 h2 with e2 | h2
      · rw [e1, ← e2, hs] at ho; cases ho
      · rw [← e1] at hh; exact ((hh s h2 g).1 ho).2 hrd
    · rcases List.mem_cons.1 h2 with e2 | h2
      · rw [← e2] at hh; exact ((hh r h1 g).2 ho).2 hrd
      · exact pair_apart ho hs hrd ht h1 h2
theorem St.back {S : Nat → Prop} {w0 w w' : World} {L : List Res} {A B : Option Addr} {l s : List (List Int)} (h : St S w0 w L) (k : RBack w w' A l B s) (hm : Has L (.rd A 21 l.length (arows l)) := by repeat (first | exact Has.head | apply Has.tail)) : St S w0 w' (.rd B 21 s.length (arows s) :: L) := by
  refine (h.ext k.ext).add_rd k.rd fun r hr g hg e => ?_
  rcases k.wh g e with h1 | h1
  · have := own_lt (h.holds r hr) hg; omega
  · exact pair_apart hg rfl h1 h.apart hr hm.mem
theorem rback_self {w0 w' : World} {A : Option Addr} {l s : List (List Int)} (hE : Ext w0 w') (hR : Rd w' A 21 l.length (arows l)) (e : s = l) : RBack w0 w' A l A s := by subst e; exact ⟨hE, hR, fun b hb => .inr hb⟩
theorem rback_vec {w0 w' : World} {A B : Option Addr} {c : Nat} {e : TypeId} {l s : List (List Int)} {L : List Res} (h : St NoB w0 w' L) (hm : Has L (.vec B c e 21 s.length (arows s))) : RBack w0 w' A l B s :=
  ⟨h.ext_of, h.vecRd hm, fun b hb => .inl (by
    have : (Res.vec B c e 21 s.length (arows s)).own = some b := by
      simp only [Res.reads] at hb
      split at hb
      · cases hb
      · exact hb
    exact (h.own _ hm.mem b this).resolve_left (fun f => f))⟩
theorem arow_key {l : List (List Int)} {k : Nat} (hk : k < l.length) (hv : AOks l) : (((arows l).drop (k * 21)).take 12).toArray = KA (akey (l.getD k [])) := by
  have ha := hv.get hk
  have h1 := congrArg Array.toList (arow_get hk hv)
  rw [List.toList_toArray] at h1
  have h2 : ((arows l).drop (k * 21)).take 12 = (((arows l).drop (k * 21)).take 21).take 12 := by rw [List.take_take]; rfl
  have h3 := atom_key ha.len
  rw [List.drop_zero] at h3
  rw [h2, h1, h3]
theorem arow_val {l : List (List Int)} {k : Nat} (hk : k < l.length) (hv : AOks l) : (((arows l).drop (k * 21 + 12)).take 9).toArray = VA (aval (l.getD k [])) := by
  have ha := hv.get hk
  have h1 := congrArg Array.toList (arow_get hk hv)
  rw [List.toList_toArray] at h1
  have h2 : ((arows l).drop (k * 21 + 12)).take 9 = ((((arows l).drop (k * 21)).take 21).drop 12).take 9 := by rw [List.drop_take, List.drop_drop, List.take_take]; simp
  rw [h2, h1, atom_val ha.len]
theorem put_step {a x : List Int} {l o : List (List Int)} {k : Nat} {dn : Bool} (hk : k < l.length) (hx : l.getD k [] = x) (h : (l.take k).foldl (putF a) ([], false) = (o, dn)) : (l.take (k + 1)).foldl (putF a) ([], false) = putF a (o, dn) x := by
  rw [take_snoc hk, List.foldl_append, h, hx]; rfl
theorem put_eqk {a x : List Int} {o : List (List Int)} {dn : Bool} (h : akey x = akey a) : putF a (o, dn) x = (o ++ [akey a ++ moreV (aval x) (aval a)], true) := by simp [putF, h]
theorem put_lt {a x : List Int} {o : List (List Int)} (h : ¬ akey x = akey a) (h2 : keyLt (akey a) (akey x) = true) : putF a (o, false) x = ((o ++ [a]) ++ [x], true) := by simp [putF, h, h2]
theorem put_on {a x : List Int} {o : List (List Int)} (h : ¬ akey x = akey a) (h2 : keyLt (akey a) (akey x) = false) : putF a (o, false) x = (o ++ [x], false) := by simp [putF, h, h2]
theorem put_dn {a x : List Int} {o : List (List Int)} (h : ¬ akey x = akey a) : putF a (o, true) x = (o ++ [x], true) := by simp [putF, h]
theorem put_end {a : List Int} {l o : List (List Int)} {dn : Bool} (h : l.foldl (putF a) ([], false) = (o, dn)) : putS a l = if dn = true then o else o ++ [a] := by rw [putS, h]
theorem add_one {o : List (List Int)} {y : List Int} : arows o ++ arows [y] = arows (o ++ [y]) := (rowsZ_app _ _ _).symm

theorem c_ref10Right (w0 : World) (A : Option Addr) (c : Nat) (l : List (List Int)) (hr : Rd w0 A 21 l.length (arows l)) (hv : AOks l) (hn : l.length ≤ 1000000000)  :
    CallR Try.prog 30 #[.slice A l.length c] w0 fun v w' => v = .bool (rightL l) ∧ Ext w0 w' := by
 have hS := St.rd1 (S := NoB) hr
 have hvl := arows_len l
 refine c_enter (l := [.slice A l.length c, undef, undef, undef, undef, undef, undef, undef, undef, undef, undef, undef, undef, undef, undef, undef, undef, undef, undef, undef, undef, undef, undef, undef, undef, undef, undef, undef, undef, undef, undef, undef, undef, undef, undef]) Try.func30 rfl (by simp only [Try.ntmps30, List.size_toArray, List.length_cons, List.length_nil, Nat.reduceAdd, Nat.reduceSub, Array.replicate_succ, Array.replicate_zero, List.push_toArray, List.append_toArray, List.nil_append, List.cons_append]) ?_
 refine x_seq fun K1 hK1 => ?_
 refine x_region ?_
 refine s_go (s_assign) ?_
 try simp only [opv, n1, n2, n3, n4, Value.cells]
 refine x_nil ?_
 refine hK1 _ _ ?_
 refine x_seq fun K2 hK2 => ?_
 refine x_seq fun K3 hK3 => ?_
 refine x_region ?_
 refine s_go (s_assign) ?_
 try simp only [opv, n1, n2, n3, n4, Value.cells]
 refine x_nil ?_
 refine hK3 _ _ ?_
 refine x_block ?_
 refine x_loop [2, 3, 4, 5, 6, 7, 8, 9, 10, 11, 12, 13, 14, 15, 16, 17, 18, 19, 20, 21, 22, 23, 24, 25, 26, 27, 28, 29, 30, 31, 32, 33, 34] (fun m f w => ∃ k : Nat, k ≤ l.length ∧ m = l.length - k ∧ f 3 = .int .i64 (k : Int) ∧ rgt l k = true ∧ St NoB w0 w [.rd A 21 (l).length (arows (l))]) (l.length) ?init1 (fun m1 f1 wl1 hI => ?_)
 case init1 =>
  try simp only [opv, n1, n2, n3, n4, Value.cells]
  exact ⟨0, by omega, rfl, rfl, rfl, hS⟩
 obtain ⟨k, hk0, hm, h3, hrg, hS⟩ := hI
 simp only [clob, List.foldl, n3, n4, h3]
 obtain ⟨x, hx⟩ : ∃ x, l.getD k [] = x := ⟨_, rfl⟩
 refine x_seq fun K4 hK4 => ?_
 refine x_seq fun K5 hK5 => ?_
 refine x_region ?_
 refine s_go (s_move) ?_
 try simp only [opv, n1, n2, n3, n4, Value.cells]
 refine s_go (s_move) ?_
 try simp only [opv, n1, n2, n3, n4, Value.cells]
 refine s_go (s_len_sl Try.underlying24) ?_
 try simp only [opv, n1, n2, n3, n4, Value.cells]
 refine s_go (s_lss) ?_
 try simp only [opv, n1, n2, n3, n4, Value.cells]
 refine x_nil ?_
 refine hK5 _ _ ?_
 refine x_cond (ht := fun hc1 => ?_) (hf := fun hc1 => ?_)
 ·
  try simp only [decide_eq_true_eq, decide_eq_false_iff_not, Bool.not_eq_true', Bool.not_eq_false', Int.not_lt, Int.not_le, ne_eq, Decidable.not_not, bne_iff_ne, beq_iff_eq, not_true_eq_false, not_false_eq_true] at hc1
  have ha : AtomOk x := by rw [← hx]; exact hv.get (by omega)
  have hal := ha.len
  have hk := ha.key
  have hkl := hk.len
  refine x_skip ?_
  refine hK4 _ _ ?_
  refine x_seq fun K6 hK6 => ?_
  refine x_block ?_
  refine x_seq fun K7 hK7 => ?_
  refine x_quiet (by kernel_rfl) (by kernel_rfl) hS ?_
  refine q_go (fun w hS => s_move) ?_
  try simp only [opv, n1, n2, n3, n4, Value.cells]
  refine q_go (fun w hS => s_move) ?_
  try simp only [opv, n1, n2, n3, n4, Value.cells]
  first | refine q_go (fun w hS => m_indexAddr_rd Try.underlying24 ti39 (hS := hS)) ?_ | refine q_go (fun w hS => m_indexAddr_vec Try.underlying24 ti39 (hS := hS)) ?_
  try simp only [opv, n1, n2, n3, n4, Value.cells, Nat.mul_one, Nat.zero_add, Int.toNat_natCast, Int.reduceToNat]
  first | refine q_go (fun w hS => m_load_row Try.underlying39 (hi := ti39) (hS := hS) (hfit := by rw [arows_len]; omega)) ?_ | refine q_go (fun w hS => m_loada_obj Try.underlying39 (hi := ti39) (hS := hS) (hfit := by rw [arows_len]; omega)) ?_ | refine q_go (fun w hS => m_loada_bx Try.underlying39 (hi := ti39) (hS := hS) (hfit := by rw [arows_len]; omega)) ?_ | refine q_go (fun w hS => m_loada_rd Try.underlying39 (hi := ti39) (hS := hS) (hfit := by rw [arows_len]; omega)) ?_ | refine q_go (fun w hS => m_loada_vec Try.underlying39 (hi := ti39) (hS := hS) (hfit := by rw [arows_len]; omega)) ?_
  try simp only [opv, n1, n2, n3, n4, Value.cells, List.getElem_toArray, List.getElem_cons_zero, List.getElem_cons_succ]
  rw [arow_get (by omega) hv, hx]
  apply q_call en115
  case H =>
    intro w hS
    try simp only [opv, n1, n2, n3, n4, List.map_toArray, List.map_cons, List.map_nil, List.append_toArray, List.cons_append, List.nil_append, Array.append_empty]
    refine CallR.mono (c_ref09Right x ha _) ?_
    rintro _ w1 ⟨rfl, hE⟩; exact ⟨rfl, hS.ext hE⟩
  try simp only [opv, n1, n2, n3, n4, Value.cells]
  refine q_go (fun w hS => s_not) ?_
  try simp only [opv, n1, n2, n3, n4, Value.cells]
  refine q_go (fun w hS => s_move) ?_
  try simp only [opv, n1, n2, n3, n4, Value.cells]
  refine q_part 16 rfl (fun hp1 => ?_) (fun hp1 => ?_)
  ·
   try simp only [n3, n4]
   try simp only [decide_eq_true_eq, decide_eq_false_iff_not, Bool.not_eq_true', Bool.not_eq_false', Int.not_lt, Int.not_le, ne_eq, Decidable.not_not] at hp1
   have hR : rightL l = false := rgt_false (k := k) (by rw [rgtAt, hx, show atomR x = false by simpa using hp1]; rfl) (by omega)
   refine q_off (yi (t := 16) rfl rfl) ?_
   try simp only [opv, n1, n2, n3, n4, Value.cells]
   refine q_off (yi (t := 16) rfl rfl) ?_
   try simp only [opv, n1, n2, n3, n4, Value.cells]
   refine q_off (yi (t := 16) rfl rfl) ?_
   try simp only [opv, n1, n2, n3, n4, Value.cells]
   refine q_un (yn (t := 19) rfl rfl) ?_
   try simp only [opv, n1, n2, n3, n4, Value.cells]
   refine q_un (yn (t := 19) rfl rfl) ?_
   try simp only [opv, n1, n2, n3, n4, Value.cells]
   refine q_un (yn (t := 19) rfl rfl) ?_
   try simp only [opv, n1, n2, n3, n4, Value.cells]
   refine q_un (yn (t := 19) rfl rfl) ?_
   try simp only [opv, n1, n2, n3, n4, Value.cells]
   refine q_un (yn (t := 19) rfl rfl) ?_
   try simp only [opv, n1, n2, n3, n4, Value.cells]
   refine q_un (yn (t := 19) rfl rfl) ?_
   try simp only [opv, n1, n2, n3, n4, Value.cells]
   refine q_un (yn (t := 19) rfl rfl) ?_
   try simp only [opv, n1, n2, n3, n4, Value.cells]
   refine q_un (yn (t := 19) rfl rfl) ?_
   try simp only [opv, n1, n2, n3, n4, Value.cells]
   refine q_un (yn (t := 19) rfl rfl) ?_
   try simp only [opv, n1, n2, n3, n4, Value.cells]
   refine q_un (yn (t := 19) rfl rfl) ?_
   try simp only [opv, n1, n2, n3, n4, Value.cells]
   refine q_un (yn (t := 19) rfl rfl) ?_
   try simp only [opv, n1, n2, n3, n4, Value.cells]
   refine q_un (yn (t := 19) rfl rfl) ?_
   try simp only [opv, n1, n2, n3, n4, Value.cells]
   refine q_un (yn (t := 19) rfl rfl) ?_
   try simp only [opv, n1, n2, n3, n4, Value.cells]
   refine q_off (yi (t := 16) rfl rfl) ?_
   try simp only [opv, n1, n2, n3, n4, Value.cells]
   first | refine q_go (fun w hS => s_pick_t) ?_ | refine q_go (fun w hS => s_pick_f) ?_
   try simp only [opv, n1, n2, n3, n4, Value.cells]
   clear hS
   refine q_nil fun w1 hS => ?_
   refine hK7 _ _ ?_
   refine x_cond_t (h := ?_)
   try have hR : rightL l = false := rgt_false (k := k) (by rw [rgtAt, hx, hy, decide_eq_false (show ¬ k = 0 by omega), show keyLt (akey y) (akey x) = false by simpa using @c, Bool.or_false, Bool.and_false]) (by omega)
   refine x_seq fun K8 hK8 => ?_
   refine x_region ?_
   refine s_go (s_assign) ?_
   try simp only [opv, n1, n2, n3, n4, Value.cells]
   refine x_nil ?_
   refine hK8 _ _ ?_
   refine x_ret ?_
   refine r_tmp rfl ?_
   exact ⟨by rw [hR]; rfl, hS.ext_of⟩
  ·
   try simp only [n3, n4]
   try simp only [decide_eq_true_eq, decide_eq_false_iff_not, Bool.not_eq_true', Bool.not_eq_false', Int.not_lt, Int.not_le, ne_eq, Decidable.not_not] at hp1
   have hax : atomR x = true := by simpa using hp1
   refine q_on (yi (t := 16) rfl rfl) ?_
   refine q_go (fun w hS => s_move) ?_
   try simp only [opv, n1, n2, n3, n4, Value.cells]
   refine q_on (yi (t := 16) rfl rfl) ?_
   refine q_go (fun w hS => s_gtr) ?_
   try simp only [opv, n1, n2, n3, n4, Value.cells]
   refine q_on (yi (t := 16) rfl rfl) ?_
   refine q_go (fun w hS => s_move) ?_
   try simp only [opv, n1, n2, n3, n4, Value.cells]
   refine q_part 19 rfl (fun hp2 => ?_) (fun hp2 => ?_)
   ·
    try simp only [n3, n4]
    try simp only [decide_eq_true_eq, decide_eq_false_iff_not, Bool.not_eq_true', Bool.not_eq_false', Int.not_lt, Int.not_le, ne_eq, Decidable.not_not] at hp2
    obtain ⟨y, hy⟩ : ∃ y, l.getD (k - 1) [] = y := ⟨_, rfl⟩
    have hb : AtomOk y := by rw [← hy]; exact hv.get (by omega)
    have hkb := hb.key
    refine q_on (yi (t := 19) rfl rfl) ?_
    refine q_go (fun w hS => s_move) ?_
    try simp only [opv, n1, n2, n3, n4, Value.cells]
    refine q_on (yi (t := 19) rfl rfl) ?_
    refine q_go (fun w hS => s_move) ?_
    try simp only [opv, n1, n2, n3, n4, Value.cells]
    refine q_on (yi (t := 19) rfl rfl) ?_
    refine q_go (fun w hS => s_sub (hc := by first | exact wr_i64 (by omega) (by omega) | rfl)) ?_
    try simp only [opv, n1, n2, n3, n4, Value.cells]
    rw [show ((k : Int) - 1) = ((k - 1 : Nat) : Int) by omega]
    refine q_on (yi (t := 19) rfl rfl) ?_
    first | refine q_go (fun w hS => m_indexAddr_rd Try.underlying24 ti39 (hS := hS)) ?_ | refine q_go (fun w hS => m_indexAddr_vec Try.underlying24 ti39 (hS := hS)) ?_
    try simp only [opv, n1, n2, n3, n4, Value.cells, Nat.mul_one, Nat.zero_add, Int.toNat_natCast, Int.reduceToNat]
    refine q_on (yi (t := 19) rfl rfl) ?_
    first | refine q_go (fun w hS => m_fieldAddr Try.underlying39 (hi := ti34)) ?_ | refine q_go (fun w hS => m_fieldAddr_rd Try.underlying39 (hi := ti34) (hS := hS)) ?_ | refine q_go (fun w hS => m_fieldAddr_vec Try.underlying39 (hi := ti34) (hS := hS)) ?_
    try simp only [opv, n1, n2, n3, n4, Value.cells, Nat.zero_add, Nat.add_zero, List.getElem_toArray, List.getElem_cons_zero, List.getElem_cons_succ]
    refine q_on (yi (t := 19) rfl rfl) ?_
    first | refine q_go (fun w hS => m_load_row Try.underlying34 (hi := ti34) (hS := hS) (hfit := by rw [arows_len]; omega)) ?_ | refine q_go (fun w hS => m_loada_obj Try.underlying34 (hi := ti34) (hS := hS) (hfit := by rw [arows_len]; omega)) ?_ | refine q_go (fun w hS => m_loada_bx Try.underlying34 (hi := ti34) (hS := hS) (hfit := by rw [arows_len]; omega)) ?_ | refine q_go (fun w hS => m_loada_rd Try.underlying34 (hi := ti34) (hS := hS) (hfit := by rw [arows_len]; omega)) ?_ | refine q_go (fun w hS => m_loada_vec Try.underlying34 (hi := ti34) (hS := hS) (hfit := by rw [arows_len]; omega)) ?_
    try simp only [opv, n1, n2, n3, n4, Value.cells, List.getElem_toArray, List.getElem_cons_zero, List.getElem_cons_succ]
    rw [arow_key (by omega) hv, hy]
    refine q_on (yi (t := 19) rfl rfl) ?_
    refine q_go (fun w hS => s_move) ?_
    try simp only [opv, n1, n2, n3, n4, Value.cells]
    refine q_on (yi (t := 19) rfl rfl) ?_
    refine q_go (fun w hS => s_move) ?_
    try simp only [opv, n1, n2, n3, n4, Value.cells]
    refine q_on (yi (t := 19) rfl rfl) ?_
    first | refine q_go (fun w hS => m_indexAddr_rd Try.underlying24 ti39 (hS := hS)) ?_ | refine q_go (fun w hS => m_indexAddr_vec Try.underlying24 ti39 (hS := hS)) ?_
    try simp only [opv, n1, n2, n3, n4, Value.cells, Nat.mul_one, Nat.zero_add, Int.toNat_natCast, Int.reduceToNat]
    refine q_on (yi (t := 19) rfl rfl) ?_
    first | refine q_go (fun w hS => m_fieldAddr Try.underlying39 (hi := ti34)) ?_ | refine q_go (fun w hS => m_fieldAddr_rd Try.underlying39 (hi := ti34) (hS := hS)) ?_ | refine q_go (fun w hS => m_fieldAddr_vec Try.underlying39 (hi := ti34) (hS := hS)) ?_
    try simp only [opv, n1, n2, n3, n4, Value.cells, Nat.zero_add, Nat.add_zero, List.getElem_toArray, List.getElem_cons_zero, List.getElem_cons_succ]
    refine q_on (yi (t := 19) rfl rfl) ?_
    first | refine q_go (fun w hS => m_load_row Try.underlying34 (hi := ti34) (hS := hS) (hfit := by rw [arows_len]; omega)) ?_ | refine q_go (fun w hS => m_loada_obj Try.underlying34 (hi := ti34) (hS := hS) (hfit := by rw [arows_len]; omega)) ?_ | refine q_go (fun w hS => m_loada_bx Try.underlying34 (hi := ti34) (hS := hS) (hfit := by rw [arows_len]; omega)) ?_ | refine q_go (fun w hS => m_loada_rd Try.underlying34 (hi := ti34) (hS := hS) (hfit := by rw [arows_len]; omega)) ?_ | refine q_go (fun w hS => m_loada_vec Try.underlying34 (hi := ti34) (hS := hS) (hfit := by rw [arows_len]; omega)) ?_
    try simp only [opv, n1, n2, n3, n4, Value.cells, List.getElem_toArray, List.getElem_cons_zero, List.getElem_cons_succ]
    rw [arow_key (by omega) hv, hx]
    refine q_on (yi (t := 19) rfl rfl) ?_
    apply q_call en116
    case H =>
      intro w hS
      try simp only [opv, n1, n2, n3, n4, List.map_toArray, List.map_cons, List.map_nil, List.append_toArray, List.cons_append, List.nil_append, Array.append_empty]
      refine CallR.mono (c_ref08Less (akey y) (akey x) hkb hk _) ?_
      rintro _ w1 ⟨rfl, hE⟩; exact ⟨rfl, hS.ext hE⟩
    try simp only [opv, n1, n2, n3, n4, Value.cells]
    refine q_on (yi (t := 19) rfl rfl) ?_
    refine q_go (fun w hS => s_not) ?_
    try simp only [opv, n1, n2, n3, n4, Value.cells]
    refine q_on (yi (t := 16) rfl rfl) ?_
    first | refine q_go (fun w hS => s_pick_t) ?_ | refine q_go (fun w hS => s_pick_f) ?_
    try simp only [opv, n1, n2, n3, n4, Value.cells]
    first | refine q_go (fun w hS => s_pick_t) ?_ | refine q_go (fun w hS => s_pick_f) ?_
    try simp only [opv, n1, n2, n3, n4, Value.cells]
    clear hS
    refine q_nil fun w2 hS => ?_
    refine hK7 _ _ ?_
    refine x_cond (ht := fun hc3 => ?_) (hf := fun hc3 => ?_)
    ·
     try simp only [decide_eq_true_eq, decide_eq_false_iff_not, Bool.not_eq_true', Bool.not_eq_false', Int.not_lt, Int.not_le, ne_eq, Decidable.not_not, bne_iff_ne, beq_iff_eq, not_true_eq_false, not_false_eq_true] at hc3
     try have hR : rightL l = false := rgt_false (k := k) (by rw [rgtAt, hx, hy, decide_eq_false (show ¬ k = 0 by omega), show keyLt (akey y) (akey x) = false by simpa using hc3, Bool.or_false, Bool.and_false]) (by omega)
     refine x_seq fun K9 hK9 => ?_
     refine x_region ?_
     refine s_go (s_assign) ?_
     try simp only [opv, n1, n2, n3, n4, Value.cells]
     refine x_nil ?_
     refine hK9 _ _ ?_
     refine x_ret ?_
     refine r_tmp rfl ?_
     exact ⟨by rw [hR]; rfl, hS.ext_of⟩
    ·
     try simp only [decide_eq_true_eq, decide_eq_false_iff_not, Bool.not_eq_true', Bool.not_eq_false', Int.not_lt, Int.not_le, ne_eq, Decidable.not_not, bne_iff_ne, beq_iff_eq, not_true_eq_false, not_false_eq_true] at hc3
     try have hat : rgtAt l k = true := by rw [rgtAt, hx, hy, hax, show keyLt (akey y) (akey x) = true by simpa using hc3, Bool.or_true]; rfl
     refine x_skip ?_
     refine hK6 _ _ ?_
     refine x_region ?_
     refine s_go (s_move) ?_
     try simp only [opv, n1, n2, n3, n4, Value.cells]
     refine s_go (s_add (hc := by first | exact wr_i64 (by omega) (by omega) | rfl)) ?_
     try simp only [opv, n1, n2, n3, n4, Value.cells]
     refine s_go (s_assign) ?_
     try simp only [opv, n1, n2, n3, n4, Value.cells]
     refine x_nil ?_
     refine loop_back (m' := l.length - (k + 1)) (by simp only [clob, List.foldl, n1, n2, n3, n4]) ?_ ?_
     · try simp only [opv, n1, n2, n3, n4, Value.cells]
       exact ⟨k + 1, by omega, by omega, by rfl, by rw [rgt, hrg, hat]; rfl, hS.sel (by repeat (first | exact Sel.nil | (refine Sel.cons (by repeat (first | exact Del.head | apply Del.tail)) ?_)))⟩
     · omega
   ·
    try simp only [n3, n4]
    try simp only [decide_eq_true_eq, decide_eq_false_iff_not, Bool.not_eq_true', Bool.not_eq_false', Int.not_lt, Int.not_le, ne_eq, Decidable.not_not] at hp2
    have hat : rgtAt l k = true := by rw [rgtAt, hx, hax, decide_eq_true (show k = 0 by omega)]; rfl
    refine q_off (yi (t := 19) rfl rfl) ?_
    try simp only [opv, n1, n2, n3, n4, Value.cells]
    refine q_off (yi (t := 19) rfl rfl) ?_
    try simp only [opv, n1, n2, n3, n4, Value.cells]
    refine q_off (yi (t := 19) rfl rfl) ?_
    try simp only [opv, n1, n2, n3, n4, Value.cells]
    refine q_off (yi (t := 19) rfl rfl) ?_
    try simp only [opv, n1, n2, n3, n4, Value.cells]
    refine q_off (yi (t := 19) rfl rfl) ?_
    try simp only [opv, n1, n2, n3, n4, Value.cells]
    refine q_off (yi (t := 19) rfl rfl) ?_
    try simp only [opv, n1, n2, n3, n4, Value.cells]
    refine q_off (yi (t := 19) rfl rfl) ?_
    try simp only [opv, n1, n2, n3, n4, Value.cells]
    refine q_off (yi (t := 19) rfl rfl) ?_
    try simp only [opv, n1, n2, n3, n4, Value.cells]
    refine q_off (yi (t := 19) rfl rfl) ?_
    try simp only [opv, n1, n2, n3, n4, Value.cells]
    refine q_off (yi (t := 19) rfl rfl) ?_
    try simp only [opv, n1, n2, n3, n4, Value.cells]
    refine q_off (yi (t := 19) rfl rfl) ?_
    try simp only [opv, n1, n2, n3, n4, Value.cells]
    refine q_off (yi (t := 19) rfl rfl) ?_
    try simp only [opv, n1, n2, n3, n4, Value.cells]
    refine q_off (yi (t := 19) rfl rfl) ?_
    try simp only [opv, n1, n2, n3, n4, Value.cells]
    refine q_on (yi (t := 16) rfl rfl) ?_
    first | refine q_go (fun w hS => s_pick_t) ?_ | refine q_go (fun w hS => s_pick_f) ?_
    try simp only [opv, n1, n2, n3, n4, Value.cells]
    first | refine q_go (fun w hS => s_pick_t) ?_ | refine q_go (fun w hS => s_pick_f) ?_
    try simp only [opv, n1, n2, n3, n4, Value.cells]
    clear hS
    refine q_nil fun w3 hS => ?_
    refine hK7 _ _ ?_
    refine x_cond_f (h := ?_)
    try have hat : rgtAt l k = true := by rw [rgtAt, hx, hy, hax, show keyLt (akey y) (akey x) = true by simpa using @c, Bool.or_true]; rfl
    refine x_skip ?_
    refine hK6 _ _ ?_
    refine x_region ?_
    refine s_go (s_move) ?_
    try simp only [opv, n1, n2, n3, n4, Value.cells]
    refine s_go (s_add (hc := by first | exact wr_i64 (by omega) (by omega) | rfl)) ?_
    try simp only [opv, n1, n2, n3, n4, Value.cells]
    refine s_go (s_assign) ?_
    try simp only [opv, n1, n2, n3, n4, Value.cells]
    refine x_nil ?_
    refine loop_back (m' := l.length - (k + 1)) (by simp only [clob, List.foldl, n1, n2, n3, n4]) ?_ ?_
    · try simp only [opv, n1, n2, n3, n4, Value.cells]
      exact ⟨k + 1, by omega, by omega, by rfl, by rw [rgt, hrg, hat]; rfl, hS.sel (by repeat (first | exact Sel.nil | (refine Sel.cons (by repeat (first | exact Del.head | apply Del.tail)) ?_)))⟩
    · omega
 ·
  try simp only [decide_eq_true_eq, decide_eq_false_iff_not, Bool.not_eq_true', Bool.not_eq_false', Int.not_lt, Int.not_le, ne_eq, Decidable.not_not, bne_iff_ne, beq_iff_eq, not_true_eq_false, not_false_eq_true] at hc1
  obtain rfl : k = l.length := by omega
  have hR : rightL l = true := hrg
  refine x_exit (look_here ?_)
  refine hK2 _ _ ?_
  refine x_seq fun K10 hK10 => ?_
  refine x_region ?_
  refine s_go (s_assign) ?_
  try simp only [opv, n1, n2, n3, n4, Value.cells]
  refine x_nil ?_
  refine hK10 _ _ ?_
  refine x_ret ?_
  refine r_tmp rfl ?_
  exact ⟨by rw [hR]; rfl, hS.ext_of⟩
theorem c_ref10put (w0 : World) (A : Option Addr) (c : Nat) (l : List (List Int)) (hr : Rd w0 A 21 l.length (arows l)) (hv : AOks l) (hn : l.length ≤ 1000000000) (a : List Int) (ha : AtomOk a)  :
    CallR Try.prog 117 #[.slice A l.length c, .agg (AA a)] w0 fun v w' => ∃ B d, v = .slice B (putS a l).length d ∧ St NoB w0 w' [.vec B d 39 21 (putS a l).length (arows (putS a l))] := by
 have hS := St.rd1 (S := NoB) hr
 have hvl := arows_len l
 have hal := ha.len
 have hka := ha.key
 have hka12 := hka.len
 have hva := ha.val
 refine c_enter (l := [.slice A l.length c, .agg (AA a), undef, undef, undef, undef, undef, undef, undef, undef, undef, undef, undef, undef, undef, undef, undef, undef, undef, undef, undef, undef, undef, undef, undef, undef, undef, undef, undef, undef, undef, undef, undef, undef, undef, undef, undef, undef, undef, undef, undef, undef, undef, undef, undef, undef, undef, undef, undef, undef, undef, undef, undef, undef, undef, undef, undef, undef, undef, undef, undef, undef, undef, undef, undef, undef]) Try.func117 rfl (by simp only [Try.ntmps117, List.size_toArray, List.length_cons, List.length_nil, Nat.reduceAdd, Nat.reduceSub, Array.replicate_succ, Array.replicate_zero, List.push_toArray, List.append_toArray, List.nil_append, List.cons_append]) ?_
 refine x_seq fun K1 hK1 => ?_
 refine x_region ?_
 refine m_box hS (fun w1 g1 hS => ?_)
 try simp only [opv, n1, n2, n3, n4, Value.cells, Array.toArray_toList] at hS ⊢
 refine s_go (s_assign) ?_
 try simp only [opv, n1, n2, n3, n4, Value.cells]
 refine x_nil ?_
 refine hK1 _ _ ?_
 refine x_seq fun K2 hK2 => ?_
 refine x_region ?_
 refine s_go (s_assign) ?_
 try simp only [opv, n1, n2, n3, n4, Value.cells]
 refine x_nil ?_
 refine hK2 _ _ ?_
 refine x_seq fun K3 hK3 => ?_
 refine x_region ?_
 refine s_go (s_assign) ?_
 try simp only [opv, n1, n2, n3, n4, Value.cells]
 refine x_nil ?_
 refine hK3 _ _ ?_
 refine x_seq fun K4 hK4 => ?_
 refine x_seq fun K5 hK5 => ?_
 refine x_region ?_
 replace hS := hS.nil_vec 39 21
 refine s_go (s_assign) ?_
 try simp only [opv, n1, n2, n3, n4, Value.cells]
 refine x_nil ?_
 refine hK5 _ _ ?_
 refine x_block ?_
 refine x_loop [5, 6, 7, 8, 9, 10, 11, 12, 13, 14, 15, 16, 17, 18, 19, 20, 21, 22, 23, 24, 25, 26, 27, 28, 29, 30, 31, 32, 33, 34, 35, 36, 37, 38, 39, 40, 41, 42, 43, 44, 45, 46, 47, 48, 49, 50, 51, 52, 53, 54, 55, 56, 57, 58] (fun m f w => ∃ (k : Nat) (B : Option Addr) (d : Nat) (o : List (List Int)) (dn : Bool), k ≤ l.length ∧ m = l.length - k ∧ f 7 = .int .i64 (k : Int) ∧ f 6 = .bool dn ∧ f 5 = .slice B o.length d ∧ (l.take k).foldl (putF a) ([], false) = (o, dn) ∧ o.length ≤ 2 * k ∧ St NoB w0 w [.vec B d 39 21 (o).length (arows (o)), .obj g1 (.cells (AA a) 39 (0, 0)), .rd A 21 (l).length (arows (l))]) (l.length) ?init1 (fun m1 f1 wl1 hI => ?_)
 case init1 =>
  try simp only [opv, n1, n2, n3, n4, Value.cells]
  exact ⟨0, none, 0, [], false, by omega, rfl, rfl, rfl, rfl, rfl, by simp, hS⟩
 obtain ⟨k, B, d, o, dn, hk0, hm, h7, h6, h5, hst, hol, hS⟩ := hI
 simp only [clob, List.foldl, n3, n4, h7, h6, h5]
 obtain ⟨x, hx⟩ : ∃ x, l.getD k [] = x := ⟨_, rfl⟩
 refine x_seq fun K6 hK6 => ?_
 refine x_seq fun K7 hK7 => ?_
 refine x_region ?_
 refine s_go (s_move) ?_
 try simp only [opv, n1, n2, n3, n4, Value.cells]
 refine s_go (s_move) ?_
 try simp only [opv, n1, n2, n3, n4, Value.cells]
 refine s_go (s_len_sl Try.underlying24) ?_
 try simp only [opv, n1, n2, n3, n4, Value.cells]
 refine s_go (s_lss) ?_
 try simp only [opv, n1, n2, n3, n4, Value.cells]
 refine x_nil ?_
 refine hK7 _ _ ?_
 refine x_cond (ht := fun hc1 => ?_) (hf := fun hc1 => ?_)
 ·
  try simp only [decide_eq_true_eq, decide_eq_false_iff_not, Bool.not_eq_true', Bool.not_eq_false', Int.not_lt, Int.not_le, ne_eq, Decidable.not_not, bne_iff_ne, beq_iff_eq, not_true_eq_false, not_false_eq_true] at hc1
  have hax : AtomOk x := by rw [← hx]; exact hv.get (by omega)
  have hxl := hax.len
  have hkx := hax.key
  have hkx12 := hkx.len
  have hvx := hax.val
  have hps := put_step (by omega) hx hst
  refine x_skip ?_
  refine hK6 _ _ ?_
  refine x_seq fun K8 hK8 => ?_
  refine x_block ?_
  refine x_seq fun K9 hK9 => ?_
  refine x_seq fun K10 hK10 => ?_
  refine x_quiet (by kernel_rfl) (by kernel_rfl) hS ?_
  refine q_go (fun w hS => s_move) ?_
  try simp only [opv, n1, n2, n3, n4, Value.cells]
  refine q_go (fun w hS => s_move) ?_
  try simp only [opv, n1, n2, n3, n4, Value.cells]
  first | refine q_go (fun w hS => m_indexAddr_rd Try.underlying24 ti39 (hS := hS)) ?_ | refine q_go (fun w hS => m_indexAddr_vec Try.underlying24 ti39 (hS := hS)) ?_
  try simp only [opv, n1, n2, n3, n4, Value.cells, Nat.mul_one, Nat.zero_add, Int.toNat_natCast, Int.reduceToNat]
  first | refine q_go (fun w hS => m_fieldAddr Try.underlying39 (hi := ti34)) ?_ | refine q_go (fun w hS => m_fieldAddr_rd Try.underlying39 (hi := ti34) (hS := hS)) ?_ | refine q_go (fun w hS => m_fieldAddr_vec Try.underlying39 (hi := ti34) (hS := hS)) ?_
  try simp only [opv, n1, n2, n3, n4, Value.cells, Nat.zero_add, Nat.add_zero, List.getElem_toArray, List.getElem_cons_zero, List.getElem_cons_succ]
  first | refine q_go (fun w hS => m_load_row Try.underlying34 (hi := ti34) (hS := hS) (hfit := by rw [arows_len]; omega)) ?_ | refine q_go (fun w hS => m_loada_obj Try.underlying34 (hi := ti34) (hS := hS) (hfit := by rw [arows_len]; omega)) ?_ | refine q_go (fun w hS => m_loada_bx Try.underlying34 (hi := ti34) (hS := hS) (hfit := by rw [arows_len]; omega)) ?_ | refine q_go (fun w hS => m_loada_rd Try.underlying34 (hi := ti34) (hS := hS) (hfit := by rw [arows_len]; omega)) ?_ | refine q_go (fun w hS => m_loada_vec Try.underlying34 (hi := ti34) (hS := hS) (hfit := by rw [arows_len]; omega)) ?_
  try simp only [opv, n1, n2, n3, n4, Value.cells, List.getElem_toArray, List.getElem_cons_zero, List.getElem_cons_succ]
  rw [arow_key (by omega) hv, hx]
  first | refine q_go (fun w hS => m_fieldAddr Try.underlying39 (hi := ti34)) ?_ | refine q_go (fun w hS => m_fieldAddr_rd Try.underlying39 (hi := ti34) (hS := hS)) ?_ | refine q_go (fun w hS => m_fieldAddr_vec Try.underlying39 (hi := ti34) (hS := hS)) ?_
  try simp only [opv, n1, n2, n3, n4, Value.cells, Nat.zero_add, Nat.add_zero, List.getElem_toArray, List.getElem_cons_zero, List.getElem_cons_succ]
  first | refine q_go (fun w hS => m_load_row Try.underlying34 (hi := ti34) (hS := hS) (hfit := by first | omega | (rw [zi_size (by omega)]; first | rfl | decide) | (simp only [ic_size, List.length_map, List.size_toArray]; first | omega | decide) | rfl | (simp [*]; done) | (simp [*]; omega))) ?_ | refine q_go (fun w hS => m_loada_obj Try.underlying34 (hi := ti34) (hS := hS) (hfit := by first | omega | (rw [zi_size (by omega)]; first | rfl | decide) | (simp only [ic_size, List.length_map, List.size_toArray]; first | omega | decide) | rfl | (simp [*]; done) | (simp [*]; omega))) ?_ | refine q_go (fun w hS => m_loada_bx Try.underlying34 (hi := ti34) (hS := hS) (hfit := by first | omega | (rw [zi_size (by omega)]; first | rfl | decide) | (simp only [ic_size, List.length_map, List.size_toArray]; first | omega | decide) | rfl | (simp [*]; done) | (simp [*]; omega))) ?_ | refine q_go (fun w hS => m_loada_rd Try.underlying34 (hi := ti34) (hS := hS) (hfit := by first | omega | (rw [zi_size (by omega)]; first | rfl | decide) | (simp only [ic_size, List.length_map, List.size_toArray]; first | omega | decide) | rfl | (simp [*]; done) | (simp [*]; omega))) ?_ | refine q_go (fun w hS => m_loada_vec Try.underlying34 (hi := ti34) (hS := hS) (hfit := by first | omega | (rw [zi_size (by omega)]; first | rfl | decide) | (simp only [ic_size, List.length_map, List.size_toArray]; first | omega | decide) | rfl | (simp [*]; done) | (simp [*]; omega))) ?_
  try simp only [opv, n1, n2, n3, n4, Value.cells, List.getElem_toArray, List.getElem_cons_zero, List.getElem_cons_succ]
  rw [atom_key hal]
  refine q_go (fun w hS => s_eql_agg eqv34 (hg := eg34) (hX := rfl) (hY := rfl) (h1 := by assumption) (h2 := by assumption)) ?_
  try simp only [opv, n1, n2, n3, n4, Value.cells]
  clear hS
  refine q_nil fun w2 hS => ?_
  refine hK10 _ _ ?_
  refine x_cond (ht := fun hc2 => ?_) (hf := fun hc2 => ?_)
  ·
   try simp only [decide_eq_true_eq, decide_eq_false_iff_not, Bool.not_eq_true', Bool.not_eq_false', Int.not_lt, Int.not_le, ne_eq, Decidable.not_not, bne_iff_ne, beq_iff_eq, not_true_eq_false, not_false_eq_true] at hc2
   have hst2 := hps.trans (put_eqk hc2)
   have hmo := more_ok hvx hva
   have hml := hmo.len
   have hyl : (akey a ++ moreV (aval x) (aval a)).length = 21 := (kv_ok hka hmo).len
   refine x_seq fun K11 hK11 => ?_
   refine x_mixed_c (Lc := [.obj g1 (.cells (AA a) 39 (0, 0)), .rd A 21 (l).length (arows (l))]) [] 0 [5, 22, 23, 24, 25, 26, 27, 28, 29, 30, 31, 32, 33, 34, 35] (fun f w => ∃ (B2 : Option Addr) (d2 : Nat), f 5 = .slice B2 (o.length + 1) d2 ∧ St NoB w0 w [.vec B2 d2 39 21 (o.length + 1) (arows (o ++ [(akey a ++ moreV (aval x) (aval a))])), .obj g1 (.cells (AA a) 39 (0, 0)), .rd A 21 (l).length (arows (l))]) (by kernel_rfl) (by kernel_rfl) (by kernel_rfl) (by decide) hS (fun w3 hS => ?mixpre701) ?mixrest701
   case mixpre701 =>
    refine p_nil ?_
    simp only [List.length_cons, List.length_nil, Nat.reduceAdd, Nat.reduceSub]
    refine any_go (i := 0) (by rfl) (by decide +kernel) (by decide +kernel) noLate_nil (go_yields w_none (fun w hS => s_move)) ?_
    try simp only [opv, n1, n2, n3, n4, Value.cells]
    first | refine any_go (i := 1) (by rfl) (by decide +kernel) (by decide +kernel) noLate_nil (go_yields w_none (fun w hS => m_fieldAddr Try.underlying39 (hi := ti34))) ?_ | refine any_go (i := 1) (by rfl) (by decide +kernel) (by decide +kernel) noLate_nil (go_yields w_none (fun w hS => m_fieldAddr_rd Try.underlying39 (hi := ti34) (hS := hS))) ?_ | refine any_go (i := 1) (by rfl) (by decide +kernel) (by decide +kernel) noLate_nil (go_yields w_none (fun w hS => m_fieldAddr_vec Try.underlying39 (hi := ti34) (hS := hS))) ?_
    try simp only [opv, n1, n2, n3, n4, Value.cells, Nat.zero_add, Nat.add_zero, List.getElem_toArray, List.getElem_cons_zero, List.getElem_cons_succ]
    first | refine any_go (i := 2) (by rfl) (by decide +kernel) (by decide +kernel) noLate_nil (go_yields w_none (fun w hS => m_load_row Try.underlying34 (hi := ti34) (hS := hS) (hfit := by first | omega | (rw [zi_size (by omega)]; first | rfl | decide) | (simp only [ic_size, List.length_map, List.size_toArray]; first | omega | decide) | rfl | (simp [*]; done) | (simp [*]; omega)))) ?_ | refine any_go (i := 2) (by rfl) (by decide +kernel) (by decide +kernel) noLate_nil (go_yields w_none (fun w hS => m_loada_obj Try.underlying34 (hi := ti34) (hS := hS) (hfit := by first | omega | (rw [zi_size (by omega)]; first | rfl | decide) | (simp only [ic_size, List.length_map, List.size_toArray]; first | omega | decide) | rfl | (simp [*]; done) | (simp [*]; omega)))) ?_ | refine any_go (i := 2) (by rfl) (by decide +kernel) (by decide +kernel) noLate_nil (go_yields w_none (fun w hS => m_loada_bx Try.underlying34 (hi := ti34) (hS := hS) (hfit := by first | omega | (rw [zi_size (by omega)]; first | rfl | decide) | (simp only [ic_size, List.length_map, List.size_toArray]; first | omega | decide) | rfl | (simp [*]; done) | (simp [*]; omega)))) ?_ | refine any_go (i := 2) (by rfl) (by decide +kernel) (by decide +kernel) noLate_nil (go_yields w_none (fun w hS => m_loada_rd Try.underlying34 (hi := ti34) (hS := hS) (hfit := by first | omega | (rw [zi_size (by omega)]; first | rfl | decide) | (simp only [ic_size, List.length_map, List.size_toArray]; first | omega | decide) | rfl | (simp [*]; done) | (simp [*]; omega)))) ?_ | refine any_go (i := 2) (by rfl) (by decide +kernel) (by decide +kernel) noLate_nil (go_yields w_none (fun w hS => m_loada_vec Try.underlying34 (hi := ti34) (hS := hS) (hfit := by first | omega | (rw [zi_size (by omega)]; first | rfl | decide) | (simp only [ic_size, List.length_map, List.size_toArray]; first | omega | decide) | rfl | (simp [*]; done) | (simp [*]; omega)))) ?_
    try simp only [opv, n1, n2, n3, n4, Value.cells, List.getElem_toArray, List.getElem_cons_zero, List.getElem_cons_succ]
    rw [atom_key hal]
    refine any_go (i := 3) (by rfl) (by decide +kernel) (by decide +kernel) noLate_nil (go_yields w_none (fun w hS => s_move)) ?_
    try simp only [opv, n1, n2, n3, n4, Value.cells]
    refine any_go (i := 4) (by rfl) (by decide +kernel) (by decide +kernel) noLate_nil (go_yields w_none (fun w hS => s_move)) ?_
    try simp only [opv, n1, n2, n3, n4, Value.cells]
    first | refine any_go (i := 5) (by rfl) (by decide +kernel) (by decide +kernel) noLate_nil (go_yields w_none (fun w hS => m_indexAddr_rd Try.underlying24 ti39 (hS := hS))) ?_ | refine any_go (i := 5) (by rfl) (by decide +kernel) (by decide +kernel) noLate_nil (go_yields w_none (fun w hS => m_indexAddr_vec Try.underlying24 ti39 (hS := hS))) ?_
    try simp only [opv, n1, n2, n3, n4, Value.cells, Nat.mul_one, Nat.zero_add, Int.toNat_natCast, Int.reduceToNat]
    first | refine any_go (i := 6) (by rfl) (by decide +kernel) (by decide +kernel) noLate_nil (go_yields w_none (fun w hS => m_fieldAddr Try.underlying39 (hi := ti37))) ?_ | refine any_go (i := 6) (by rfl) (by decide +kernel) (by decide +kernel) noLate_nil (go_yields w_none (fun w hS => m_fieldAddr_rd Try.underlying39 (hi := ti37) (hS := hS))) ?_ | refine any_go (i := 6) (by rfl) (by decide +kernel) (by decide +kernel) noLate_nil (go_yields w_none (fun w hS => m_fieldAddr_vec Try.underlying39 (hi := ti37) (hS := hS))) ?_
    try simp only [opv, n1, n2, n3, n4, Value.cells, Nat.zero_add, Nat.add_zero, List.getElem_toArray, List.getElem_cons_zero, List.getElem_cons_succ]
    first | refine any_go (i := 7) (by rfl) (by decide +kernel) (by decide +kernel) noLate_nil (go_yields w_none (fun w hS => m_load_row Try.underlying37 (hi := ti37) (hS := hS) (hfit := by rw [arows_len]; omega))) ?_ | refine any_go (i := 7) (by rfl) (by decide +kernel) (by decide +kernel) noLate_nil (go_yields w_none (fun w hS => m_loada_obj Try.underlying37 (hi := ti37) (hS := hS) (hfit := by rw [arows_len]; omega))) ?_ | refine any_go (i := 7) (by rfl) (by decide +kernel) (by decide +kernel) noLate_nil (go_yields w_none (fun w hS => m_loada_bx Try.underlying37 (hi := ti37) (hS := hS) (hfit := by rw [arows_len]; omega))) ?_ | refine any_go (i := 7) (by rfl) (by decide +kernel) (by decide +kernel) noLate_nil (go_yields w_none (fun w hS => m_loada_rd Try.underlying37 (hi := ti37) (hS := hS) (hfit := by rw [arows_len]; omega))) ?_ | refine any_go (i := 7) (by rfl) (by decide +kernel) (by decide +kernel) noLate_nil (go_yields w_none (fun w hS => m_loada_vec Try.underlying37 (hi := ti37) (hS := hS) (hfit := by rw [arows_len]; omega))) ?_
    try simp only [opv, n1, n2, n3, n4, Value.cells, List.getElem_toArray, List.getElem_cons_zero, List.getElem_cons_succ]
    rw [arow_val (by omega) hv, hx]
    first | refine any_go (i := 8) (by rfl) (by decide +kernel) (by decide +kernel) noLate_nil (go_yields w_none (fun w hS => m_fieldAddr Try.underlying39 (hi := ti37))) ?_ | refine any_go (i := 8) (by rfl) (by decide +kernel) (by decide +kernel) noLate_nil (go_yields w_none (fun w hS => m_fieldAddr_rd Try.underlying39 (hi := ti37) (hS := hS))) ?_ | refine any_go (i := 8) (by rfl) (by decide +kernel) (by decide +kernel) noLate_nil (go_yields w_none (fun w hS => m_fieldAddr_vec Try.underlying39 (hi := ti37) (hS := hS))) ?_
    try simp only [opv, n1, n2, n3, n4, Value.cells, Nat.zero_add, Nat.add_zero, List.getElem_toArray, List.getElem_cons_zero, List.getElem_cons_succ]
    first | refine any_go (i := 9) (by rfl) (by decide +kernel) (by decide +kernel) noLate_nil (go_yields w_none (fun w hS => m_load_row Try.underlying37 (hi := ti37) (hS := hS) (hfit := by first | omega | (rw [zi_size (by omega)]; first | rfl | decide) | (simp only [ic_size, List.length_map, List.size_toArray]; first | omega | decide) | rfl | (simp [*]; done) | (simp [*]; omega)))) ?_ | refine any_go (i := 9) (by rfl) (by decide +kernel) (by decide +kernel) noLate_nil (go_yields w_none (fun w hS => m_loada_obj Try.underlying37 (hi := ti37) (hS := hS) (hfit := by first | omega | (rw [zi_size (by omega)]; first | rfl | decide) | (simp only [ic_size, List.length_map, List.size_toArray]; first | omega | decide) | rfl | (simp [*]; done) | (simp [*]; omega)))) ?_ | refine any_go (i := 9) (by rfl) (by decide +kernel) (by decide +kernel) noLate_nil (go_yields w_none (fun w hS => m_loada_bx Try.underlying37 (hi := ti37) (hS := hS) (hfit := by first | omega | (rw [zi_size (by omega)]; first | rfl | decide) | (simp only [ic_size, List.length_map, List.size_toArray]; first | omega | decide) | rfl | (simp [*]; done) | (simp [*]; omega)))) ?_ | refine any_go (i := 9) (by rfl) (by decide +kernel) (by decide +kernel) noLate_nil (go_yields w_none (fun w hS => m_loada_rd Try.underlying37 (hi := ti37) (hS := hS) (hfit := by first | omega | (rw [zi_size (by omega)]; first | rfl | decide) | (simp only [ic_size, List.length_map, List.size_toArray]; first | omega | decide) | rfl | (simp [*]; done) | (simp [*]; omega)))) ?_ | refine any_go (i := 9) (by rfl) (by decide +kernel) (by decide +kernel) noLate_nil (go_yields w_none (fun w hS => m_loada_vec Try.underlying37 (hi := ti37) (hS := hS) (hfit := by first | omega | (rw [zi_size (by omega)]; first | rfl | decide) | (simp only [ic_size, List.length_map, List.size_toArray]; first | omega | decide) | rfl | (simp [*]; done) | (simp [*]; omega)))) ?_
    try simp only [opv, n1, n2, n3, n4, Value.cells, List.getElem_toArray, List.getElem_cons_zero, List.getElem_cons_succ]
    rw [atom_val hal]
    apply any_go (i := 10) (by rfl) (by decide +kernel) (by decide +kernel) noLate_nil (call_yields w_none en118 ?H1) ?K1
    case H1 =>
      intro w hS
      try simp only [opv, n1, n2, n3, n4, List.map_toArray, List.map_cons, List.map_nil, List.append_toArray, List.cons_append, List.nil_append, Array.append_empty]
      refine CallR.mono (c_ref09More (aval x) (aval a) hvx hva _) ?_
      rintro _ w1 ⟨rfl, hE⟩; exact ⟨rfl, hE⟩
    try simp only [opv, n1, n2, n3, n4, Value.cells]
    refine any_go (i := 11) (by rfl) (by decide +kernel) (by decide +kernel) noLate_nil (go_yields w_none (fun w hS => s_build_struct (cells := (AA (akey a ++ moreV (aval x) (aval a)))) Try.underlying39 ti39 bp39 (hc := by simp only [List.map_toArray, List.map_cons, List.map_nil, opv, n1, n2, n3, n4, Value.cells, List.toList_toArray]; exact fill_atom (by rfl) (by rfl) (by rfl) hka12 hml))) ?_
    try simp only [opv, n1, n2, n3, n4, Value.cells]
    refine any_step [12] (by kernel_rfl) (by decide) (fun w4 hE => ⟨fun _ => (hS.ext hE).sel (by repeat (first | exact Sel.nil | (refine Sel.cons (by repeat (first | exact Del.head | apply Del.tail)) ?_))), ?_⟩)
    replace hS := hS.ext hE
    intro i hi
    simp only [List.mem_cons, List.not_mem_nil, or_false] at hi
    subst hi
    ·
     refine any_op (by rfl) ?_
     refine m_buildRow (cells := (AA (akey a ++ moreV (aval x) (aval a)))) Try.underlying24 ti39 (hc := by simp only [List.map_toArray, List.map_cons, List.map_nil, opv, n1, n2, n3, n4, Value.cells, List.toList_toArray]; exact fill_one (by rfl) (zi_size21 hyl) (by rfl)) (hS := hS) (h := fun w5 g5 hS => ?_)
     try simp only [opv, n1, n2, n3, n4, Value.cells, Array.toArray_toList] at hS ⊢
     replace hS := hS.obj_rd (sz := 21) (n := 1) (by exact zi_size21 hyl) .head
     rw [arow_one hyl] at hS
     refine x_nil ?_
     refine any_step [13] (by kernel_rfl) (by decide) (fun w6 hE => ⟨fun _ => (hS.ext hE).sel (by repeat (first | exact Sel.nil | (refine Sel.cons (by repeat (first | exact Del.head | apply Del.tail)) ?_))), ?_⟩)
     replace hS := hS.ext hE
     intro i hi
     simp only [List.mem_cons, List.not_mem_nil, or_false] at hi
     subst hi
     ·
      refine any_op (by rfl) ?_
      refine m_append Try.underlying24 ti39 (hS := hS) (h1 := rowsZ_cells _ _) (h := fun w7 A7 C7 hS => ?_)
      try simp only [← List.map_append, ← List.map_drop, ← List.map_take, Nat.mul_one, Nat.zero_mul, Nat.sub_zero, List.drop_zero, List.nil_append, Nat.zero_add] at hS ⊢
      try simp only [opv, n1, n2, n3, n4, Value.cells, Array.toArray_toList] at hS ⊢
      rw [add_one] at hS
      refine x_nil ?_
      refine any_go (i := 14) (by rfl) (by decide +kernel) (by decide +kernel) noLate_nil (go_yields w_none (fun w hS => s_assign)) ?_
      try simp only [opv, n1, n2, n3, n4, Value.cells]
      refine any_nil (by kernel_rfl) (fun w8 hE => ?_)
      replace hS := hS.ext hE
      refine ⟨fun _ => hS.sel (by repeat (first | exact Sel.nil | (refine Sel.cons (by repeat (first | exact Del.head | apply Del.tail)) ?_))), ?_⟩
      refine mix_leaf (by simp only [clob, List.foldl, n1, n2, n3, n4]) ?_
      try simp only [n1, n2]
      exact ⟨_, _, by first | trivial | rfl, hS.sel (by repeat (first | exact Sel.nil | (refine Sel.cons (by repeat (first | exact Del.head | apply Del.tail)) ?_)))⟩
   intro fm1 w9 hM
   obtain ⟨B2, d2, h5, hS⟩ := hM
   simp only [clob, List.foldl, n3, n4, h5]
   refine hK11 _ _ ?_
   refine x_seq fun K12 hK12 => ?_
   refine x_region ?_
   refine s_go (s_assign) ?_
   try simp only [opv, n1, n2, n3, n4, Value.cells]
   refine x_nil ?_
   refine hK12 _ _ ?_
   refine x_exit (look_here ?_)
   refine hK8 _ _ ?_
   refine x_region ?_
   refine s_go (s_move) ?_
   try simp only [opv, n1, n2, n3, n4, Value.cells]
   refine s_go (s_add (hc := by first | exact wr_i64 (by omega) (by omega) | rfl)) ?_
   try simp only [opv, n1, n2, n3, n4, Value.cells]
   refine s_go (s_assign) ?_
   try simp only [opv, n1, n2, n3, n4, Value.cells]
   refine x_nil ?_
   refine loop_back (m' := l.length - (k + 1)) (by simp only [clob, List.foldl, n1, n2, n3, n4]) ?_ ?_
   · try simp only [opv, n1, n2, n3, n4, Value.cells]
     refine ⟨k + 1, _, _, _, _, by omega, by omega, by rfl, by rfl, by simp only [List.length_append, List.length_cons, List.length_nil, Nat.zero_add]; rfl, hst2, by simp; omega, ?_⟩
     simp only [List.length_append, List.length_cons, List.length_nil, Nat.zero_add]; exact hS.sel (by repeat (first | exact Sel.nil | (refine Sel.cons (by repeat (first | exact Del.head | apply Del.tail)) ?_)))
   · omega
  ·
   try simp only [decide_eq_true_eq, decide_eq_false_iff_not, Bool.not_eq_true', Bool.not_eq_false', Int.not_lt, Int.not_le, ne_eq, Decidable.not_not, bne_iff_ne, beq_iff_eq, not_true_eq_false, not_false_eq_true] at hc2
   have hne := hc2
   refine x_skip ?_
   refine hK9 _ _ ?_
   refine x_seq fun K13 hK13 => ?_
   refine x_seq fun K14 hK14 => ?_
   refine x_quiet (by kernel_rfl) (by kernel_rfl) hS ?_
   refine q_go (fun w hS => s_move) ?_
   try simp only [opv, n1, n2, n3, n4, Value.cells]
   refine q_go (fun w hS => s_not) ?_
   try simp only [opv, n1, n2, n3, n4, Value.cells]
   refine q_go (fun w hS => s_move) ?_
   try simp only [opv, n1, n2, n3, n4, Value.cells]
   refine q_part 38 rfl (fun hp1 => ?_) (fun hp1 => ?_)
   ·
    try simp only [n3, n4]
    try simp only [decide_eq_true_eq, decide_eq_false_iff_not, Bool.not_eq_true', Bool.not_eq_false', Int.not_lt, Int.not_le, ne_eq, Decidable.not_not] at hp1
    obtain rfl : dn = false := by simpa using hp1
    refine q_on (yi (t := 38) rfl rfl) ?_
    first | refine q_go (fun w hS => m_fieldAddr Try.underlying39 (hi := ti34)) ?_ | refine q_go (fun w hS => m_fieldAddr_rd Try.underlying39 (hi := ti34) (hS := hS)) ?_ | refine q_go (fun w hS => m_fieldAddr_vec Try.underlying39 (hi := ti34) (hS := hS)) ?_
    try simp only [opv, n1, n2, n3, n4, Value.cells, Nat.zero_add, Nat.add_zero, List.getElem_toArray, List.getElem_cons_zero, List.getElem_cons_succ]
    refine q_on (yi (t := 38) rfl rfl) ?_
    first | refine q_go (fun w hS => m_load_row Try.underlying34 (hi := ti34) (hS := hS) (hfit := by first | omega | (rw [zi_size (by omega)]; first | rfl | decide) | (simp only [ic_size, List.length_map, List.size_toArray]; first | omega | decide) | rfl | (simp [*]; done) | (simp [*]; omega))) ?_ | refine q_go (fun w hS => m_loada_obj Try.underlying34 (hi := ti34) (hS := hS) (hfit := by first | omega | (rw [zi_size (by omega)]; first | rfl | decide) | (simp only [ic_size, List.length_map, List.size_toArray]; first | omega | decide) | rfl | (simp [*]; done) | (simp [*]; omega))) ?_ | refine q_go (fun w hS => m_loada_bx Try.underlying34 (hi := ti34) (hS := hS) (hfit := by first | omega | (rw [zi_size (by omega)]; first | rfl | decide) | (simp only [ic_size, List.length_map, List.size_toArray]; first | omega | decide) | rfl | (simp [*]; done) | (simp [*]; omega))) ?_ | refine q_go (fun w hS => m_loada_rd Try.underlying34 (hi := ti34) (hS := hS) (hfit := by first | omega | (rw [zi_size (by omega)]; first | rfl | decide) | (simp only [ic_size, List.length_map, List.size_toArray]; first | omega | decide) | rfl | (simp [*]; done) | (simp [*]; omega))) ?_ | refine q_go (fun w hS => m_loada_vec Try.underlying34 (hi := ti34) (hS := hS) (hfit := by first | omega | (rw [zi_size (by omega)]; first | rfl | decide) | (simp only [ic_size, List.length_map, List.size_toArray]; first | omega | decide) | rfl | (simp [*]; done) | (simp [*]; omega))) ?_
    try simp only [opv, n1, n2, n3, n4, Value.cells, List.getElem_toArray, List.getElem_cons_zero, List.getElem_cons_succ]
    rw [atom_key hal]
    refine q_on (yi (t := 38) rfl rfl) ?_
    refine q_go (fun w hS => s_move) ?_
    try simp only [opv, n1, n2, n3, n4, Value.cells]
    refine q_on (yi (t := 38) rfl rfl) ?_
    refine q_go (fun w hS => s_move) ?_
    try simp only [opv, n1, n2, n3, n4, Value.cells]
    refine q_on (yi (t := 38) rfl rfl) ?_
    first | refine q_go (fun w hS => m_indexAddr_rd Try.underlying24 ti39 (hS := hS)) ?_ | refine q_go (fun w hS => m_indexAddr_vec Try.underlying24 ti39 (hS := hS)) ?_
    try simp only [opv, n1, n2, n3, n4, Value.cells, Nat.mul_one, Nat.zero_add, Int.toNat_natCast, Int.reduceToNat]
    refine q_on (yi (t := 38) rfl rfl) ?_
    first | refine q_go (fun w hS => m_fieldAddr Try.underlying39 (hi := ti34)) ?_ | refine q_go (fun w hS => m_fieldAddr_rd Try.underlying39 (hi := ti34) (hS := hS)) ?_ | refine q_go (fun w hS => m_fieldAddr_vec Try.underlying39 (hi := ti34) (hS := hS)) ?_
    try simp only [opv, n1, n2, n3, n4, Value.cells, Nat.zero_add, Nat.add_zero, List.getElem_toArray, List.getElem_cons_zero, List.getElem_cons_succ]
    refine q_on (yi (t := 38) rfl rfl) ?_
    first | refine q_go (fun w hS => m_load_row Try.underlying34 (hi := ti34) (hS := hS) (hfit := by rw [arows_len]; omega)) ?_ | refine q_go (fun w hS => m_loada_obj Try.underlying34 (hi := ti34) (hS := hS) (hfit := by rw [arows_len]; omega)) ?_ | refine q_go (fun w hS => m_loada_bx Try.underlying34 (hi := ti34) (hS := hS) (hfit := by rw [arows_len]; omega)) ?_ | refine q_go (fun w hS => m_loada_rd Try.underlying34 (hi := ti34) (hS := hS) (hfit := by rw [arows_len]; omega)) ?_ | refine q_go (fun w hS => m_loada_vec Try.underlying34 (hi := ti34) (hS := hS) (hfit := by rw [arows_len]; omega)) ?_
    try simp only [opv, n1, n2, n3, n4, Value.cells, List.getElem_toArray, List.getElem_cons_zero, List.getElem_cons_succ]
    rw [arow_key (by omega) hv, hx]
    refine q_on (yi (t := 38) rfl rfl) ?_
    apply q_call en116
    case H =>
      intro w hS
      try simp only [opv, n1, n2, n3, n4, List.map_toArray, List.map_cons, List.map_nil, List.append_toArray, List.cons_append, List.nil_append, Array.append_empty]
      refine CallR.mono (c_ref08Less (akey a) (akey x) hka hkx _) ?_
      rintro _ w1 ⟨rfl, hE⟩; exact ⟨rfl, hS.ext hE⟩
    try simp only [opv, n1, n2, n3, n4, Value.cells]
    first | refine q_go (fun w hS => s_pick_t) ?_ | refine q_go (fun w hS => s_pick_f) ?_
    try simp only [opv, n1, n2, n3, n4, Value.cells]
    clear hS
    refine q_nil fun w10 hS => ?_
    refine hK14 _ _ ?_
    refine x_cond (ht := fun hc3 => ?_) (hf := fun hc3 => ?_)
    ·
     try simp only [decide_eq_true_eq, decide_eq_false_iff_not, Bool.not_eq_true', Bool.not_eq_false', Int.not_lt, Int.not_le, ne_eq, Decidable.not_not, bne_iff_ne, beq_iff_eq, not_true_eq_false, not_false_eq_true] at hc3
     have hst2 := hps.trans (put_lt hne hc3)
     refine x_seq fun K15 hK15 => ?_
     refine x_region ?_
     refine s_go (s_move) ?_
     try simp only [opv, n1, n2, n3, n4, Value.cells]
     first | refine s_go (m_load_row Try.underlying39 (hi := ti39) (hS := hS) (hfit := by first | omega | (rw [zi_size (by omega)]; first | rfl | decide) | (simp only [ic_size, List.length_map, List.size_toArray]; first | omega | decide) | rfl | (simp [*]; done) | (simp [*]; omega))) ?_ | refine s_go (m_loada_obj Try.underlying39 (hi := ti39) (hS := hS) (hfit := by first | omega | (rw [zi_size (by omega)]; first | rfl | decide) | (simp only [ic_size, List.length_map, List.size_toArray]; first | omega | decide) | rfl | (simp [*]; done) | (simp [*]; omega))) ?_ | refine s_go (m_loada_bx Try.underlying39 (hi := ti39) (hS := hS) (hfit := by first | omega | (rw [zi_size (by omega)]; first | rfl | decide) | (simp only [ic_size, List.length_map, List.size_toArray]; first | omega | decide) | rfl | (simp [*]; done) | (simp [*]; omega))) ?_ | refine s_go (m_loada_rd Try.underlying39 (hi := ti39) (hS := hS) (hfit := by first | omega | (rw [zi_size (by omega)]; first | rfl | decide) | (simp only [ic_size, List.length_map, List.size_toArray]; first | omega | decide) | rfl | (simp [*]; done) | (simp [*]; omega))) ?_ | refine s_go (m_loada_vec Try.underlying39 (hi := ti39) (hS := hS) (hfit := by first | omega | (rw [zi_size (by omega)]; first | rfl | decide) | (simp only [ic_size, List.length_map, List.size_toArray]; first | omega | decide) | rfl | (simp [*]; done) | (simp [*]; omega))) ?_
     try simp only [opv, n1, n2, n3, n4, Value.cells, List.getElem_toArray, List.getElem_cons_zero, List.getElem_cons_succ]
     refine m_buildRow (cells := (AA a)) Try.underlying24 ti39 (hc := by simp only [List.map_toArray, List.map_cons, List.map_nil, opv, n1, n2, n3, n4, Value.cells, List.toList_toArray]; exact fill_one (by rfl) (zi_size21 hal) (by rfl)) (hS := hS) (h := fun w11 g11 hS => ?_)
     try simp only [opv, n1, n2, n3, n4, Value.cells, Array.toArray_toList] at hS ⊢
     replace hS := hS.obj_rd (sz := 21) (n := 1) (by exact zi_size21 hal) .head
     rw [arow_one hal] at hS
     refine m_append Try.underlying24 ti39 (hS := hS) (h1 := rowsZ_cells _ _) (h := fun w12 A12 C12 hS => ?_)
     try simp only [← List.map_append, ← List.map_drop, ← List.map_take, Nat.mul_one, Nat.zero_mul, Nat.sub_zero, List.drop_zero, List.nil_append, Nat.zero_add] at hS ⊢
     try simp only [opv, n1, n2, n3, n4, Value.cells, Array.toArray_toList] at hS ⊢
     rw [add_one] at hS
     refine s_go (s_assign) ?_
     try simp only [opv, n1, n2, n3, n4, Value.cells]
     refine x_nil ?_
     refine hK15 _ _ ?_
     refine x_region ?_
     refine s_go (s_assign) ?_
     try simp only [opv, n1, n2, n3, n4, Value.cells]
     refine x_nil ?_
     refine hK13 _ _ ?_
     refine x_region ?_
     refine s_go (s_move) ?_
     try simp only [opv, n1, n2, n3, n4, Value.cells]
     refine s_go (s_move) ?_
     try simp only [opv, n1, n2, n3, n4, Value.cells]
     refine s_go (s_move) ?_
     try simp only [opv, n1, n2, n3, n4, Value.cells]
     first | refine s_go (m_indexAddr_rd Try.underlying24 ti39 (hS := hS)) ?_ | refine s_go (m_indexAddr_vec Try.underlying24 ti39 (hS := hS)) ?_
     try simp only [opv, n1, n2, n3, n4, Value.cells, Nat.mul_one, Nat.zero_add, Int.toNat_natCast, Int.reduceToNat]
     first | refine s_go (m_load_row Try.underlying39 (hi := ti39) (hS := hS) (hfit := by rw [arows_len]; omega)) ?_ | refine s_go (m_loada_obj Try.underlying39 (hi := ti39) (hS := hS) (hfit := by rw [arows_len]; omega)) ?_ | refine s_go (m_loada_bx Try.underlying39 (hi := ti39) (hS := hS) (hfit := by rw [arows_len]; omega)) ?_ | refine s_go (m_loada_rd Try.underlying39 (hi := ti39) (hS := hS) (hfit := by rw [arows_len]; omega)) ?_ | refine s_go (m_loada_vec Try.underlying39 (hi := ti39) (hS := hS) (hfit := by rw [arows_len]; omega)) ?_
     try simp only [opv, n1, n2, n3, n4, Value.cells, List.getElem_toArray, List.getElem_cons_zero, List.getElem_cons_succ]
     rw [arow_get (by omega) hv, hx]
     refine m_buildRow (cells := (AA x)) Try.underlying24 ti39 (hc := by simp only [List.map_toArray, List.map_cons, List.map_nil, opv, n1, n2, n3, n4, Value.cells, List.toList_toArray]; exact fill_one (by rfl) (zi_size21 hxl) (by rfl)) (hS := hS) (h := fun w13 g13 hS => ?_)
     try simp only [opv, n1, n2, n3, n4, Value.cells, Array.toArray_toList] at hS ⊢
     replace hS := hS.obj_rd (sz := 21) (n := 1) (by exact zi_size21 hxl) .head
     rw [arow_one hxl] at hS
     refine m_append Try.underlying24 ti39 (hS := hS) (h1 := rowsZ_cells _ _) (h := fun w14 A14 C14 hS => ?_)
     try simp only [← List.map_append, ← List.map_drop, ← List.map_take, Nat.mul_one, Nat.zero_mul, Nat.sub_zero, List.drop_zero, List.nil_append, Nat.zero_add] at hS ⊢
     try simp only [opv, n1, n2, n3, n4, Value.cells, Array.toArray_toList] at hS ⊢
     rw [add_one] at hS
     refine s_go (s_assign) ?_
     try simp only [opv, n1, n2, n3, n4, Value.cells]
     refine x_nil ?_
     refine hK8 _ _ ?_
     refine x_region ?_
     refine s_go (s_move) ?_
     try simp only [opv, n1, n2, n3, n4, Value.cells]
     refine s_go (s_add (hc := by first | exact wr_i64 (by omega) (by omega) | rfl)) ?_
     try simp only [opv, n1, n2, n3, n4, Value.cells]
     refine s_go (s_assign) ?_
     try simp only [opv, n1, n2, n3, n4, Value.cells]
     refine x_nil ?_
     refine loop_back (m' := l.length - (k + 1)) (by simp only [clob, List.foldl, n1, n2, n3, n4]) ?_ ?_
     · try simp only [opv, n1, n2, n3, n4, Value.cells]
       refine ⟨k + 1, _, _, _, _, by omega, by omega, by rfl, by rfl, by simp only [List.length_append, List.length_cons, List.length_nil, Nat.zero_add]; rfl, hst2, by simp; omega, ?_⟩
       simp only [List.length_append, List.length_cons, List.length_nil, Nat.zero_add]; exact hS.sel (by repeat (first | exact Sel.nil | (refine Sel.cons (by repeat (first | exact Del.head | apply Del.tail)) ?_)))
     · omega
    ·
     try simp only [decide_eq_true_eq, decide_eq_false_iff_not, Bool.not_eq_true', Bool.not_eq_false', Int.not_lt, Int.not_le, ne_eq, Decidable.not_not, bne_iff_ne, beq_iff_eq, not_true_eq_false, not_false_eq_true] at hc3
     try have hst2 := hps.trans (put_on hne hc3)
     refine x_skip ?_
     refine hK13 _ _ ?_
     refine x_region ?_
     refine s_go (s_move) ?_
     try simp only [opv, n1, n2, n3, n4, Value.cells]
     refine s_go (s_move) ?_
     try simp only [opv, n1, n2, n3, n4, Value.cells]
     refine s_go (s_move) ?_
     try simp only [opv, n1, n2, n3, n4, Value.cells]
     first | refine s_go (m_indexAddr_rd Try.underlying24 ti39 (hS := hS)) ?_ | refine s_go (m_indexAddr_vec Try.underlying24 ti39 (hS := hS)) ?_
     try simp only [opv, n1, n2, n3, n4, Value.cells, Nat.mul_one, Nat.zero_add, Int.toNat_natCast, Int.reduceToNat]
     first | refine s_go (m_load_row Try.underlying39 (hi := ti39) (hS := hS) (hfit := by rw [arows_len]; omega)) ?_ | refine s_go (m_loada_obj Try.underlying39 (hi := ti39) (hS := hS) (hfit := by rw [arows_len]; omega)) ?_ | refine s_go (m_loada_bx Try.underlying39 (hi := ti39) (hS := hS) (hfit := by rw [arows_len]; omega)) ?_ | refine s_go (m_loada_rd Try.underlying39 (hi := ti39) (hS := hS) (hfit := by rw [arows_len]; omega)) ?_ | refine s_go (m_loada_vec Try.underlying39 (hi := ti39) (hS := hS) (hfit := by rw [arows_len]; omega)) ?_
     try simp only [opv, n1, n2, n3, n4, Value.cells, List.getElem_toArray, List.getElem_cons_zero, List.getElem_cons_succ]
     rw [arow_get (by omega) hv, hx]
     refine m_buildRow (cells := (AA x)) Try.underlying24 ti39 (hc := by simp only [List.map_toArray, List.map_cons, List.map_nil, opv, n1, n2, n3, n4, Value.cells, List.toList_toArray]; exact fill_one (by rfl) (zi_size21 hxl) (by rfl)) (hS := hS) (h := fun w15 g15 hS => ?_)
     try simp only [opv, n1, n2, n3, n4, Value.cells, Array.toArray_toList] at hS ⊢
     replace hS := hS.obj_rd (sz := 21) (n := 1) (by exact zi_size21 hxl) .head
     rw [arow_one hxl] at hS
     refine m_append Try.underlying24 ti39 (hS := hS) (h1 := rowsZ_cells _ _) (h := fun w16 A16 C16 hS => ?_)
     try simp only [← List.map_append, ← List.map_drop, ← List.map_take, Nat.mul_one, Nat.zero_mul, Nat.sub_zero, List.drop_zero, List.nil_append, Nat.zero_add] at hS ⊢
     try simp only [opv, n1, n2, n3, n4, Value.cells, Array.toArray_toList] at hS ⊢
     rw [add_one] at hS
     refine s_go (s_assign) ?_
     try simp only [opv, n1, n2, n3, n4, Value.cells]
     refine x_nil ?_
     refine hK8 _ _ ?_
     refine x_region ?_
     refine s_go (s_move) ?_
     try simp only [opv, n1, n2, n3, n4, Value.cells]
     refine s_go (s_add (hc := by first | exact wr_i64 (by omega) (by omega) | rfl)) ?_
     try simp only [opv, n1, n2, n3, n4, Value.cells]
     refine s_go (s_assign) ?_
     try simp only [opv, n1, n2, n3, n4, Value.cells]
     refine x_nil ?_
     refine loop_back (m' := l.length - (k + 1)) (by simp only [clob, List.foldl, n1, n2, n3, n4]) ?_ ?_
     · try simp only [opv, n1, n2, n3, n4, Value.cells]
       refine ⟨k + 1, _, _, _, _, by omega, by omega, by rfl, by rfl, by simp only [List.length_append, List.length_cons, List.length_nil, Nat.zero_add]; rfl, hst2, by simp; omega, ?_⟩
       simp only [List.length_append, List.length_cons, List.length_nil, Nat.zero_add]; exact hS.sel (by repeat (first | exact Sel.nil | (refine Sel.cons (by repeat (first | exact Del.head | apply Del.tail)) ?_)))
     · omega
   ·
    try simp only [n3, n4]
    try simp only [decide_eq_true_eq, decide_eq_false_iff_not, Bool.not_eq_true', Bool.not_eq_false', Int.not_lt, Int.not_le, ne_eq, Decidable.not_not] at hp1
    obtain rfl : dn = true := by simpa using hp1
    have hst2 := hps.trans (put_dn hne)
    refine q_off (yi (t := 38) rfl rfl) ?_
    try simp only [opv, n1, n2, n3, n4, Value.cells]
    refine q_off (yi (t := 38) rfl rfl) ?_
    try simp only [opv, n1, n2, n3, n4, Value.cells]
    refine q_off (yi (t := 38) rfl rfl) ?_
    try simp only [opv, n1, n2, n3, n4, Value.cells]
    refine q_off (yi (t := 38) rfl rfl) ?_
    try simp only [opv, n1, n2, n3, n4, Value.cells]
    refine q_off (yi (t := 38) rfl rfl) ?_
    try simp only [opv, n1, n2, n3, n4, Value.cells]
    refine q_off (yi (t := 38) rfl rfl) ?_
    try simp only [opv, n1, n2, n3, n4, Value.cells]
    refine q_off (yi (t := 38) rfl rfl) ?_
    try simp only [opv, n1, n2, n3, n4, Value.cells]
    refine q_off (yi (t := 38) rfl rfl) ?_
    try simp only [opv, n1, n2, n3, n4, Value.cells]
    first | refine q_go (fun w hS => s_pick_t) ?_ | refine q_go (fun w hS => s_pick_f) ?_
    try simp only [opv, n1, n2, n3, n4, Value.cells]
    clear hS
    refine q_nil fun w17 hS => ?_
    refine hK14 _ _ ?_
    refine x_cond_f (h := ?_)
    try have hst2 := hps.trans (put_on hne @c)
    refine x_skip ?_
    refine hK13 _ _ ?_
    refine x_region ?_
    refine s_go (s_move) ?_
    try simp only [opv, n1, n2, n3, n4, Value.cells]
    refine s_go (s_move) ?_
    try simp only [opv, n1, n2, n3, n4, Value.cells]
    refine s_go (s_move) ?_
    try simp only [opv, n1, n2, n3, n4, Value.cells]
    first | refine s_go (m_indexAddr_rd Try.underlying24 ti39 (hS := hS)) ?_ | refine s_go (m_indexAddr_vec Try.underlying24 ti39 (hS := hS)) ?_
    try simp only [opv, n1, n2, n3, n4, Value.cells, Nat.mul_one, Nat.zero_add, Int.toNat_natCast, Int.reduceToNat]
    first | refine s_go (m_load_row Try.underlying39 (hi := ti39) (hS := hS) (hfit := by rw [arows_len]; omega)) ?_ | refine s_go (m_loada_obj Try.underlying39 (hi := ti39) (hS := hS) (hfit := by rw [arows_len]; omega)) ?_ | refine s_go (m_loada_bx Try.underlying39 (hi := ti39) (hS := hS) (hfit := by rw [arows_len]; omega)) ?_ | refine s_go (m_loada_rd Try.underlying39 (hi := ti39) (hS := hS) (hfit := by rw [arows_len]; omega)) ?_ | refine s_go (m_loada_vec Try.underlying39 (hi := ti39) (hS := hS) (hfit := by rw [arows_len]; omega)) ?_
    try simp only [opv, n1, n2, n3, n4, Value.cells, List.getElem_toArray, List.getElem_cons_zero, List.getElem_cons_succ]
    rw [arow_get (by omega) hv, hx]
    refine m_buildRow (cells := (AA x)) Try.underlying24 ti39 (hc := by simp only [List.map_toArray, List.map_cons, List.map_nil, opv, n1, n2, n3, n4, Value.cells, List.toList_toArray]; exact fill_one (by rfl) (zi_size21 hxl) (by rfl)) (hS := hS) (h := fun w18 g18 hS => ?_)
    try simp only [opv, n1, n2, n3, n4, Value.cells, Array.toArray_toList] at hS ⊢
    replace hS := hS.obj_rd (sz := 21) (n := 1) (by exact zi_size21 hxl) .head
    rw [arow_one hxl] at hS
    refine m_append Try.underlying24 ti39 (hS := hS) (h1 := rowsZ_cells _ _) (h := fun w19 A19 C19 hS => ?_)
    try simp only [← List.map_append, ← List.map_drop, ← List.map_take, Nat.mul_one, Nat.zero_mul, Nat.sub_zero, List.drop_zero, List.nil_append, Nat.zero_add] at hS ⊢
    try simp only [opv, n1, n2, n3, n4, Value.cells, Array.toArray_toList] at hS ⊢
    rw [add_one] at hS
    refine s_go (s_assign) ?_
    try simp only [opv, n1, n2, n3, n4, Value.cells]
    refine x_nil ?_
    refine hK8 _ _ ?_
    refine x_region ?_
    refine s_go (s_move) ?_
    try simp only [opv, n1, n2, n3, n4, Value.cells]
    refine s_go (s_add (hc := by first | exact wr_i64 (by omega) (by omega) | rfl)) ?_
    try simp only [opv, n1, n2, n3, n4, Value.cells]
    refine s_go (s_assign) ?_
    try simp only [opv, n1, n2, n3, n4, Value.cells]
    refine x_nil ?_
    refine loop_back (m' := l.length - (k + 1)) (by simp only [clob, List.foldl, n1, n2, n3, n4]) ?_ ?_
    · try simp only [opv, n1, n2, n3, n4, Value.cells]
      refine ⟨k + 1, _, _, _, _, by omega, by omega, by rfl, by rfl, by simp only [List.length_append, List.length_cons, List.length_nil, Nat.zero_add]; rfl, hst2, by simp; omega, ?_⟩
      simp only [List.length_append, List.length_cons, List.length_nil, Nat.zero_add]; exact hS.sel (by repeat (first | exact Sel.nil | (refine Sel.cons (by repeat (first | exact Del.head | apply Del.tail)) ?_)))
    · omega
 ·
  try simp only [decide_eq_true_eq, decide_eq_false_iff_not, Bool.not_eq_true', Bool.not_eq_false', Int.not_lt, Int.not_le, ne_eq, Decidable.not_not, bne_iff_ne, beq_iff_eq, not_true_eq_false, not_false_eq_true] at hc1
  obtain rfl : k = l.length := by omega
  rw [List.take_of_length_le (Nat.le_refl _)] at hst
  have hpe := put_end hst
  refine x_exit (look_here ?_)
  refine hK4 _ _ ?_
  refine x_seq fun K16 hK16 => ?_
  refine x_seq fun K17 hK17 => ?_
  refine x_region ?_
  refine s_go (s_move) ?_
  try simp only [opv, n1, n2, n3, n4, Value.cells]
  refine s_go (s_not) ?_
  try simp only [opv, n1, n2, n3, n4, Value.cells]
  refine x_nil ?_
  refine hK17 _ _ ?_
  refine x_cond (ht := fun hc5 => ?_) (hf := fun hc5 => ?_)
  ·
   try simp only [decide_eq_true_eq, decide_eq_false_iff_not, Bool.not_eq_true', Bool.not_eq_false', Int.not_lt, Int.not_le, ne_eq, Decidable.not_not, bne_iff_ne, beq_iff_eq, not_true_eq_false, not_false_eq_true] at hc5
   obtain rfl : dn = false := by simpa using hc5
   rw [if_neg (by decide)] at hpe
   refine x_region ?_
   refine s_go (s_move) ?_
   try simp only [opv, n1, n2, n3, n4, Value.cells]
   first | refine s_go (m_load_row Try.underlying39 (hi := ti39) (hS := hS) (hfit := by first | omega | (rw [zi_size (by omega)]; first | rfl | decide) | (simp only [ic_size, List.length_map, List.size_toArray]; first | omega | decide) | rfl | (simp [*]; done) | (simp [*]; omega))) ?_ | refine s_go (m_loada_obj Try.underlying39 (hi := ti39) (hS := hS) (hfit := by first | omega | (rw [zi_size (by omega)]; first | rfl | decide) | (simp only [ic_size, List.length_map, List.size_toArray]; first | omega | decide) | rfl | (simp [*]; done) | (simp [*]; omega))) ?_ | refine s_go (m_loada_bx Try.underlying39 (hi := ti39) (hS := hS) (hfit := by first | omega | (rw [zi_size (by omega)]; first | rfl | decide) | (simp only [ic_size, List.length_map, List.size_toArray]; first | omega | decide) | rfl | (simp [*]; done) | (simp [*]; omega))) ?_ | refine s_go (m_loada_rd Try.underlying39 (hi := ti39) (hS := hS) (hfit := by first | omega | (rw [zi_size (by omega)]; first | rfl | decide) | (simp only [ic_size, List.length_map, List.size_toArray]; first | omega | decide) | rfl | (simp [*]; done) | (simp [*]; omega))) ?_ | refine s_go (m_loada_vec Try.underlying39 (hi := ti39) (hS := hS) (hfit := by first | omega | (rw [zi_size (by omega)]; first | rfl | decide) | (simp only [ic_size, List.length_map, List.size_toArray]; first | omega | decide) | rfl | (simp [*]; done) | (simp [*]; omega))) ?_
   try simp only [opv, n1, n2, n3, n4, Value.cells, List.getElem_toArray, List.getElem_cons_zero, List.getElem_cons_succ]
   refine m_buildRow (cells := (AA a)) Try.underlying24 ti39 (hc := by simp only [List.map_toArray, List.map_cons, List.map_nil, opv, n1, n2, n3, n4, Value.cells, List.toList_toArray]; exact fill_one (by rfl) (zi_size21 hal) (by rfl)) (hS := hS) (h := fun w20 g20 hS => ?_)
   try simp only [opv, n1, n2, n3, n4, Value.cells, Array.toArray_toList] at hS ⊢
   replace hS := hS.obj_rd (sz := 21) (n := 1) (by exact zi_size21 hal) .head
   rw [arow_one hal] at hS
   refine m_append Try.underlying24 ti39 (hS := hS) (h1 := rowsZ_cells _ _) (h := fun w21 A21 C21 hS => ?_)
   try simp only [← List.map_append, ← List.map_drop, ← List.map_take, Nat.mul_one, Nat.zero_mul, Nat.sub_zero, List.drop_zero, List.nil_append, Nat.zero_add] at hS ⊢
   try simp only [opv, n1, n2, n3, n4, Value.cells, Array.toArray_toList] at hS ⊢
   rw [add_one] at hS
   refine s_go (s_assign) ?_
   try simp only [opv, n1, n2, n3, n4, Value.cells]
   refine x_nil ?_
   refine hK16 _ _ ?_
   refine x_seq fun K18 hK18 => ?_
   refine x_region ?_
   refine s_go (s_move) ?_
   try simp only [opv, n1, n2, n3, n4, Value.cells]
   refine s_go (s_assign) ?_
   try simp only [opv, n1, n2, n3, n4, Value.cells]
   refine x_nil ?_
   refine hK18 _ _ ?_
   refine x_ret ?_
   refine r_tmp rfl ?_
   rw [hpe]
   first
   | exact ⟨_, _, rfl, hS.sel (by repeat (first | exact Sel.nil | (refine Sel.cons (by repeat (first | exact Del.head | apply Del.tail)) ?_)))⟩
   | (rw [List.length_append]; exact ⟨_, _, rfl, hS.sel (by repeat (first | exact Sel.nil | (refine Sel.cons (by repeat (first | exact Del.head | apply Del.tail)) ?_)))⟩)
  ·
   try simp only [decide_eq_true_eq, decide_eq_false_iff_not, Bool.not_eq_true', Bool.not_eq_false', Int.not_lt, Int.not_le, ne_eq, Decidable.not_not, bne_iff_ne, beq_iff_eq, not_true_eq_false, not_false_eq_true] at hc5
   obtain rfl : dn = true := by simpa using hc5
   rw [if_pos rfl] at hpe
   refine x_skip ?_
   refine hK16 _ _ ?_
   refine x_seq fun K19 hK19 => ?_
   refine x_region ?_
   refine s_go (s_move) ?_
   try simp only [opv, n1, n2, n3, n4, Value.cells]
   refine s_go (s_assign) ?_
   try simp only [opv, n1, n2, n3, n4, Value.cells]
   refine x_nil ?_
   refine hK19 _ _ ?_
   refine x_ret ?_
   refine r_tmp rfl ?_
   rw [hpe]
   first
   | exact ⟨_, _, rfl, hS.sel (by repeat (first | exact Sel.nil | (refine Sel.cons (by repeat (first | exact Del.head | apply Del.tail)) ?_)))⟩
   | (rw [List.length_append]; exact ⟨_, _, rfl, hS.sel (by repeat (first | exact Sel.nil | (refine Sel.cons (by repeat (first | exact Del.head | apply Del.tail)) ?_)))⟩)
end Go.Proofs.Ytmgacmkikefpjaa
set_option linter.unusedSimpArgs false
set_option linter.unusedVariables false
set_option maxHeartbeats 600000
set_option maxRecDepth 100000
namespace Go.Proofs.Ytmgacmkikefpjaa
open Go.RowKit

theorem norm_tk {l : List (List Int)} {k : Nat} {x : List Int} (hk : k < l.length) (hx : l.getD k [] = x) (hv : AOks l) : (atomR x = true → normP (l.take (k + 1)) = putS x (normP (l.take k))) ∧ (atomR x = false → normP (l.take (k + 1)) = normP (l.take k)) := by
  have ha : AtomOk x := by rw [← hx]; exact hv.get hk
  rw [norm_take hk, hx]
  refine ⟨fun h => ?_, fun h => ?_⟩
  · rw [if_pos h, put_eq ha (norm_sta (hv.take k))]
  · rw [if_neg (by rw [h]; decide)]
theorem fnd_step_none {x : List Int} {l : List (List Int)} {k : Nat} {y : List Int} (hk : k < l.length) (hy : l.getD k [] = y) (h : fnd x (l.take k) = none) (hn : ¬ akey y = x) : fnd x (l.take (k + 1)) = none := by
  rw [fnd_none] at h ⊢
  intro a ha
  rw [take_snoc hk, hy] at ha
  rcases List.mem_append.1 ha with ha | ha
  · exact h a ha
  · rw [List.mem_singleton] at ha; rw [ha]; exact hn
theorem fnd_app {x : List Int} : ∀ {s t : List (List Int)}, fnd x s = none → fnd x (s ++ t) = fnd x t
  | [], _, _ => rfl
  | a :: s, t, h => by
    have h2 : ¬ akey a = x := fnd_none.1 h a (by simp)
    have h3 : fnd x s = none := by rw [fnd, if_neg h2] at h; exact h
    show fnd x (a :: (s ++ t)) = _
    rw [fnd, if_neg h2, fnd_app h3]
theorem fnd_here {x : List Int} {l : List (List Int)} {k : Nat} {y : List Int} (hk : k < l.length) (hy : l.getD k [] = y) (h : fnd x (l.take k) = none) (he : akey y = x) : fnd x l = some (aval y) := by
  have e : l = l.take k ++ y :: l.drop (k + 1) := by
    conv => lhs; rw [← List.take_append_drop k l, List.drop_eq_getElem_cons hk]
    rw [← getD_lt hk, hy]
  rw [e, fnd_app h, fnd, if_pos he]
theorem c_ref10Norm (w0 : World) (A : Option Addr) (c : Nat) (l : List (List Int)) (hr : Rd w0 A 21 l.length (arows l)) (hv : AOks l) (hn : l.length ≤ 1000000000)  :
    CallR Try.prog 32 #[.slice A l.length c] w0 fun v w' => ∃ (B : Option Addr) (d : Nat), v = .slice B (normP l).length d ∧ RBack w0 w' A l B (normP l) := by
 have hS := St.rd1 (S := NoB) hr
 have hvl := arows_len l
 refine c_enter (l := [.slice A l.length c, undef, undef, undef, undef, undef, undef, undef, undef, undef, undef, undef, undef, undef, undef, undef, undef, undef, undef, undef, undef, undef, undef, undef, undef, undef]) Try.func32 rfl (by simp only [Try.ntmps32, List.size_toArray, List.length_cons, List.length_nil, Nat.reduceAdd, Nat.reduceSub, Array.replicate_succ, Array.replicate_zero, List.push_toArray, List.append_toArray, List.nil_append, List.cons_append]) ?_
 refine x_seq fun K1 hK1 => ?_
 refine x_region ?_
 refine s_go (s_assign) ?_
 try simp only [opv, n1, n2, n3, n4, Value.cells]
 refine x_nil ?_
 refine hK1 _ _ ?_
 refine x_seq fun K2 hK2 => ?_
 refine x_seq fun K3 hK3 => ?_
 refine x_region ?_
 refine s_go (s_move) ?_
 try simp only [opv, n1, n2, n3, n4, Value.cells]
 refine s_call en30 ?_
 try simp only [opv, n1, n2, n3, n4, Value.cells, List.map_toArray, List.map_cons, List.map_nil, List.append_toArray, List.cons_append, List.nil_append, Array.append_empty]
 refine CallR.mono (c_ref10Right _ A c l (hS.hasRd (by repeat (first | exact Has.head | apply Has.tail))) hv hn) ?_
 rintro _ w1 ⟨rfl, hE1⟩
 replace hS := hS.ext hE1
 try simp only [opv, n1, n2, n3, n4, Value.cells]
 refine x_nil ?_
 refine hK3 _ _ ?_
 refine x_cond (ht := fun hc1 => ?_) (hf := fun hc1 => ?_)
 ·
  try simp only [decide_eq_true_eq, decide_eq_false_iff_not, Bool.not_eq_true', Bool.not_eq_false', Int.not_lt, Int.not_le, ne_eq, Decidable.not_not, bne_iff_ne, beq_iff_eq, not_true_eq_false, not_false_eq_true] at hc1
  have hid := norm_id ((right_iff hv).1 hc1)
  refine x_seq fun K4 hK4 => ?_
  refine x_region ?_
  refine s_go (s_move) ?_
  try simp only [opv, n1, n2, n3, n4, Value.cells]
  refine s_go (s_assign) ?_
  try simp only [opv, n1, n2, n3, n4, Value.cells]
  refine x_nil ?_
  refine hK4 _ _ ?_
  refine x_ret ?_
  refine r_tmp rfl ?_
  exact ⟨A, c, by rw [hid]; rfl, rback_self hS.ext_of (hS.hasRd (by repeat (first | exact Has.head | apply Has.tail))) hid⟩
 ·
  try simp only [decide_eq_true_eq, decide_eq_false_iff_not, Bool.not_eq_true', Bool.not_eq_false', Int.not_lt, Int.not_le, ne_eq, Decidable.not_not, bne_iff_ne, beq_iff_eq, not_true_eq_false, not_false_eq_true] at hc1
  refine x_skip ?_
  refine hK2 _ _ ?_
  refine x_seq fun K5 hK5 => ?_
  refine x_region ?_
  replace hS := hS.nil_vec 39 21
  refine s_go (s_assign) ?_
  try simp only [opv, n1, n2, n3, n4, Value.cells]
  refine x_nil ?_
  refine hK5 _ _ ?_
  refine x_seq fun K6 hK6 => ?_
  refine x_seq fun K7 hK7 => ?_
  refine x_region ?_
  refine s_go (s_assign) ?_
  try simp only [opv, n1, n2, n3, n4, Value.cells]
  refine x_nil ?_
  refine hK7 _ _ ?_
  refine x_block ?_
  refine x_loop [3, 4, 8, 9, 10, 11, 12, 13, 14, 15, 16, 17, 18, 19, 20, 21, 22, 23, 24] (fun m f w => ∃ (k : Nat) (B : Option Addr) (d : Nat), k ≤ l.length ∧ m = l.length - k ∧ f 4 = .int .i64 (k : Int) ∧ f 3 = .slice B (normP (l.take k)).length d ∧ St NoB w0 w [.vec B d 39 21 (normP (l.take k)).length (arows (normP (l.take k))), .rd A 21 (l).length (arows (l))]) (l.length) ?init1 (fun m1 f1 wl1 hI => ?_)
  case init1 =>
   try simp only [opv, n1, n2, n3, n4, Value.cells]
   exact ⟨0, none, 0, by omega, rfl, rfl, rfl, hS.sel (by repeat (first | exact Sel.nil | (refine Sel.cons (by repeat (first | exact Del.head | apply Del.tail)) ?_)))⟩
  obtain ⟨k, B, d, hk0, hm, h4, h3, hS⟩ := hI
  simp only [clob, List.foldl, n3, n4, h4, h3]
  obtain ⟨x, hx⟩ : ∃ x, l.getD k [] = x := ⟨_, rfl⟩
  have hlk := norm_len (l.take k)
  have hlt : (l.take k).length ≤ l.length := by rw [List.length_take]; omega
  refine x_seq fun K8 hK8 => ?_
  refine x_seq fun K9 hK9 => ?_
  refine x_region ?_
  refine s_go (s_move) ?_
  try simp only [opv, n1, n2, n3, n4, Value.cells]
  refine s_go (s_move) ?_
  try simp only [opv, n1, n2, n3, n4, Value.cells]
  refine s_go (s_len_sl Try.underlying24) ?_
  try simp only [opv, n1, n2, n3, n4, Value.cells]
  refine s_go (s_lss) ?_
  try simp only [opv, n1, n2, n3, n4, Value.cells]
  refine x_nil ?_
  refine hK9 _ _ ?_
  refine x_cond (ht := fun hc2 => ?_) (hf := fun hc2 => ?_)
  ·
   try simp only [decide_eq_true_eq, decide_eq_false_iff_not, Bool.not_eq_true', Bool.not_eq_false', Int.not_lt, Int.not_le, ne_eq, Decidable.not_not, bne_iff_ne, beq_iff_eq, not_true_eq_false, not_false_eq_true] at hc2
   have ha : AtomOk x := by rw [← hx]; exact hv.get (by omega)
   have hal := ha.len
   have hk := ha.key
   have hkl := hk.len
   have htk := norm_tk (by omega) hx hv
   refine x_skip ?_
   refine hK8 _ _ ?_
   refine x_seq fun K10 hK10 => ?_
   refine x_block ?_
   refine x_seq fun K11 hK11 => ?_
   refine x_region ?_
   refine s_go (s_move) ?_
   try simp only [opv, n1, n2, n3, n4, Value.cells]
   refine s_go (s_move) ?_
   try simp only [opv, n1, n2, n3, n4, Value.cells]
   first | refine s_go (m_indexAddr_rd Try.underlying24 ti39 (hS := hS)) ?_ | refine s_go (m_indexAddr_vec Try.underlying24 ti39 (hS := hS)) ?_
   try simp only [opv, n1, n2, n3, n4, Value.cells, Nat.mul_one, Nat.zero_add, Int.toNat_natCast, Int.reduceToNat]
   first | refine s_go (m_load_row Try.underlying39 (hi := ti39) (hS := hS) (hfit := by rw [arows_len]; omega)) ?_ | refine s_go (m_loada_obj Try.underlying39 (hi := ti39) (hS := hS) (hfit := by rw [arows_len]; omega)) ?_ | refine s_go (m_loada_bx Try.underlying39 (hi := ti39) (hS := hS) (hfit := by rw [arows_len]; omega)) ?_ | refine s_go (m_loada_rd Try.underlying39 (hi := ti39) (hS := hS) (hfit := by rw [arows_len]; omega)) ?_ | refine s_go (m_loada_vec Try.underlying39 (hi := ti39) (hS := hS) (hfit := by rw [arows_len]; omega)) ?_
   try simp only [opv, n1, n2, n3, n4, Value.cells, List.getElem_toArray, List.getElem_cons_zero, List.getElem_cons_succ]
   rw [arow_get (by omega) hv, hx]
   refine s_call en115 ?_
   try simp only [opv, n1, n2, n3, n4, Value.cells, List.map_toArray, List.map_cons, List.map_nil, List.append_toArray, List.cons_append, List.nil_append, Array.append_empty]
   refine CallR.mono (c_ref09Right x ha _) ?_
   rintro _ w2 ⟨rfl, hE2⟩
   replace hS := hS.ext hE2
   try simp only [opv, n1, n2, n3, n4, Value.cells]
   refine x_nil ?_
   refine hK11 _ _ ?_
   refine x_cond (ht := fun hc3 => ?_) (hf := fun hc3 => ?_)
   ·
    try simp only [decide_eq_true_eq, decide_eq_false_iff_not, Bool.not_eq_true', Bool.not_eq_false', Int.not_lt, Int.not_le, ne_eq, Decidable.not_not, bne_iff_ne, beq_iff_eq, not_true_eq_false, not_false_eq_true] at hc3
    have hst := htk.1 hc3
    refine x_region ?_
    refine s_go (s_move) ?_
    try simp only [opv, n1, n2, n3, n4, Value.cells]
    refine s_go (s_move) ?_
    try simp only [opv, n1, n2, n3, n4, Value.cells]
    refine s_go (s_move) ?_
    try simp only [opv, n1, n2, n3, n4, Value.cells]
    first | refine s_go (m_indexAddr_rd Try.underlying24 ti39 (hS := hS)) ?_ | refine s_go (m_indexAddr_vec Try.underlying24 ti39 (hS := hS)) ?_
    try simp only [opv, n1, n2, n3, n4, Value.cells, Nat.mul_one, Nat.zero_add, Int.toNat_natCast, Int.reduceToNat]
    first | refine s_go (m_load_row Try.underlying39 (hi := ti39) (hS := hS) (hfit := by rw [arows_len]; omega)) ?_ | refine s_go (m_loada_obj Try.underlying39 (hi := ti39) (hS := hS) (hfit := by rw [arows_len]; omega)) ?_ | refine s_go (m_loada_bx Try.underlying39 (hi := ti39) (hS := hS) (hfit := by rw [arows_len]; omega)) ?_ | refine s_go (m_loada_rd Try.underlying39 (hi := ti39) (hS := hS) (hfit := by rw [arows_len]; omega)) ?_ | refine s_go (m_loada_vec Try.underlying39 (hi := ti39) (hS := hS) (hfit := by rw [arows_len]; omega)) ?_
    try simp only [opv, n1, n2, n3, n4, Value.cells, List.getElem_toArray, List.getElem_cons_zero, List.getElem_cons_succ]
    rw [arow_get (by omega) hv, hx]
    refine s_call en117 ?_
    try simp only [opv, n1, n2, n3, n4, Value.cells, List.map_toArray, List.map_cons, List.map_nil, List.append_toArray, List.cons_append, List.nil_append, Array.append_empty]
    refine CallR.mono (c_ref10put _ B d (normP (l.take k)) (hS.vecRd (by repeat (first | exact Has.head | apply Has.tail))) (norm_sta (hv.take k)).ok (by omega) x ha) ?_
    rintro _ w3 ⟨B3, d3, rfl, hC3⟩
    replace hS := hS.call hC3
    simp only [List.cons_append, List.nil_append] at hS
    try simp only [opv, n1, n2, n3, n4, Value.cells]
    refine s_go (s_assign) ?_
    try simp only [opv, n1, n2, n3, n4, Value.cells]
    refine x_nil ?_
    refine hK10 _ _ ?_
    refine x_region ?_
    refine s_go (s_move) ?_
    try simp only [opv, n1, n2, n3, n4, Value.cells]
    refine s_go (s_add (hc := by first | exact wr_i64 (by omega) (by omega) | rfl)) ?_
    try simp only [opv, n1, n2, n3, n4, Value.cells]
    refine s_go (s_assign) ?_
    try simp only [opv, n1, n2, n3, n4, Value.cells]
    refine x_nil ?_
    refine loop_back (m' := l.length - (k + 1)) (by simp only [clob, List.foldl, n1, n2, n3, n4]) ?_ ?_
    · try simp only [opv, n1, n2, n3, n4, Value.cells]
      exact ⟨k + 1, _, _, by omega, by omega, by rfl, by rw [hst], by rw [hst]; exact hS.sel (by repeat (first | exact Sel.nil | (refine Sel.cons (by repeat (first | exact Del.head | apply Del.tail)) ?_)))⟩
    · omega
   ·
    try simp only [decide_eq_true_eq, decide_eq_false_iff_not, Bool.not_eq_true', Bool.not_eq_false', Int.not_lt, Int.not_le, ne_eq, Decidable.not_not, bne_iff_ne, beq_iff_eq, not_true_eq_false, not_false_eq_true] at hc3
    have hst := htk.2 (by simpa using hc3)
    refine x_skip ?_
    refine hK10 _ _ ?_
    refine x_region ?_
    refine s_go (s_move) ?_
    try simp only [opv, n1, n2, n3, n4, Value.cells]
    refine s_go (s_add (hc := by first | exact wr_i64 (by omega) (by omega) | rfl)) ?_
    try simp only [opv, n1, n2, n3, n4, Value.cells]
    refine s_go (s_assign) ?_
    try simp only [opv, n1, n2, n3, n4, Value.cells]
    refine x_nil ?_
    refine loop_back (m' := l.length - (k + 1)) (by simp only [clob, List.foldl, n1, n2, n3, n4]) ?_ ?_
    · try simp only [opv, n1, n2, n3, n4, Value.cells]
      exact ⟨k + 1, _, _, by omega, by omega, by rfl, by rw [hst], by rw [hst]; exact hS.sel (by repeat (first | exact Sel.nil | (refine Sel.cons (by repeat (first | exact Del.head | apply Del.tail)) ?_)))⟩
    · omega
  ·
   try simp only [decide_eq_true_eq, decide_eq_false_iff_not, Bool.not_eq_true', Bool.not_eq_false', Int.not_lt, Int.not_le, ne_eq, Decidable.not_not, bne_iff_ne, beq_iff_eq, not_true_eq_false, not_false_eq_true] at hc2
   obtain rfl : k = l.length := by omega
   rw [List.take_of_length_le (Nat.le_refl _)] at hS ⊢
   refine x_exit (look_here ?_)
   refine hK6 _ _ ?_
   refine x_seq fun K12 hK12 => ?_
   refine x_region ?_
   refine s_go (s_move) ?_
   try simp only [opv, n1, n2, n3, n4, Value.cells]
   refine s_go (s_assign) ?_
   try simp only [opv, n1, n2, n3, n4, Value.cells]
   refine x_nil ?_
   refine hK12 _ _ ?_
   refine x_ret ?_
   refine r_tmp rfl ?_
   exact ⟨_, _, rfl, rback_vec hS (by repeat (first | exact Has.head | apply Has.tail))⟩
theorem c_ref10find (w0 : World) (A : Option Addr) (c : Nat) (l : List (List Int)) (hr : Rd w0 A 21 l.length (arows l)) (hv : AOks l) (hn : l.length ≤ 4000000000) (x : List Int) (hx : KeyOk x)  :
    CallR Try.prog 113 #[.slice A l.length c, .agg (KA x)] w0 fun v w' => v = .tuple #[.agg (VA ((fnd x l).getD v9)), .bool (fnd x l).isSome] ∧ Ext w0 w' := by
 have hS := St.rd1 (S := NoB) hr
 have hvl := arows_len l
 have hxl := hx.len
 have h9l : v9.length = 9 := rfl
 refine c_enter (l := [.slice A l.length c, .agg (KA x), undef, undef, undef, undef, undef, undef, undef, undef, undef, undef, undef, undef, undef, undef, undef, undef, undef, undef, undef, undef, undef, undef, undef, undef]) Try.func113 rfl (by simp only [Try.ntmps113, List.size_toArray, List.length_cons, List.length_nil, Nat.reduceAdd, Nat.reduceSub, Array.replicate_succ, Array.replicate_zero, List.push_toArray, List.append_toArray, List.nil_append, List.cons_append]) ?_
 refine x_seq fun K1 hK1 => ?_
 refine x_region ?_
 refine m_box hS (fun w1 g1 hS => ?_)
 try simp only [opv, n1, n2, n3, n4, Value.cells, Array.toArray_toList] at hS ⊢
 refine m_alloc ti37 hS (fun w2 g2 hS => ?_)
 try simp only [opv, n1, n2, n3, n4, Value.cells, Array.toArray_toList] at hS ⊢
 replace hS : St _ _ w2 (.obj g2 (.cells (VA v9) 37 (0, 0)) :: _) := hS
 refine s_go (s_assign) ?_
 try simp only [opv, n1, n2, n3, n4, Value.cells]
 refine x_nil ?_
 refine hK1 _ _ ?_
 refine x_seq fun K2 hK2 => ?_
 refine x_seq fun K3 hK3 => ?_
 refine x_region ?_
 refine s_go (s_assign) ?_
 try simp only [opv, n1, n2, n3, n4, Value.cells]
 refine x_nil ?_
 refine hK3 _ _ ?_
 refine x_block ?_
 refine x_loop [5, 6, 7, 8, 9, 10, 11, 12, 13, 14, 15, 16, 17, 18, 19, 20, 21, 22, 23, 24] (fun m f w => ∃ (k : Nat), k ≤ l.length ∧ m = l.length - k ∧ f 6 = .int .i64 (k : Int) ∧ fnd x (l.take k) = none ∧ St NoB w0 w [.obj g2 (.cells (VA v9) 37 (0, 0)), .obj g1 (.cells (KA x) 34 (0, 0)), .rd A 21 (l).length (arows (l))]) (l.length) ?init1 (fun m1 f1 wl1 hI => ?_)
 case init1 =>
  try simp only [opv, n1, n2, n3, n4, Value.cells]
  exact ⟨0, by omega, rfl, rfl, rfl, hS.sel (by repeat (first | exact Sel.nil | (refine Sel.cons (by repeat (first | exact Del.head | apply Del.tail)) ?_)))⟩
 obtain ⟨k, hk0, hm, h6, hfn, hS⟩ := hI
 simp only [clob, List.foldl, n3, n4, h6]
 obtain ⟨y, hy⟩ : ∃ y, l.getD k [] = y := ⟨_, rfl⟩
 refine x_seq fun K4 hK4 => ?_
 refine x_seq fun K5 hK5 => ?_
 refine x_region ?_
 refine s_go (s_move) ?_
 try simp only [opv, n1, n2, n3, n4, Value.cells]
 refine s_go (s_move) ?_
 try simp only [opv, n1, n2, n3, n4, Value.cells]
 refine s_go (s_len_sl Try.underlying24) ?_
 try simp only [opv, n1, n2, n3, n4, Value.cells]
 refine s_go (s_lss) ?_
 try simp only [opv, n1, n2, n3, n4, Value.cells]
 refine x_nil ?_
 refine hK5 _ _ ?_
 refine x_cond (ht := fun hc1 => ?_) (hf := fun hc1 => ?_)
 ·
  try simp only [decide_eq_true_eq, decide_eq_false_iff_not, Bool.not_eq_true', Bool.not_eq_false', Int.not_lt, Int.not_le, ne_eq, Decidable.not_not, bne_iff_ne, beq_iff_eq, not_true_eq_false, not_false_eq_true] at hc1
  have ha : AtomOk y := by rw [← hy]; exact hv.get (by omega)
  have hal := ha.len
  have hkl := ha.key.len
  have hvyl := ha.val.len
  refine x_skip ?_
  refine hK4 _ _ ?_
  refine x_seq fun K6 hK6 => ?_
  refine x_block ?_
  refine x_seq fun K7 hK7 => ?_
  refine x_quiet (by kernel_rfl) (by kernel_rfl) hS ?_
  refine q_go (fun w hS => s_move) ?_
  try simp only [opv, n1, n2, n3, n4, Value.cells]
  refine q_go (fun w hS => s_move) ?_
  try simp only [opv, n1, n2, n3, n4, Value.cells]
  first | refine q_go (fun w hS => m_indexAddr_rd Try.underlying24 ti39 (hS := hS)) ?_ | refine q_go (fun w hS => m_indexAddr_vec Try.underlying24 ti39 (hS := hS)) ?_
  try simp only [opv, n1, n2, n3, n4, Value.cells, Nat.mul_one, Nat.zero_add, Int.toNat_natCast, Int.reduceToNat]
  first | refine q_go (fun w hS => m_fieldAddr Try.underlying39 (hi := ti34)) ?_ | refine q_go (fun w hS => m_fieldAddr_rd Try.underlying39 (hi := ti34) (hS := hS)) ?_ | refine q_go (fun w hS => m_fieldAddr_vec Try.underlying39 (hi := ti34) (hS := hS)) ?_
  try simp only [opv, n1, n2, n3, n4, Value.cells, Nat.zero_add, Nat.add_zero, List.getElem_toArray, List.getElem_cons_zero, List.getElem_cons_succ]
  first | refine q_go (fun w hS => m_load_row Try.underlying34 (hi := ti34) (hS := hS) (hfit := by rw [arows_len]; omega)) ?_ | refine q_go (fun w hS => m_loada_obj Try.underlying34 (hi := ti34) (hS := hS) (hfit := by rw [arows_len]; omega)) ?_ | refine q_go (fun w hS => m_loada_bx Try.underlying34 (hi := ti34) (hS := hS) (hfit := by rw [arows_len]; omega)) ?_ | refine q_go (fun w hS => m_loada_rd Try.underlying34 (hi := ti34) (hS := hS) (hfit := by rw [arows_len]; omega)) ?_ | refine q_go (fun w hS => m_loada_vec Try.underlying34 (hi := ti34) (hS := hS) (hfit := by rw [arows_len]; omega)) ?_
  try simp only [opv, n1, n2, n3, n4, Value.cells, List.getElem_toArray, List.getElem_cons_zero, List.getElem_cons_succ]
  rw [arow_key (by omega) hv, hy]
  first | refine q_go (fun w hS => m_load_row Try.underlying34 (hi := ti34) (hS := hS) (hfit := by first | omega | (rw [zi_size (by omega)]; first | rfl | decide) | (simp only [ic_size, List.length_map, List.size_toArray]; first | omega | decide) | rfl | (simp [*]; done) | (simp [*]; omega))) ?_ | refine q_go (fun w hS => m_loada_obj Try.underlying34 (hi := ti34) (hS := hS) (hfit := by first | omega | (rw [zi_size (by omega)]; first | rfl | decide) | (simp only [ic_size, List.length_map, List.size_toArray]; first | omega | decide) | rfl | (simp [*]; done) | (simp [*]; omega))) ?_ | refine q_go (fun w hS => m_loada_bx Try.underlying34 (hi := ti34) (hS := hS) (hfit := by first | omega | (rw [zi_size (by omega)]; first | rfl | decide) | (simp only [ic_size, List.length_map, List.size_toArray]; first | omega | decide) | rfl | (simp [*]; done) | (simp [*]; omega))) ?_ | refine q_go (fun w hS => m_loada_rd Try.underlying34 (hi := ti34) (hS := hS) (hfit := by first | omega | (rw [zi_size (by omega)]; first | rfl | decide) | (simp only [ic_size, List.length_map, List.size_toArray]; first | omega | decide) | rfl | (simp [*]; done) | (simp [*]; omega))) ?_ | refine q_go (fun w hS => m_loada_vec Try.underlying34 (hi := ti34) (hS := hS) (hfit := by first | omega | (rw [zi_size (by omega)]; first | rfl | decide) | (simp only [ic_size, List.length_map, List.size_toArray]; first | omega | decide) | rfl | (simp [*]; done) | (simp [*]; omega))) ?_
  try simp only [opv, n1, n2, n3, n4, Value.cells, List.getElem_toArray, List.getElem_cons_zero, List.getElem_cons_succ]
  refine q_go (fun w hS => s_eql_agg eqv34 (hg := eg34) (hX := rfl) (hY := rfl) (h1 := by assumption) (h2 := by assumption)) ?_
  try simp only [opv, n1, n2, n3, n4, Value.cells]
  clear hS
  refine q_nil fun w3 hS => ?_
  refine hK7 _ _ ?_
  refine x_cond (ht := fun hc2 => ?_) (hf := fun hc2 => ?_)
  ·
   try simp only [decide_eq_true_eq, decide_eq_false_iff_not, Bool.not_eq_true', Bool.not_eq_false', Int.not_lt, Int.not_le, ne_eq, Decidable.not_not, bne_iff_ne, beq_iff_eq, not_true_eq_false, not_false_eq_true] at hc2
   have hfs := fnd_here (by omega) hy hfn hc2
   refine x_seq fun K8 hK8 => ?_
   refine x_region ?_
   refine s_go (s_move) ?_
   try simp only [opv, n1, n2, n3, n4, Value.cells]
   refine s_go (s_move) ?_
   try simp only [opv, n1, n2, n3, n4, Value.cells]
   first | refine s_go (m_indexAddr_rd Try.underlying24 ti39 (hS := hS)) ?_ | refine s_go (m_indexAddr_vec Try.underlying24 ti39 (hS := hS)) ?_
   try simp only [opv, n1, n2, n3, n4, Value.cells, Nat.mul_one, Nat.zero_add, Int.toNat_natCast, Int.reduceToNat]
   first | refine s_go (m_fieldAddr Try.underlying39 (hi := ti37)) ?_ | refine s_go (m_fieldAddr_rd Try.underlying39 (hi := ti37) (hS := hS)) ?_ | refine s_go (m_fieldAddr_vec Try.underlying39 (hi := ti37) (hS := hS)) ?_
   try simp only [opv, n1, n2, n3, n4, Value.cells, Nat.zero_add, Nat.add_zero, List.getElem_toArray, List.getElem_cons_zero, List.getElem_cons_succ]
   first | refine s_go (m_load_row Try.underlying37 (hi := ti37) (hS := hS) (hfit := by rw [arows_len]; omega)) ?_ | refine s_go (m_loada_obj Try.underlying37 (hi := ti37) (hS := hS) (hfit := by rw [arows_len]; omega)) ?_ | refine s_go (m_loada_bx Try.underlying37 (hi := ti37) (hS := hS) (hfit := by rw [arows_len]; omega)) ?_ | refine s_go (m_loada_rd Try.underlying37 (hi := ti37) (hS := hS) (hfit := by rw [arows_len]; omega)) ?_ | refine s_go (m_loada_vec Try.underlying37 (hi := ti37) (hS := hS) (hfit := by rw [arows_len]; omega)) ?_
   try simp only [opv, n1, n2, n3, n4, Value.cells, List.getElem_toArray, List.getElem_cons_zero, List.getElem_cons_succ]
   rw [arow_val (by omega) hv, hy]
   first | refine m_store_obj ti37 (hS := hS) (hc := by first | exact zi_set rfl (by omega) | exact zi_whole (by omega) (by omega) | (first | exact splice_ic (by first | omega | (simp [*]; done) | (simp [*]; omega)) | exact splice_il (by first | omega | (simp [*]; done) | (simp [*]; omega)) | exact splice_whole (by first | (simp [opv, Value.cells, *]; done) | rfl) | (simp only [opv, n1, n2, Value.cells, splice, List.take_succ_cons, List.take_zero, List.drop_succ_cons, List.drop_zero, List.length_cons, List.length_nil, Nat.zero_add, Nat.reduceAdd, List.append_assoc, List.cons_append, List.nil_append]; rfl))) (hv := by first | rfl | (show (zi _ _).toArray.size = _; rw [zi_size (by omega)]; rfl) | (simp [opv, Value.cells, *]; done)) (hfit := by first | omega | (rw [zi_size (by omega)]; first | rfl | decide) | (simp only [ic_size, List.length_map, List.size_toArray]; first | omega | decide) | rfl | (simp [*]; done) | (simp [*]; omega)) (h1 := by first | exact zi_one _ _ | exact ic_one _ _ | simp [opv, Value.cells, Value.oneCell']) (h := fun w4 hS => ?_) | refine m_store_vec ti37 (hS := hS) (hc := by first | exact zi_set rfl (by omega) | exact zi_whole (by omega) (by omega) | (first | exact splice_ic (by first | omega | (simp [*]; done) | (simp [*]; omega)) | exact splice_il (by first | omega | (simp [*]; done) | (simp [*]; omega)) | exact splice_whole (by first | (simp [opv, Value.cells, *]; done) | rfl) | (simp only [opv, n1, n2, Value.cells, splice, List.take_succ_cons, List.take_zero, List.drop_succ_cons, List.drop_zero, List.length_cons, List.length_nil, Nat.zero_add, Nat.reduceAdd, List.append_assoc, List.cons_append, List.nil_append]; rfl))) (hv := by first | rfl | (show (zi _ _).toArray.size = _; rw [zi_size (by omega)]; rfl) | (simp [opv, Value.cells, *]; done)) (hfit := by first | omega | (rw [zi_size (by omega)]; first | rfl | decide) | (simp only [ic_size, List.length_map, List.size_toArray]; first | omega | decide) | rfl | (simp [*]; done) | (simp [*]; omega)) (h1 := by first | exact zi_one _ _ | exact ic_one _ _ | simp [opv, Value.cells, Value.oneCell']) (h := fun w4 hS => ?_)
   try simp only [opv, n1, n2, n3, n4, Value.cells, Array.toArray_toList] at hS ⊢
   refine s_go (s_assign) ?_
   try simp only [opv, n1, n2, n3, n4, Value.cells]
   refine x_nil ?_
   refine hK8 _ _ ?_
   refine x_ret ?_
   refine r_cell_tmp_agg rfl Try.underlying37 ti37 (hS := hS) (hfit := by first | omega | (rw [zi_size (by omega)]; first | rfl | decide) | (simp only [ic_size, List.length_map, List.size_toArray]; first | omega | decide) | rfl | (simp [*]; done) | (simp [*]; omega)) (hR := ?_)
   exact ⟨by rw [hfs]; rfl, hS.ext_of⟩
  ·
   try simp only [decide_eq_true_eq, decide_eq_false_iff_not, Bool.not_eq_true', Bool.not_eq_false', Int.not_lt, Int.not_le, ne_eq, Decidable.not_not, bne_iff_ne, beq_iff_eq, not_true_eq_false, not_false_eq_true] at hc2
   have hne := hc2
   refine x_skip ?_
   refine hK6 _ _ ?_
   refine x_region ?_
   refine s_go (s_move) ?_
   try simp only [opv, n1, n2, n3, n4, Value.cells]
   refine s_go (s_add (hc := by first | exact wr_i64 (by omega) (by omega) | rfl)) ?_
   try simp only [opv, n1, n2, n3, n4, Value.cells]
   refine s_go (s_assign) ?_
   try simp only [opv, n1, n2, n3, n4, Value.cells]
   refine x_nil ?_
   refine loop_back (m' := l.length - (k + 1)) (by simp only [clob, List.foldl, n1, n2, n3, n4]) ?_ ?_
   · try simp only [opv, n1, n2, n3, n4, Value.cells]
     exact ⟨k + 1, by omega, by omega, by rfl, fnd_step_none (by omega) hy hfn hne, hS.sel (by repeat (first | exact Sel.nil | (refine Sel.cons (by repeat (first | exact Del.head | apply Del.tail)) ?_)))⟩
   · omega
 ·
  try simp only [decide_eq_true_eq, decide_eq_false_iff_not, Bool.not_eq_true', Bool.not_eq_false', Int.not_lt, Int.not_le, ne_eq, Decidable.not_not, bne_iff_ne, beq_iff_eq, not_true_eq_false, not_false_eq_true] at hc1
  obtain rfl : k = l.length := by omega
  rw [List.take_of_length_le (Nat.le_refl _)] at hfn
  refine x_exit (look_here ?_)
  refine hK2 _ _ ?_
  refine x_seq fun K9 hK9 => ?_
  refine x_region ?_
  refine s_go (s_build_struct (cells := #[.int .u64 0, .int .u8 0, .int .u8 0, .int .u8 0, .int .u8 0, .int .u8 0, .int .u8 0, .int .u8 0, .int .u8 0]) Try.underlying37 ti37 bp37 (hc := by simp only [List.map_toArray, List.map_cons, List.map_nil, opv, n1, n2, n3, n4, Value.cells, List.toList_toArray]; (repeat (refine fill_cons rfl rfl (Nat.le_of_ble_eq_true rfl) ?_)); rfl)) ?_
  try simp only [opv, n1, n2, n3, n4, Value.cells]
  rw [show (#[.int .u64 0, .int .u8 0, .int .u8 0, .int .u8 0, .int .u8 0, .int .u8 0, .int .u8 0, .int .u8 0, .int .u8 0] : Array Value) = VA v9 from rfl]
  first | refine m_store_obj ti37 (hS := hS) (hc := by first | exact zi_set rfl (by omega) | exact zi_whole (by omega) (by omega) | (first | exact splice_ic (by first | omega | (simp [*]; done) | (simp [*]; omega)) | exact splice_il (by first | omega | (simp [*]; done) | (simp [*]; omega)) | exact splice_whole (by first | (simp [opv, Value.cells, *]; done) | rfl) | (simp only [opv, n1, n2, Value.cells, splice, List.take_succ_cons, List.take_zero, List.drop_succ_cons, List.drop_zero, List.length_cons, List.length_nil, Nat.zero_add, Nat.reduceAdd, List.append_assoc, List.cons_append, List.nil_append]; rfl))) (hv := by first | rfl | (show (zi _ _).toArray.size = _; rw [zi_size (by omega)]; rfl) | (simp [opv, Value.cells, *]; done)) (hfit := by first | omega | (rw [zi_size (by omega)]; first | rfl | decide) | (simp only [ic_size, List.length_map, List.size_toArray]; first | omega | decide) | rfl | (simp [*]; done) | (simp [*]; omega)) (h1 := by first | exact zi_one _ _ | exact ic_one _ _ | simp [opv, Value.cells, Value.oneCell']) (h := fun w5 hS => ?_) | refine m_store_vec ti37 (hS := hS) (hc := by first | exact zi_set rfl (by omega) | exact zi_whole (by omega) (by omega) | (first | exact splice_ic (by first | omega | (simp [*]; done) | (simp [*]; omega)) | exact splice_il (by first | omega | (simp [*]; done) | (simp [*]; omega)) | exact splice_whole (by first | (simp [opv, Value.cells, *]; done) | rfl) | (simp only [opv, n1, n2, Value.cells, splice, List.take_succ_cons, List.take_zero, List.drop_succ_cons, List.drop_zero, List.length_cons, List.length_nil, Nat.zero_add, Nat.reduceAdd, List.append_assoc, List.cons_append, List.nil_append]; rfl))) (hv := by first | rfl | (show (zi _ _).toArray.size = _; rw [zi_size (by omega)]; rfl) | (simp [opv, Value.cells, *]; done)) (hfit := by first | omega | (rw [zi_size (by omega)]; first | rfl | decide) | (simp only [ic_size, List.length_map, List.size_toArray]; first | omega | decide) | rfl | (simp [*]; done) | (simp [*]; omega)) (h1 := by first | exact zi_one _ _ | exact ic_one _ _ | simp [opv, Value.cells, Value.oneCell']) (h := fun w5 hS => ?_)
  try simp only [opv, n1, n2, n3, n4, Value.cells, Array.toArray_toList] at hS ⊢
  refine s_go (s_assign) ?_
  try simp only [opv, n1, n2, n3, n4, Value.cells]
  refine x_nil ?_
  refine hK9 _ _ ?_
  refine x_ret ?_
  refine r_cell_tmp_agg rfl Try.underlying37 ti37 (hS := hS) (hfit := by first | omega | (rw [zi_size (by omega)]; first | rfl | decide) | (simp only [ic_size, List.length_map, List.size_toArray]; first | omega | decide) | rfl | (simp [*]; done) | (simp [*]; omega)) (hR := ?_)
  exact ⟨by rw [hfn]; rfl, hS.ext_of⟩
theorem c_ref10Find (w0 : World) (A : Option Addr) (c : Nat) (l : List (List Int)) (hr : Rd w0 A 21 l.length (arows l)) (hv : AOks l) (hn : l.length ≤ 1000000000) (x : List Int) (hx : KeyOk x)  :
    CallR Try.prog 28 #[.slice A l.length c, .agg (KA x)] w0 fun v w' => v = .tuple #[.agg (VA ((fnd x (normP l)).getD v9)), .bool (fnd x (normP l)).isSome] ∧ Ext w0 w' := by
 have hS := St.rd1 (S := NoB) hr
 have hxl := hx.len
 have hno := (norm_sta hv).ok
 have hnb := norm_len l
 have hfl9 := (fndD_ok (k := x) hno).len
 have h9l : v9.length = 9 := rfl
 refine c_enter (l := [.slice A l.length c, .agg (KA x), undef, undef, undef, undef, undef, undef, undef, undef, undef, undef]) Try.func28 rfl (by simp only [Try.ntmps28, List.size_toArray, List.length_cons, List.length_nil, Nat.reduceAdd, Nat.reduceSub, Array.replicate_succ, Array.replicate_zero, List.push_toArray, List.append_toArray, List.nil_append, List.cons_append]) ?_
 refine x_seq fun K1 hK1 => ?_
 refine x_region ?_
 refine m_box hS (fun w1 g1 hS => ?_)
 try simp only [opv, n1, n2, n3, n4, Value.cells, Array.toArray_toList] at hS ⊢
 refine m_alloc ti37 hS (fun w2 g2 hS => ?_)
 try simp only [opv, n1, n2, n3, n4, Value.cells, Array.toArray_toList] at hS ⊢
 replace hS : St _ _ w2 (.obj g2 (.cells (VA v9) 37 (0, 0)) :: _) := hS
 refine s_go (s_assign) ?_
 try simp only [opv, n1, n2, n3, n4, Value.cells]
 refine x_nil ?_
 refine hK1 _ _ ?_
 refine x_seq fun K2 hK2 => ?_
 refine x_mixed_c (Lc := [.obj g1 (.cells (KA x) 34 (0, 0)), .rd A 21 (l).length (arows (l))]) [] 0 [5, 6, 7, 8, 9, 10, 11] (fun f w => f 5 = .bool (fnd x (normP l)).isSome ∧ St NoB w0 w [.obj g2 (.cells (VA ((fnd x (normP l)).getD v9)) 37 (0, 0))]) (by kernel_rfl) (by kernel_rfl) (by kernel_rfl) (by decide) hS (fun w3 hS => ?mixpre101) ?mixrest101
 case mixpre101 =>
  refine p_nil ?_
  simp only [List.length_cons, List.length_nil, Nat.reduceAdd, Nat.reduceSub]
  refine any_go (i := 0) (by rfl) (by decide +kernel) (by decide +kernel) noLate_nil (go_yields w_none (fun w hS => s_move)) ?_
  try simp only [opv, n1, n2, n3, n4, Value.cells]
  first | refine any_go (i := 2) (by rfl) (by decide +kernel) (by decide +kernel) noLate_nil (go_yields w_none (fun w hS => m_load_row Try.underlying34 (hi := ti34) (hS := hS) (hfit := by first | omega | (rw [zi_size (by omega)]; first | rfl | decide) | (simp only [ic_size, List.length_map, List.size_toArray]; first | omega | decide) | rfl | (simp [*]; done) | (simp [*]; omega)))) ?_ | refine any_go (i := 2) (by rfl) (by decide +kernel) (by decide +kernel) noLate_nil (go_yields w_none (fun w hS => m_loada_obj Try.underlying34 (hi := ti34) (hS := hS) (hfit := by first | omega | (rw [zi_size (by omega)]; first | rfl | decide) | (simp only [ic_size, List.length_map, List.size_toArray]; first | omega | decide) | rfl | (simp [*]; done) | (simp [*]; omega)))) ?_ | refine any_go (i := 2) (by rfl) (by decide +kernel) (by decide +kernel) noLate_nil (go_yields w_none (fun w hS => m_loada_bx Try.underlying34 (hi := ti34) (hS := hS) (hfit := by first | omega | (rw [zi_size (by omega)]; first | rfl | decide) | (simp only [ic_size, List.length_map, List.size_toArray]; first | omega | decide) | rfl | (simp [*]; done) | (simp [*]; omega)))) ?_ | refine any_go (i := 2) (by rfl) (by decide +kernel) (by decide +kernel) noLate_nil (go_yields w_none (fun w hS => m_loada_rd Try.underlying34 (hi := ti34) (hS := hS) (hfit := by first | omega | (rw [zi_size (by omega)]; first | rfl | decide) | (simp only [ic_size, List.length_map, List.size_toArray]; first | omega | decide) | rfl | (simp [*]; done) | (simp [*]; omega)))) ?_ | refine any_go (i := 2) (by rfl) (by decide +kernel) (by decide +kernel) noLate_nil (go_yields w_none (fun w hS => m_loada_vec Try.underlying34 (hi := ti34) (hS := hS) (hfit := by first | omega | (rw [zi_size (by omega)]; first | rfl | decide) | (simp only [ic_size, List.length_map, List.size_toArray]; first | omega | decide) | rfl | (simp [*]; done) | (simp [*]; omega)))) ?_
  try simp only [opv, n1, n2, n3, n4, Value.cells, List.getElem_toArray, List.getElem_cons_zero, List.getElem_cons_succ]
  refine any_step [1] (by kernel_rfl) (by decide) (fun w4 hE => ⟨fun _ => (hS.ext hE).sel (by repeat (first | exact Sel.nil | (refine Sel.cons (by repeat (first | exact Del.head | apply Del.tail)) ?_))), ?_⟩)
  replace hS := hS.ext hE
  intro i hi
  simp only [List.mem_cons, List.not_mem_nil, or_false] at hi
  subst hi
  ·
   refine any_op (by rfl) ?_
   refine s_call en32 ?_
   try simp only [opv, n1, n2, n3, n4, Value.cells, List.map_toArray, List.map_cons, List.map_nil, List.append_toArray, List.cons_append, List.nil_append, Array.append_empty]
   refine CallR.mono (c_ref10Norm _ A c l (hS.hasRd (by repeat (first | exact Has.head | apply Has.tail))) hv hn) ?_
   rintro _ w5 ⟨B5, d5, rfl, hR5⟩
   replace hS := hS.back hR5
   try simp only [opv, n1, n2, n3, n4, Value.cells]
   refine x_nil ?_
   refine any_step [3] (by kernel_rfl) (by decide) (fun w6 hE => ⟨fun _ => (hS.ext hE).sel (by repeat (first | exact Sel.nil | (refine Sel.cons (by repeat (first | exact Del.head | apply Del.tail)) ?_))), ?_⟩)
   replace hS := hS.ext hE
   intro i hi
   simp only [List.mem_cons, List.not_mem_nil, or_false] at hi
   subst hi
   ·
    refine any_op (by rfl) ?_
    refine s_call en113 ?_
    try simp only [opv, n1, n2, n3, n4, Value.cells, List.map_toArray, List.map_cons, List.map_nil, List.append_toArray, List.cons_append, List.nil_append, Array.append_empty]
    refine CallR.mono (c_ref10find _ _ _ _ (hS.hasRd (by repeat (first | exact Has.head | apply Has.tail))) hno (by omega) x hx) ?_
    rintro _ w7 ⟨rfl, hE7⟩
    replace hS := hS.ext hE7
    try simp only [opv, n1, n2, n3, n4, Value.cells]
    refine x_nil ?_
    refine any_go (i := 4) (by rfl) (by decide +kernel) (by decide +kernel) noLate_nil (go_yields w_none (fun w hS => s_extract (hv := rfl))) ?_
    try simp only [List.getElem_toArray, List.getElem_cons_zero, List.getElem_cons_succ]
    try simp only [opv, n1, n2, n3, n4, Value.cells]
    refine any_go (i := 5) (by rfl) (by decide +kernel) (by decide +kernel) noLate_nil (go_yields w_none (fun w hS => s_extract (hv := rfl))) ?_
    try simp only [List.getElem_toArray, List.getElem_cons_zero, List.getElem_cons_succ]
    try simp only [opv, n1, n2, n3, n4, Value.cells]
    refine any_step [6] (by kernel_rfl) (by decide) (fun w8 hE => ⟨fun _ => (hS.ext hE).sel (by repeat (first | exact Sel.nil | (refine Sel.cons (by repeat (first | exact Del.head | apply Del.tail)) ?_))), ?_⟩)
    replace hS := hS.ext hE
    intro i hi
    simp only [List.mem_cons, List.not_mem_nil, or_false] at hi
    subst hi
    ·
     refine any_op (by rfl) ?_
     first | refine m_store_obj ti37 (hS := hS) (hc := by first | exact zi_set rfl (by omega) | exact zi_whole (by omega) (by omega) | (first | exact splice_ic (by first | omega | (simp [*]; done) | (simp [*]; omega)) | exact splice_il (by first | omega | (simp [*]; done) | (simp [*]; omega)) | exact splice_whole (by first | (simp [opv, Value.cells, *]; done) | rfl) | (simp only [opv, n1, n2, Value.cells, splice, List.take_succ_cons, List.take_zero, List.drop_succ_cons, List.drop_zero, List.length_cons, List.length_nil, Nat.zero_add, Nat.reduceAdd, List.append_assoc, List.cons_append, List.nil_append]; rfl))) (hv := by first | rfl | (show (zi _ _).toArray.size = _; rw [zi_size (by omega)]; rfl) | (simp [opv, Value.cells, *]; done)) (hfit := by first | omega | (rw [zi_size (by omega)]; first | rfl | decide) | (simp only [ic_size, List.length_map, List.size_toArray]; first | omega | decide) | rfl | (simp [*]; done) | (simp [*]; omega)) (h1 := by first | exact zi_one _ _ | exact ic_one _ _ | simp [opv, Value.cells, Value.oneCell']) (h := fun w9 hS => ?_) | refine m_store_vec ti37 (hS := hS) (hc := by first | exact zi_set rfl (by omega) | exact zi_whole (by omega) (by omega) | (first | exact splice_ic (by first | omega | (simp [*]; done) | (simp [*]; omega)) | exact splice_il (by first | omega | (simp [*]; done) | (simp [*]; omega)) | exact splice_whole (by first | (simp [opv, Value.cells, *]; done) | rfl) | (simp only [opv, n1, n2, Value.cells, splice, List.take_succ_cons, List.take_zero, List.drop_succ_cons, List.drop_zero, List.length_cons, List.length_nil, Nat.zero_add, Nat.reduceAdd, List.append_assoc, List.cons_append, List.nil_append]; rfl))) (hv := by first | rfl | (show (zi _ _).toArray.size = _; rw [zi_size (by omega)]; rfl) | (simp [opv, Value.cells, *]; done)) (hfit := by first | omega | (rw [zi_size (by omega)]; first | rfl | decide) | (simp only [ic_size, List.length_map, List.size_toArray]; first | omega | decide) | rfl | (simp [*]; done) | (simp [*]; omega)) (h1 := by first | exact zi_one _ _ | exact ic_one _ _ | simp [opv, Value.cells, Value.oneCell']) (h := fun w9 hS => ?_)
     try simp only [opv, n1, n2, n3, n4, Value.cells, Array.toArray_toList] at hS ⊢
     refine x_nil ?_
     refine any_go (i := 7) (by rfl) (by decide +kernel) (by decide +kernel) noLate_nil (go_yields w_none (fun w hS => s_assign)) ?_
     try simp only [opv, n1, n2, n3, n4, Value.cells]
     refine any_nil (by kernel_rfl) (fun w10 hE => ?_)
     replace hS := hS.ext hE
     refine ⟨fun _ => hS.sel (by repeat (first | exact Sel.nil | (refine Sel.cons (by repeat (first | exact Del.head | apply Del.tail)) ?_))), ?_⟩
     refine mix_leaf (by simp only [clob, List.foldl, n1, n2, n3, n4]) ?_
     try simp only [n1, n2]
     exact ⟨by first | trivial | rfl, hS.sel (by repeat (first | exact Sel.nil | (refine Sel.cons (by repeat (first | exact Del.head | apply Del.tail)) ?_)))⟩
 intro fm1 w11 hM
 obtain ⟨h5, hS⟩ := hM
 simp only [clob, List.foldl, n3, n4, h5]
 refine hK2 _ _ ?_
 refine x_ret ?_
 refine r_cell_tmp_agg rfl Try.underlying37 ti37 (hS := hS) (hfit := by first | omega | (rw [zi_size (by omega)]; first | rfl | decide) | (simp only [ic_size, List.length_map, List.size_toArray]; first | omega | decide) | rfl | (simp [*]; done) | (simp [*]; omega)) (hR := ?_)
 exact ⟨rfl, hS.ext_of⟩
end Go.Proofs.Ytmgacmkikefpjaa
set_option linter.unusedSimpArgs false
set_option linter.unusedVariables false
set_option maxHeartbeats 1000000
set_option maxRecDepth 100000
namespace Go.Proofs.Ytmgacmkikefpjaa
open Go.RowKit

def k10 : List Int := [1, 1, 97, 0, 0, 0, 0, 0, 0, 0, 2, 3]
def b10 : List Int := k10 ++ [2, 0, 0, 0, 0, 0, 0, 0, 0]
end Go.Proofs.Ytmgacmkikefpjaa
set_option linter.unusedSimpArgs false
set_option linter.unusedVariables false
set_option maxHeartbeats 1000000
set_option maxRecDepth 100000
namespace Go.Proofs.Ytmgacmkikefpjaa
open Go.RowKit

def noteK (c : Nat) : List Int := mkKey 4 c nm0 0 0
theorem noteK_ok {c : Nat} (h : c < 65536) : KeyOk (noteK c) := mkKey_ok rfl nm0_byt (by decide) h (by decide) (by decide)
def noteV (l : List (List Int)) (c : Nat) : List Int := (fnd (noteK c) (normP l)).getD v9
def noteN (l : List (List Int)) (c : Nat) : Nat := kn (noteV l c) 0 / 256 % 4294967296
def noteR (l : List (List Int)) (c : Nat) : Nat := kn (noteV l c) 0 % 256
def noteT (l : List (List Int)) (c : Nat) : List Int := vtext (noteV l c)
def noteX (l : List (List Int)) (r : Nat) (tx : List Int) (c : Nat) : List Int := mkV (256 * (noteN l c + 1) + r) tx
def noteA (l : List (List Int)) (r : Nat) (tx : List Int) (c : Nat) : List Int := noteK c ++ noteX l r tx c
def noteE (l : List (List Int)) (r : Nat) (tx : List Int) (c : Nat) : Int := if 16 ≤ r ∨ (¬ tx = nm0 ∧ nright tx = false) then 1 else if noteN l c = 4294967295 then 8 else 0
def noteP (l : List (List Int)) (r : Nat) (tx : List Int) (c : Nat) : List (List Int) := if noteE l r tx c = 0 then [noteA l r tx c] else []
theorem noteN_lt (l : List (List Int)) (c : Nat) : noteN l c < 4294967296 := Nat.mod_lt _ (by decide)
theorem noteX_ok {l : List (List Int)} {r c : Nat} {tx : List Int} (hr : r < 256) (h8 : tx.length = 8) (hb : Byt tx) : ValOk (noteX l r tx c) := by
  have := noteN_lt l c
  exact ⟨mkV_len h8, by show ((256 * (noteN l c + 1) + r : Nat) : Int) = ((((256 * (noteN l c + 1) + r : Nat) : Int).toNat : Nat) : Int); omega, by show (((256 * (noteN l c + 1) + r : Nat) : Int).toNat) < _; omega, hb⟩
theorem noteA_ok {l : List (List Int)} {r c : Nat} {tx : List Int} (hr : r < 256) (hc : c < 65536) (h8 : tx.length = 8) (hb : Byt tx) : AtomOk (noteA l r tx c) := kv_ok (noteK_ok hc) (noteX_ok hr h8 hb)
theorem noteP_ok {l : List (List Int)} {r c : Nat} {tx : List Int} (hr : r < 256) (hc : c < 65536) (h8 : tx.length = 8) (hb : Byt tx) : AOks (noteP l r tx c) := by
  unfold noteP; split
  · intro a ha; rw [List.mem_singleton] at ha; rw [ha]; exact noteA_ok hr hc h8 hb
  · exact AOks.nil
theorem noteP_len (l : List (List Int)) (r : Nat) (tx : List Int) (c : Nat) : (noteP l r tx c).length ≤ 1 := by unfold noteP; split <;> simp
theorem key_whole {x : List Int} (h : x.length = 12) : (((KA x).toList.drop 0).take 12).toArray = KA x := by
  rw [List.drop_zero, List.take_of_length_le (by simpa using Nat.le_of_eq (zi_len (ks := keyKs) (by simpa using h)))]
theorem fill_val {pl : Nat → Option (Nat × Nat)} {base : Array Value} {n : Int} {t : List Int} (h1 : pl 0 = some (0, 1)) (h2 : pl 1 = some (1, 8)) (hb : base.size = 9) (ht : t.length = 8) : Instr.fill pl base [(0, .int .u64 n), (1, .agg (ic .u8 t))] = some (VA (n :: t)) := by
  match t, ht with
  | [a, b, c, d, e, f, g, i], _ =>
    refine fill_cons h1 rfl (by omega) ?_
    refine fill_cons h2 rfl (by simp [splice, Value.cells, hb]) ?_
    simp only [fill_nil, Value.cells, splice, List.take_zero, List.nil_append]
    have e1 : base.toList.drop 9 = [] := List.drop_of_length_le (by rw [Array.length_toList, hb]; exact Nat.le_refl _)
    simp [ic, zi, List.drop_drop, e1]
theorem noteE_1 {l : List (List Int)} {r c : Nat} {tx : List Int} (h : 16 ≤ r ∨ (¬ tx = nm0 ∧ nright tx = false)) : noteE l r tx c = 1 := by rw [noteE, if_pos h]
theorem noteE_8 {l : List (List Int)} {r c : Nat} {tx : List Int} (h : ¬ (16 ≤ r ∨ (¬ tx = nm0 ∧ nright tx = false))) (h2 : noteN l c = 4294967295) : noteE l r tx c = 8 := by rw [noteE, if_neg h, if_pos h2]
theorem noteE_0 {l : List (List Int)} {r c : Nat} {tx : List Int} (h : ¬ (16 ≤ r ∨ (¬ tx = nm0 ∧ nright tx = false))) (h2 : ¬ noteN l c = 4294967295) : noteE l r tx c = 0 := by rw [noteE, if_neg h, if_neg h2]
theorem noteP_no {l : List (List Int)} {r c : Nat} {tx : List Int} (h : ¬ noteE l r tx c = 0) : noteP l r tx c = [] := if_neg h
theorem noteP_yes {l : List (List Int)} {r c : Nat} {tx : List Int} (h : noteE l r tx c = 0) : noteP l r tx c = [noteA l r tx c] := if_pos h

theorem c_noteGet1 (w0 : World) (kq : Nat) (x y : List Int) (hx : x.length = 12) (hy : y.length = 12) (hr : Rd w0 (some ⟨kq, 0, none⟩) 12 1 (KA y).toList)  :
    CallR Try.prog 127 #[.agg (KA x), .pointer (some ⟨kq, 0, none⟩)] w0 fun v w' => v = .bool (decide (x = y)) ∧ Ext w0 w' := by
 have hS := St.rd1 (S := NoB) hr
 have hy12 : (KA y).toList.length = 12 := by simpa using zi_len (ks := keyKs) (by simpa using hy)
 refine c_enter (l := [.agg (KA x), .pointer (some ⟨kq, 0, none⟩), undef, undef, undef, undef, undef]) Try.func127 rfl (by simp only [Try.ntmps127, List.size_toArray, List.length_cons, List.length_nil, Nat.reduceAdd, Nat.reduceSub, Array.replicate_succ, Array.replicate_zero, List.push_toArray, List.append_toArray, List.nil_append, List.cons_append]) ?_
 refine x_seq fun K1 hK1 => ?_
 refine x_region ?_
 refine m_box hS (fun w1 g1 hS => ?_)
 try simp only [opv, n1, n2, n3, n4, Value.cells, Array.toArray_toList] at hS ⊢
 refine s_go (s_assign) ?_
 try simp only [opv, n1, n2, n3, n4, Value.cells]
 refine x_nil ?_
 refine hK1 _ _ ?_
 refine x_seq fun K2 hK2 => ?_
 refine x_region ?_
 first | refine s_go (m_load_row Try.underlying34 (hi := ti34) (hS := hS) (hfit := by first | omega | (rw [zi_size (by omega)]; first | rfl | decide) | (simp only [ic_size, List.length_map, List.size_toArray]; first | omega | decide) | rfl | (simp [*]; done) | (simp [*]; omega))) ?_ | refine s_go (m_loada_obj Try.underlying34 (hi := ti34) (hS := hS) (hfit := by first | omega | (rw [zi_size (by omega)]; first | rfl | decide) | (simp only [ic_size, List.length_map, List.size_toArray]; first | omega | decide) | rfl | (simp [*]; done) | (simp [*]; omega))) ?_ | refine s_go (m_loada_bx Try.underlying34 (hi := ti34) (hS := hS) (hfit := by first | omega | (rw [zi_size (by omega)]; first | rfl | decide) | (simp only [ic_size, List.length_map, List.size_toArray]; first | omega | decide) | rfl | (simp [*]; done) | (simp [*]; omega))) ?_ | refine s_go (m_loada_rd Try.underlying34 (hi := ti34) (hS := hS) (hfit := by first | omega | (rw [zi_size (by omega)]; first | rfl | decide) | (simp only [ic_size, List.length_map, List.size_toArray]; first | omega | decide) | rfl | (simp [*]; done) | (simp [*]; omega))) ?_ | refine s_go (m_loada_vec Try.underlying34 (hi := ti34) (hS := hS) (hfit := by first | omega | (rw [zi_size (by omega)]; first | rfl | decide) | (simp only [ic_size, List.length_map, List.size_toArray]; first | omega | decide) | rfl | (simp [*]; done) | (simp [*]; omega))) ?_
 try simp only [opv, n1, n2, n3, n4, Value.cells, List.getElem_toArray, List.getElem_cons_zero, List.getElem_cons_succ]
 first | refine s_go (m_load_row Try.underlying34 (hi := ti34) (hS := hS) (hfit := by rw [hy12]; decide)) ?_ | refine s_go (m_loada_obj Try.underlying34 (hi := ti34) (hS := hS) (hfit := by rw [hy12]; decide)) ?_ | refine s_go (m_loada_bx Try.underlying34 (hi := ti34) (hS := hS) (hfit := by rw [hy12]; decide)) ?_ | refine s_go (m_loada_rd Try.underlying34 (hi := ti34) (hS := hS) (hfit := by rw [hy12]; decide)) ?_ | refine s_go (m_loada_vec Try.underlying34 (hi := ti34) (hS := hS) (hfit := by rw [hy12]; decide)) ?_
 try simp only [opv, n1, n2, n3, n4, Value.cells, List.getElem_toArray, List.getElem_cons_zero, List.getElem_cons_succ]
 rw [key_whole hy]
 refine s_go (s_eql_agg eqv34 (hg := eg34) (hX := rfl) (hY := rfl) (h1 := by assumption) (h2 := by assumption)) ?_
 try simp only [opv, n1, n2, n3, n4, Value.cells]
 refine s_go (s_assign) ?_
 try simp only [opv, n1, n2, n3, n4, Value.cells]
 refine x_nil ?_
 refine hK2 _ _ ?_
 refine x_ret ?_
 refine r_tmp rfl ?_
 exact ⟨rfl, hS.ext_of⟩
theorem c_noteFind (w0 : World) (A : Option Addr) (c : Nat) (l : List (List Int)) (hr : Rd w0 A 21 l.length (arows l)) (hv : AOks l) (hn : l.length ≤ 1000000000) (kq : Nat) (ky : List Int) (hky : ky.length = 12) (hk : Rd w0 (some ⟨kq, 0, none⟩) 12 1 (KA ky).toList)  :
    CallR Try.prog 126 #[.slice A l.length c, .func (.func 127) #[] #[.pointer (some ⟨kq, 0, none⟩)]] w0 fun v w' => v = .tuple #[.agg (VA ((fnd ky (normP l)).getD v9)), .bool (fnd ky (normP l)).isSome] ∧ Ext w0 w' := by
 have hS := St.rd2 (S := NoB) hr hk
 have hno := (norm_sta hv).ok
 have hkn := (norm_sta hv).knd
 have hnl := arows_len (normP l)
 have hnb := norm_len l
 refine y_enter (l := [.slice A l.length c, .func (.func 127) #[] #[.pointer (some ⟨kq, 0, none⟩)], undef, undef, undef, undef, undef, undef, undef, undef, undef, undef, undef, undef, undef, undef, undef]) Try.func126 rfl (by simp only [Try.ntmps126, List.size_toArray, List.length_cons, List.length_nil, Nat.reduceAdd, Nat.reduceSub, Array.replicate_succ, Array.replicate_zero, List.push_toArray, List.append_toArray, List.nil_append, List.cons_append]) ?_
 refine y_seq fun K1 hK1 => ?_
 refine y_region (by kernel_rfl) ?_
 refine m_box hS (fun w1 g1 hS => ?_)
 try simp only [opv, n1, n2, n3, n4, Value.cells, Array.toArray_toList] at hS ⊢
 refine m_alloc ti37 hS (fun w2 g2 hS => ?_)
 try simp only [opv, n1, n2, n3, n4, Value.cells, Array.toArray_toList] at hS ⊢
 have h9l : v9.length = 9 := rfl
 replace hS : St _ _ w2 (.obj g2 (.cells (VA v9) 37 (0, 0)) :: _) := hS
 obtain ⟨g4, hg4⟩ : ∃ z, z = g2 := ⟨_, rfl⟩
 rw [← hg4] at hS ⊢
 refine m_alloc ti4 hS (fun w3 g3 hS => ?_)
 try simp only [opv, n1, n2, n3, n4, Value.cells, Array.toArray_toList] at hS ⊢
 obtain ⟨g5, hg5⟩ : ∃ z, z = g3 := ⟨_, rfl⟩
 rw [← hg5] at hS ⊢
 refine y_nilf ?_
 refine hK1 _ _ ?_
 refine y_seq fun K2 hK2 => ?_
 refine y_seq fun K3 hK3 => ?_
 refine y_region (by kernel_rfl) ?_
 refine s_go (s_move) ?_
 try simp only [opv, n1, n2, n3, n4, Value.cells]
 refine s_call en23 ?_
 try simp only [opv, n1, n2, n3, n4, Value.cells, List.map_toArray, List.map_cons, List.map_nil, List.append_toArray, List.cons_append, List.nil_append, Array.append_empty]
 refine CallR.mono (c_latEach A c l _) ?_
 rintro _ w4 ⟨b, rfl, hC4⟩
 replace hS := hS.call hC4
 simp only [List.cons_append, List.nil_append] at hS
 try simp only [opv, n1, n2, n3, n4, Value.cells]
 refine y_nilf ?_
 refine hK3 _ _ ?_
 refine y_block ?_
 refine y_range rfl en108 (i_latEach b A c l hv hn) (fun _ => rfl) hS (by repeat (first | exact Spl.nil | (apply Spl.cons (by repeat (first | exact Del.head | apply Del.tail))))) (fun k L => k ≤ (normP l).length ∧ fnd ky ((normP l).take k) = none ∧ L = [.obj g5 (.cells #[.bool false] 4 (0, 0)), .obj g4 (.cells (VA v9) 37 (0, 0)), .obj g1 (.cells #[.func (.func 127) #[] #[.pointer (some ⟨kq, 0, none⟩)]] 135 (0, 0)), .rd (some ⟨kq, 0, none⟩) 12 1 (KA ky).toList]) (fun L => ∃ u : List Int, fnd ky (normP l) = some u ∧ u.length = 9 ∧ L = [.obj g5 (.cells #[.bool true] 4 (0, 0)), .obj g4 (.cells (VA u) 37 (0, 0))]) [] ?rfh1 ?rfr1 (fun D1 T1 w5 R1 hC hS => ?rfd1) (fun D1 T1 w6 R1 hX hS => ?rft1) ?rfe1
 case rfh1 =>
  exact ⟨Nat.zero_le _, rfl, rfl⟩
 case rfr1 =>
  intro k1 w7 R1 T1 lr1 hk1 hC hS
  obtain ⟨hk0, hfn, rfl⟩ := hC
  simp only [List.cons_append, List.nil_append] at hS
  simp only [List.toList_toArray, entL, List.zip_cons_cons, List.zip_nil_left, List.foldl_cons, List.foldl_nil, n3, n4]
  obtain ⟨x, hx⟩ : ∃ x, (normP l).getD k1 [] = x := ⟨_, rfl⟩
  have ha : AtomOk x := by rw [← hx]; exact hno.get (by omega)
  have hal := ha.len
  have hk12 := ha.key.len
  have hvx := ha.val
  have hx9 := hvx.len
  simp only [hx]
  refine y_seq fun K4 hK4 => ?_
  refine y_region (by kernel_rfl) ?_
  refine m_alloc ti34 hS (fun w8 g8 hS => ?_)
  try simp only [opv, n1, n2, n3, n4, Value.cells, Array.toArray_toList] at hS ⊢
  have h0l : key0.length = 12 := rfl
  replace hS : St _ _ w8 (.obj g8 (.cells (KA key0) 34 (0, 0)) :: _) := hS
  first | refine m_store_obj ti34 (hS := hS) (hc := by first | exact zi_set rfl (by omega) | exact zi_whole (by omega) (by omega) | (first | exact splice_ic (by first | omega | (simp [*]; done) | (simp [*]; omega)) | exact splice_il (by first | omega | (simp [*]; done) | (simp [*]; omega)) | exact splice_whole (by first | (simp [opv, Value.cells, *]; done) | rfl) | (simp only [opv, n1, n2, Value.cells, splice, List.take_succ_cons, List.take_zero, List.drop_succ_cons, List.drop_zero, List.length_cons, List.length_nil, Nat.zero_add, Nat.reduceAdd, List.append_assoc, List.cons_append, List.nil_append]; rfl))) (hv := by first | rfl | (show (zi _ _).toArray.size = _; rw [zi_size (by omega)]; rfl) | (simp [opv, Value.cells, *]; done)) (hfit := by first | omega | (rw [zi_size (by omega)]; first | rfl | decide) | (simp only [ic_size, List.length_map, List.size_toArray]; first | omega | decide) | rfl | (simp [*]; done) | (simp [*]; omega)) (h1 := by first | exact zi_one _ _ | exact ic_one _ _ | simp [opv, Value.cells, Value.oneCell']) (h := fun w9 hS => ?_) | refine m_store_vec ti34 (hS := hS) (hc := by first | exact zi_set rfl (by omega) | exact zi_whole (by omega) (by omega) | (first | exact splice_ic (by first | omega | (simp [*]; done) | (simp [*]; omega)) | exact splice_il (by first | omega | (simp [*]; done) | (simp [*]; omega)) | exact splice_whole (by first | (simp [opv, Value.cells, *]; done) | rfl) | (simp only [opv, n1, n2, Value.cells, splice, List.take_succ_cons, List.take_zero, List.drop_succ_cons, List.drop_zero, List.length_cons, List.length_nil, Nat.zero_add, Nat.reduceAdd, List.append_assoc, List.cons_append, List.nil_append]; rfl))) (hv := by first | rfl | (show (zi _ _).toArray.size = _; rw [zi_size (by omega)]; rfl) | (simp [opv, Value.cells, *]; done)) (hfit := by first | omega | (rw [zi_size (by omega)]; first | rfl | decide) | (simp only [ic_size, List.length_map, List.size_toArray]; first | omega | decide) | rfl | (simp [*]; done) | (simp [*]; omega)) (h1 := by first | exact zi_one _ _ | exact ic_one _ _ | simp [opv, Value.cells, Value.oneCell']) (h := fun w9 hS => ?_)
  try simp only [opv, n1, n2, n3, n4, Value.cells, Array.toArray_toList] at hS ⊢
  refine y_nilf ?_
  refine hK4 _ _ ?_
  refine y_region (by kernel_rfl) ?_
  refine m_alloc ti37 hS (fun w10 g10 hS => ?_)
  try simp only [opv, n1, n2, n3, n4, Value.cells, Array.toArray_toList] at hS ⊢
  replace hS : St _ _ w10 (.obj g10 (.cells (VA v9) 37 (0, 0)) :: _) := hS
  first | refine m_store_obj ti37 (hS := hS) (hc := by first | exact zi_set rfl (by omega) | exact zi_whole (by omega) (by omega) | (first | exact splice_ic (by first | omega | (simp [*]; done) | (simp [*]; omega)) | exact splice_il (by first | omega | (simp [*]; done) | (simp [*]; omega)) | exact splice_whole (by first | (simp [opv, Value.cells, *]; done) | rfl) | (simp only [opv, n1, n2, Value.cells, splice, List.take_succ_cons, List.take_zero, List.drop_succ_cons, List.drop_zero, List.length_cons, List.length_nil, Nat.zero_add, Nat.reduceAdd, List.append_assoc, List.cons_append, List.nil_append]; rfl))) (hv := by first | rfl | (show (zi _ _).toArray.size = _; rw [zi_size (by omega)]; rfl) | (simp [opv, Value.cells, *]; done)) (hfit := by first | omega | (rw [zi_size (by omega)]; first | rfl | decide) | (simp only [ic_size, List.length_map, List.size_toArray]; first | omega | decide) | rfl | (simp [*]; done) | (simp [*]; omega)) (h1 := by first | exact zi_one _ _ | exact ic_one _ _ | simp [opv, Value.cells, Value.oneCell']) (h := fun w11 hS => ?_) | refine m_store_vec ti37 (hS := hS) (hc := by first | exact zi_set rfl (by omega) | exact zi_whole (by omega) (by omega) | (first | exact splice_ic (by first | omega | (simp [*]; done) | (simp [*]; omega)) | exact splice_il (by first | omega | (simp [*]; done) | (simp [*]; omega)) | exact splice_whole (by first | (simp [opv, Value.cells, *]; done) | rfl) | (simp only [opv, n1, n2, Value.cells, splice, List.take_succ_cons, List.take_zero, List.drop_succ_cons, List.drop_zero, List.length_cons, List.length_nil, Nat.zero_add, Nat.reduceAdd, List.append_assoc, List.cons_append, List.nil_append]; rfl))) (hv := by first | rfl | (show (zi _ _).toArray.size = _; rw [zi_size (by omega)]; rfl) | (simp [opv, Value.cells, *]; done)) (hfit := by first | omega | (rw [zi_size (by omega)]; first | rfl | decide) | (simp only [ic_size, List.length_map, List.size_toArray]; first | omega | decide) | rfl | (simp [*]; done) | (simp [*]; omega)) (h1 := by first | exact zi_one _ _ | exact ic_one _ _ | simp [opv, Value.cells, Value.oneCell']) (h := fun w11 hS => ?_)
  try simp only [opv, n1, n2, n3, n4, Value.cells, Array.toArray_toList] at hS ⊢
  refine y_nilf ?_
  refine round_open hS (by repeat (first | exact App.nil | apply App.cons)) (fun w12 T2 hS => ?_)
  simp only [List.cons_append, List.nil_append] at hS
  refine y_block ?_
  refine y_seq fun K5 hK5 => ?_
  refine y_region (by kernel_rfl) ?_
  first | refine s_go (m_load_obj Try.underlying135 (hS := hS) (hv := by first | rfl | exact zi_get rfl (by omega) | exact ic_get (by omega) | exact il_get (by omega))) ?_ | refine s_go (m_load_bx Try.underlying135 (hS := hS) (hv := by first | rfl | exact zi_get rfl (by omega) | exact ic_get (by omega) | exact il_get (by omega))) ?_ | refine s_go (m_load_rd Try.underlying135 (hS := hS) (hv := by first | rfl | exact zi_get rfl (by omega) | exact ic_get (by omega) | exact il_get (by omega))) ?_ | refine s_go (m_load_vec Try.underlying135 (hS := hS) (hv := by first | rfl | exact zi_get rfl (by omega) | exact ic_get (by omega) | exact il_get (by omega))) ?_
  try simp only [opv, n1, n2, n3, n4, Value.cells, List.getElem_toArray, List.getElem_cons_zero, List.getElem_cons_succ]
  first | refine s_go (m_load_row Try.underlying34 (hi := ti34) (hS := hS) (hfit := by first | omega | (rw [zi_size (by omega)]; first | rfl | decide) | (simp only [ic_size, List.length_map, List.size_toArray]; first | omega | decide) | rfl | (simp [*]; done) | (simp [*]; omega))) ?_ | refine s_go (m_loada_obj Try.underlying34 (hi := ti34) (hS := hS) (hfit := by first | omega | (rw [zi_size (by omega)]; first | rfl | decide) | (simp only [ic_size, List.length_map, List.size_toArray]; first | omega | decide) | rfl | (simp [*]; done) | (simp [*]; omega))) ?_ | refine s_go (m_loada_bx Try.underlying34 (hi := ti34) (hS := hS) (hfit := by first | omega | (rw [zi_size (by omega)]; first | rfl | decide) | (simp only [ic_size, List.length_map, List.size_toArray]; first | omega | decide) | rfl | (simp [*]; done) | (simp [*]; omega))) ?_ | refine s_go (m_loada_rd Try.underlying34 (hi := ti34) (hS := hS) (hfit := by first | omega | (rw [zi_size (by omega)]; first | rfl | decide) | (simp only [ic_size, List.length_map, List.size_toArray]; first | omega | decide) | rfl | (simp [*]; done) | (simp [*]; omega))) ?_ | refine s_go (m_loada_vec Try.underlying34 (hi := ti34) (hS := hS) (hfit := by first | omega | (rw [zi_size (by omega)]; first | rfl | decide) | (simp only [ic_size, List.length_map, List.size_toArray]; first | omega | decide) | rfl | (simp [*]; done) | (simp [*]; omega))) ?_
  try simp only [opv, n1, n2, n3, n4, Value.cells, List.getElem_toArray, List.getElem_cons_zero, List.getElem_cons_succ]
  refine s_callv (hv := rfl) en127 ?_
  try simp only [opv, n1, n2, n3, n4, Value.cells, List.map_toArray, List.map_cons, List.map_nil, List.append_toArray, List.cons_append, List.nil_append, Array.append_empty]
  refine CallR.mono (c_noteGet1 _ kq (akey x) ky hk12 hky (hS.hasRd (by repeat (first | exact Has.head | apply Has.tail)))) ?_
  rintro _ w13 ⟨rfl, hE13⟩
  replace hS := hS.ext hE13
  try simp only [opv, n1, n2, n3, n4, Value.cells]
  refine y_nilf ?_
  refine hK5 _ _ ?_
  refine y_cond (ht := fun hc1 => ?_) (hf := fun hc1 => ?_)
  ·
   try simp only [decide_eq_true_eq, decide_eq_false_iff_not, Bool.not_eq_true', Bool.not_eq_false', Int.not_lt, Int.not_le, ne_eq, Decidable.not_not, bne_iff_ne, beq_iff_eq, not_true_eq_false, not_false_eq_true] at hc1
   have hfs : fnd ky (normP l) = some (aval x) := fnd_here hk1 hx hfn hc1
   refine y_seq fun K6 hK6 => ?_
   refine y_region (by kernel_rfl) ?_
   first | refine s_go (m_load_row Try.underlying37 (hi := ti37) (hS := hS) (hfit := by first | omega | (rw [zi_size (by omega)]; first | rfl | decide) | (simp only [ic_size, List.length_map, List.size_toArray]; first | omega | decide) | rfl | (simp [*]; done) | (simp [*]; omega))) ?_ | refine s_go (m_loada_obj Try.underlying37 (hi := ti37) (hS := hS) (hfit := by first | omega | (rw [zi_size (by omega)]; first | rfl | decide) | (simp only [ic_size, List.length_map, List.size_toArray]; first | omega | decide) | rfl | (simp [*]; done) | (simp [*]; omega))) ?_ | refine s_go (m_loada_bx Try.underlying37 (hi := ti37) (hS := hS) (hfit := by first | omega | (rw [zi_size (by omega)]; first | rfl | decide) | (simp only [ic_size, List.length_map, List.size_toArray]; first | omega | decide) | rfl | (simp [*]; done) | (simp [*]; omega))) ?_ | refine s_go (m_loada_rd Try.underlying37 (hi := ti37) (hS := hS) (hfit := by first | omega | (rw [zi_size (by omega)]; first | rfl | decide) | (simp only [ic_size, List.length_map, List.size_toArray]; first | omega | decide) | rfl | (simp [*]; done) | (simp [*]; omega))) ?_ | refine s_go (m_loada_vec Try.underlying37 (hi := ti37) (hS := hS) (hfit := by first | omega | (rw [zi_size (by omega)]; first | rfl | decide) | (simp only [ic_size, List.length_map, List.size_toArray]; first | omega | decide) | rfl | (simp [*]; done) | (simp [*]; omega))) ?_
   try simp only [opv, n1, n2, n3, n4, Value.cells, List.getElem_toArray, List.getElem_cons_zero, List.getElem_cons_succ]
   first | refine m_store_obj ti37 (hS := hS) (hc := by first | exact zi_set rfl (by omega) | exact zi_whole (by omega) (by omega) | (first | exact splice_ic (by first | omega | (simp [*]; done) | (simp [*]; omega)) | exact splice_il (by first | omega | (simp [*]; done) | (simp [*]; omega)) | exact splice_whole (by first | (simp [opv, Value.cells, *]; done) | rfl) | (simp only [opv, n1, n2, Value.cells, splice, List.take_succ_cons, List.take_zero, List.drop_succ_cons, List.drop_zero, List.length_cons, List.length_nil, Nat.zero_add, Nat.reduceAdd, List.append_assoc, List.cons_append, List.nil_append]; rfl))) (hv := by first | rfl | (show (zi _ _).toArray.size = _; rw [zi_size (by omega)]; rfl) | (simp [opv, Value.cells, *]; done)) (hfit := by first | omega | (rw [zi_size (by omega)]; first | rfl | decide) | (simp only [ic_size, List.length_map, List.size_toArray]; first | omega | decide) | rfl | (simp [*]; done) | (simp [*]; omega)) (h1 := by first | exact zi_one _ _ | exact ic_one _ _ | simp [opv, Value.cells, Value.oneCell']) (h := fun w14 hS => ?_) | refine m_store_vec ti37 (hS := hS) (hc := by first | exact zi_set rfl (by omega) | exact zi_whole (by omega) (by omega) | (first | exact splice_ic (by first | omega | (simp [*]; done) | (simp [*]; omega)) | exact splice_il (by first | omega | (simp [*]; done) | (simp [*]; omega)) | exact splice_whole (by first | (simp [opv, Value.cells, *]; done) | rfl) | (simp only [opv, n1, n2, Value.cells, splice, List.take_succ_cons, List.take_zero, List.drop_succ_cons, List.drop_zero, List.length_cons, List.length_nil, Nat.zero_add, Nat.reduceAdd, List.append_assoc, List.cons_append, List.nil_append]; rfl))) (hv := by first | rfl | (show (zi _ _).toArray.size = _; rw [zi_size (by omega)]; rfl) | (simp [opv, Value.cells, *]; done)) (hfit := by first | omega | (rw [zi_size (by omega)]; first | rfl | decide) | (simp only [ic_size, List.length_map, List.size_toArray]; first | omega | decide) | rfl | (simp [*]; done) | (simp [*]; omega)) (h1 := by first | exact zi_one _ _ | exact ic_one _ _ | simp [opv, Value.cells, Value.oneCell']) (h := fun w14 hS => ?_)
   try simp only [opv, n1, n2, n3, n4, Value.cells, Array.toArray_toList] at hS ⊢
   first | refine m_store_obj ti4 (hS := hS) (hc := by first | exact zi_set rfl (by omega) | exact zi_whole (by omega) (by omega) | (first | exact splice_ic (by first | omega | (simp [*]; done) | (simp [*]; omega)) | exact splice_il (by first | omega | (simp [*]; done) | (simp [*]; omega)) | exact splice_whole (by first | (simp [opv, Value.cells, *]; done) | rfl) | (simp only [opv, n1, n2, Value.cells, splice, List.take_succ_cons, List.take_zero, List.drop_succ_cons, List.drop_zero, List.length_cons, List.length_nil, Nat.zero_add, Nat.reduceAdd, List.append_assoc, List.cons_append, List.nil_append]; rfl))) (hv := by first | rfl | (show (zi _ _).toArray.size = _; rw [zi_size (by omega)]; rfl) | (simp [opv, Value.cells, *]; done)) (hfit := by first | omega | (rw [zi_size (by omega)]; first | rfl | decide) | (simp only [ic_size, List.length_map, List.size_toArray]; first | omega | decide) | rfl | (simp [*]; done) | (simp [*]; omega)) (h1 := by first | exact zi_one _ _ | exact ic_one _ _ | simp [opv, Value.cells, Value.oneCell']) (h := fun w15 hS => ?_) | refine m_store_vec ti4 (hS := hS) (hc := by first | exact zi_set rfl (by omega) | exact zi_whole (by omega) (by omega) | (first | exact splice_ic (by first | omega | (simp [*]; done) | (simp [*]; omega)) | exact splice_il (by first | omega | (simp [*]; done) | (simp [*]; omega)) | exact splice_whole (by first | (simp [opv, Value.cells, *]; done) | rfl) | (simp only [opv, n1, n2, Value.cells, splice, List.take_succ_cons, List.take_zero, List.drop_succ_cons, List.drop_zero, List.length_cons, List.length_nil, Nat.zero_add, Nat.reduceAdd, List.append_assoc, List.cons_append, List.nil_append]; rfl))) (hv := by first | rfl | (show (zi _ _).toArray.size = _; rw [zi_size (by omega)]; rfl) | (simp [opv, Value.cells, *]; done)) (hfit := by first | omega | (rw [zi_size (by omega)]; first | rfl | decide) | (simp only [ic_size, List.length_map, List.size_toArray]; first | omega | decide) | rfl | (simp [*]; done) | (simp [*]; omega)) (h1 := by first | exact zi_one _ _ | exact ic_one _ _ | simp [opv, Value.cells, Value.oneCell']) (h := fun w15 hS => ?_)
   try simp only [opv, n1, n2, n3, n4, Value.cells, Array.toArray_toList] at hS ⊢
   refine y_nilf ?_
   refine hK6 _ _ ?_
   refine y_ret ?_
   exact ⟨_, ⟨_, hfs, hx9, rfl⟩, hS.sel (by repeat (first | exact Sel.self | (refine Sel.cons (by repeat (first | exact Del.head | apply Del.tail)) ?_) | apply Sel.skip))⟩
  ·
   try simp only [decide_eq_true_eq, decide_eq_false_iff_not, Bool.not_eq_true', Bool.not_eq_false', Int.not_lt, Int.not_le, ne_eq, Decidable.not_not, bne_iff_ne, beq_iff_eq, not_true_eq_false, not_false_eq_true] at hc1
   have hne := hc1
   refine y_skip ?_
   exact ⟨_, ⟨by omega, fnd_step_none hk1 hx hfn hne, rfl⟩, hS.sel (by repeat (first | exact Sel.self | (refine Sel.cons (by repeat (first | exact Del.head | apply Del.tail)) ?_) | apply Sel.skip))⟩
 case rfd1 =>
  obtain ⟨hk0, hfn, rfl⟩ := hC
  simp only [List.cons_append, List.nil_append] at hS
  refine hK2 _ _ ?_
  refine y_seq fun K7 hK7 => ?_
  refine y_region (by kernel_rfl) ?_
  refine s_go (s_build_struct (cells := #[.int .u64 0, .int .u8 0, .int .u8 0, .int .u8 0, .int .u8 0, .int .u8 0, .int .u8 0, .int .u8 0, .int .u8 0]) Try.underlying37 ti37 bp37 (hc := by simp only [List.map_toArray, List.map_cons, List.map_nil, opv, n1, n2, n3, n4, Value.cells, List.toList_toArray]; (repeat (refine fill_cons rfl rfl (Nat.le_of_ble_eq_true rfl) ?_)); rfl)) ?_
  try simp only [opv, n1, n2, n3, n4, Value.cells]
  rw [show (#[.int .u64 0, .int .u8 0, .int .u8 0, .int .u8 0, .int .u8 0, .int .u8 0, .int .u8 0, .int .u8 0, .int .u8 0] : Array Value) = VA v9 from rfl]
  first | refine m_store_obj ti37 (hS := hS) (hc := by first | exact zi_set rfl (by omega) | exact zi_whole (by omega) (by omega) | (first | exact splice_ic (by first | omega | (simp [*]; done) | (simp [*]; omega)) | exact splice_il (by first | omega | (simp [*]; done) | (simp [*]; omega)) | exact splice_whole (by first | (simp [opv, Value.cells, *]; done) | rfl) | (simp only [opv, n1, n2, Value.cells, splice, List.take_succ_cons, List.take_zero, List.drop_succ_cons, List.drop_zero, List.length_cons, List.length_nil, Nat.zero_add, Nat.reduceAdd, List.append_assoc, List.cons_append, List.nil_append]; rfl))) (hv := by first | rfl | (show (zi _ _).toArray.size = _; rw [zi_size (by omega)]; rfl) | (simp [opv, Value.cells, *]; done)) (hfit := by first | omega | (rw [zi_size (by omega)]; first | rfl | decide) | (simp only [ic_size, List.length_map, List.size_toArray]; first | omega | decide) | rfl | (simp [*]; done) | (simp [*]; omega)) (h1 := by first | exact zi_one _ _ | exact ic_one _ _ | simp [opv, Value.cells, Value.oneCell']) (h := fun w16 hS => ?_) | refine m_store_vec ti37 (hS := hS) (hc := by first | exact zi_set rfl (by omega) | exact zi_whole (by omega) (by omega) | (first | exact splice_ic (by first | omega | (simp [*]; done) | (simp [*]; omega)) | exact splice_il (by first | omega | (simp [*]; done) | (simp [*]; omega)) | exact splice_whole (by first | (simp [opv, Value.cells, *]; done) | rfl) | (simp only [opv, n1, n2, Value.cells, splice, List.take_succ_cons, List.take_zero, List.drop_succ_cons, List.drop_zero, List.length_cons, List.length_nil, Nat.zero_add, Nat.reduceAdd, List.append_assoc, List.cons_append, List.nil_append]; rfl))) (hv := by first | rfl | (show (zi _ _).toArray.size = _; rw [zi_size (by omega)]; rfl) | (simp [opv, Value.cells, *]; done)) (hfit := by first | omega | (rw [zi_size (by omega)]; first | rfl | decide) | (simp only [ic_size, List.length_map, List.size_toArray]; first | omega | decide) | rfl | (simp [*]; done) | (simp [*]; omega)) (h1 := by first | exact zi_one _ _ | exact ic_one _ _ | simp [opv, Value.cells, Value.oneCell']) (h := fun w16 hS => ?_)
  try simp only [opv, n1, n2, n3, n4, Value.cells, Array.toArray_toList] at hS ⊢
  first | refine m_store_obj ti4 (hS := hS) (hc := by first | exact zi_set rfl (by omega) | exact zi_whole (by omega) (by omega) | (first | exact splice_ic (by first | omega | (simp [*]; done) | (simp [*]; omega)) | exact splice_il (by first | omega | (simp [*]; done) | (simp [*]; omega)) | exact splice_whole (by first | (simp [opv, Value.cells, *]; done) | rfl) | (simp only [opv, n1, n2, Value.cells, splice, List.take_succ_cons, List.take_zero, List.drop_succ_cons, List.drop_zero, List.length_cons, List.length_nil, Nat.zero_add, Nat.reduceAdd, List.append_assoc, List.cons_append, List.nil_append]; rfl))) (hv := by first | rfl | (show (zi _ _).toArray.size = _; rw [zi_size (by omega)]; rfl) | (simp [opv, Value.cells, *]; done)) (hfit := by first | omega | (rw [zi_size (by omega)]; first | rfl | decide) | (simp only [ic_size, List.length_map, List.size_toArray]; first | omega | decide) | rfl | (simp [*]; done) | (simp [*]; omega)) (h1 := by first | exact zi_one _ _ | exact ic_one _ _ | simp [opv, Value.cells, Value.oneCell']) (h := fun w17 hS => ?_) | refine m_store_vec ti4 (hS := hS) (hc := by first | exact zi_set rfl (by omega) | exact zi_whole (by omega) (by omega) | (first | exact splice_ic (by first | omega | (simp [*]; done) | (simp [*]; omega)) | exact splice_il (by first | omega | (simp [*]; done) | (simp [*]; omega)) | exact splice_whole (by first | (simp [opv, Value.cells, *]; done) | rfl) | (simp only [opv, n1, n2, Value.cells, splice, List.take_succ_cons, List.take_zero, List.drop_succ_cons, List.drop_zero, List.length_cons, List.length_nil, Nat.zero_add, Nat.reduceAdd, List.append_assoc, List.cons_append, List.nil_append]; rfl))) (hv := by first | rfl | (show (zi _ _).toArray.size = _; rw [zi_size (by omega)]; rfl) | (simp [opv, Value.cells, *]; done)) (hfit := by first | omega | (rw [zi_size (by omega)]; first | rfl | decide) | (simp only [ic_size, List.length_map, List.size_toArray]; first | omega | decide) | rfl | (simp [*]; done) | (simp [*]; omega)) (h1 := by first | exact zi_one _ _ | exact ic_one _ _ | simp [opv, Value.cells, Value.oneCell']) (h := fun w17 hS => ?_)
  try simp only [opv, n1, n2, n3, n4, Value.cells, Array.toArray_toList] at hS ⊢
  refine y_nilf ?_
  refine hK7 _ _ ?_
  refine y_ret ?_
  refine rm_mark hS (by repeat (first | exact Upd.head | apply Upd.tail)) (fun w18 hS => ?_)
  refine rm_nil ?_
  refine r_cell_cell_ao rfl Try.underlying37 ti37 Try.underlying4 (hS := hS) (hR := ?_) (hfit := by first | omega | (rw [zi_size (by omega)]; first | rfl | decide) | (simp only [ic_size, List.length_map, List.size_toArray]; first | omega | decide) | rfl | (simp [*]; done) | (simp [*]; omega))
  first | exact ⟨by rw [hfs]; rfl, hS.ext_of⟩ | (rw [List.take_of_length_le (Nat.le_refl _)] at hfn; exact ⟨by rw [hfn]; rfl, hS.ext_of⟩)
 case rft1 =>
  obtain ⟨u, hfs, hu9, rfl⟩ := hX
  simp only [List.cons_append, List.nil_append] at hS
  refine rm_mark hS (by repeat (first | exact Upd.head | apply Upd.tail)) (fun w19 hS => ?_)
  refine rm_nil ?_
  refine r_cell_cell_ao rfl Try.underlying37 ti37 Try.underlying4 (hS := hS) (hR := ?_) (hfit := by first | omega | (rw [zi_size (by omega)]; first | rfl | decide) | (simp only [ic_size, List.length_map, List.size_toArray]; first | omega | decide) | rfl | (simp [*]; done) | (simp [*]; omega))
  first | exact ⟨by rw [hfs]; rfl, hS.ext_of⟩ | (rw [List.take_of_length_le (Nat.le_refl _)] at hfn; exact ⟨by rw [hfn]; rfl, hS.ext_of⟩)
 case rfe1 =>
  exact y_ex_nil
theorem c_noteGet (w0 : World) (A : Option Addr) (c : Nat) (l : List (List Int)) (hr : Rd w0 A 21 l.length (arows l)) (hv : AOks l) (hn : l.length ≤ 1000000000) (ct : Nat) (hct : ct < 65536)  :
    CallR Try.prog 43 #[.slice A l.length c, .int .u16 (ct : Int)] w0 fun v w' => v = .tuple #[.agg (ic .u8 (noteT l ct)), .int .u32 ((noteN l ct : Nat) : Int), .int .u8 ((noteR l ct : Nat) : Int)] ∧ Ext w0 w' := by
 have hS := St.rd1 (S := NoB) hr
 have hko := noteK_ok hct
 have hkl := hko.len
 have hno := (norm_sta hv).ok
 have hvo : ValOk (noteV l ct) := fndD_ok hno
 have hvl := hvo.len
 have hvb := hvo.b0
 have htl := vtext_len hvl
 have htl2 : (noteT l ct).length = 8 := htl
 have h9l : v9.length = 9 := rfl
 have hn0l : nm0.length = 8 := rfl
 refine c_enter (l := [.slice A l.length c, .int .u16 (ct : Int), undef, undef, undef, undef, undef, undef, undef, undef, undef, undef, undef, undef, undef, undef, undef, undef, undef, undef, undef, undef, undef, undef, undef, undef, undef, undef, undef, undef, undef, undef, undef]) Try.func43 rfl (by simp only [Try.ntmps43, List.size_toArray, List.length_cons, List.length_nil, Nat.reduceAdd, Nat.reduceSub, Array.replicate_succ, Array.replicate_zero, List.push_toArray, List.append_toArray, List.nil_append, List.cons_append]) ?_
 refine x_seq fun K1 hK1 => ?_
 refine x_region ?_
 refine m_alloc ti31 hS (fun w1 g1 hS => ?_)
 try simp only [opv, n1, n2, n3, n4, Value.cells, Array.toArray_toList] at hS ⊢
 replace hS : St _ _ w1 (.obj g1 (.cells (ic .u8 nm0) 31 (0, 0)) :: _) := hS
 obtain ⟨gt, hgt⟩ : ∃ z, z = g1 := ⟨_, rfl⟩
 rw [← hgt] at hS ⊢
 refine s_go (s_assign) ?_
 try simp only [opv, n1, n2, n3, n4, Value.cells]
 refine s_go (s_assign) ?_
 try simp only [opv, n1, n2, n3, n4, Value.cells]
 refine x_nil ?_
 refine hK1 _ _ ?_
 refine x_seq fun K2 hK2 => ?_
 refine x_region ?_
 refine s_go (s_move) ?_
 try simp only [opv, n1, n2, n3, n4, Value.cells]
 refine s_go (s_build_struct (cells := #[_, _, .int .u8 0, .int .u8 0, .int .u8 0, .int .u8 0, .int .u8 0, .int .u8 0, .int .u8 0, .int .u8 0, .int .u8 0, .int .u32 0]) Try.underlying34 ti34 bp34 (hc := by simp only [List.map_toArray, List.map_cons, List.map_nil, opv, n1, n2, n3, n4, Value.cells, List.toList_toArray]; (repeat (refine fill_cons rfl rfl (Nat.le_of_ble_eq_true rfl) ?_)); rfl)) ?_
 try simp only [opv, n1, n2, n3, n4, Value.cells]
 rw [show (#[.int .u8 4, .int .u16 (ct : Int), .int .u8 0, .int .u8 0, .int .u8 0, .int .u8 0, .int .u8 0, .int .u8 0, .int .u8 0, .int .u8 0, .int .u8 0, .int .u32 0] : Array Value) = KA (noteK ct) from rfl]
 refine m_alloc ti34 hS (fun w2 g2 hS => ?_)
 try simp only [opv, n1, n2, n3, n4, Value.cells, Array.toArray_toList] at hS ⊢
 have h0l : key0.length = 12 := rfl
 replace hS : St _ _ w2 (.obj g2 (.cells (KA key0) 34 (0, 0)) :: _) := hS
 obtain ⟨kq, hkq⟩ : ∃ z, z = g2 := ⟨_, rfl⟩
 rw [← hkq] at hS ⊢
 first | refine m_store_obj ti34 (hS := hS) (hc := by first | exact zi_set rfl (by omega) | exact zi_whole (by omega) (by omega) | (first | exact splice_ic (by first | omega | (simp [*]; done) | (simp [*]; omega)) | exact splice_il (by first | omega | (simp [*]; done) | (simp [*]; omega)) | exact splice_whole (by first | (simp [opv, Value.cells, *]; done) | rfl) | (simp only [opv, n1, n2, Value.cells, splice, List.take_succ_cons, List.take_zero, List.drop_succ_cons, List.drop_zero, List.length_cons, List.length_nil, Nat.zero_add, Nat.reduceAdd, List.append_assoc, List.cons_append, List.nil_append]; rfl))) (hv := by first | rfl | (show (zi _ _).toArray.size = _; rw [zi_size (by omega)]; rfl) | (simp [opv, Value.cells, *]; done)) (hfit := by first | omega | (rw [zi_size (by omega)]; first | rfl | decide) | (simp only [ic_size, List.length_map, List.size_toArray]; first | omega | decide) | rfl | (simp [*]; done) | (simp [*]; omega)) (h1 := by first | exact zi_one _ _ | exact ic_one _ _ | simp [opv, Value.cells, Value.oneCell']) (h := fun w3 hS => ?_) | refine m_store_vec ti34 (hS := hS) (hc := by first | exact zi_set rfl (by omega) | exact zi_whole (by omega) (by omega) | (first | exact splice_ic (by first | omega | (simp [*]; done) | (simp [*]; omega)) | exact splice_il (by first | omega | (simp [*]; done) | (simp [*]; omega)) | exact splice_whole (by first | (simp [opv, Value.cells, *]; done) | rfl) | (simp only [opv, n1, n2, Value.cells, splice, List.take_succ_cons, List.take_zero, List.drop_succ_cons, List.drop_zero, List.length_cons, List.length_nil, Nat.zero_add, Nat.reduceAdd, List.append_assoc, List.cons_append, List.nil_append]; rfl))) (hv := by first | rfl | (show (zi _ _).toArray.size = _; rw [zi_size (by omega)]; rfl) | (simp [opv, Value.cells, *]; done)) (hfit := by first | omega | (rw [zi_size (by omega)]; first | rfl | decide) | (simp only [ic_size, List.length_map, List.size_toArray]; first | omega | decide) | rfl | (simp [*]; done) | (simp [*]; omega)) (h1 := by first | exact zi_one _ _ | exact ic_one _ _ | simp [opv, Value.cells, Value.oneCell']) (h := fun w3 hS => ?_)
 try simp only [opv, n1, n2, n3, n4, Value.cells, Array.toArray_toList] at hS ⊢
 replace hS := hS.obj_rd (sz := 12) (n := 1) (by exact zi_size12 hkl) .head
 refine x_nil ?_
 refine hK2 _ _ ?_
 refine x_seq fun K3 hK3 => ?_
 refine x_region ?_
 refine s_go (s_move) ?_
 try simp only [opv, n1, n2, n3, n4, Value.cells]
 refine s_go (s_makeFunc) ?_
 try simp only [opv, n1, n2, n3, n4, Value.cells, List.map_toArray, List.map_cons, List.map_nil]
 refine s_call en126 ?_
 try simp only [opv, n1, n2, n3, n4, Value.cells, List.map_toArray, List.map_cons, List.map_nil, List.append_toArray, List.cons_append, List.nil_append, Array.append_empty]
 refine CallR.mono (c_noteFind _ A c l (hS.hasRd (by repeat (first | exact Has.head | apply Has.tail))) hv hn kq (noteK ct) hkl (hS.hasRd (by repeat (first | exact Has.head | apply Has.tail)))) ?_
 rintro _ w4 ⟨rfl, hE4⟩
 replace hS := hS.ext hE4
 try simp only [opv, n1, n2, n3, n4, Value.cells]
 rw [show (fnd (noteK ct) (normP l)).getD v9 = noteV l ct from rfl]
 refine s_go (s_move) ?_
 try simp only [opv, n1, n2, n3, n4, Value.cells]
 refine s_go (s_extract (hv := rfl)) ?_
 try simp only [List.getElem_toArray, List.getElem_cons_zero, List.getElem_cons_succ]
 try simp only [opv, n1, n2, n3, n4, Value.cells]
 refine s_go (s_extract (hv := rfl)) ?_
 try simp only [List.getElem_toArray, List.getElem_cons_zero, List.getElem_cons_succ]
 try simp only [opv, n1, n2, n3, n4, Value.cells]
 refine m_alloc ti37 hS (fun w5 g5 hS => ?_)
 try simp only [opv, n1, n2, n3, n4, Value.cells, Array.toArray_toList] at hS ⊢
 replace hS : St _ _ w5 (.obj g5 (.cells (VA v9) 37 (0, 0)) :: _) := hS
 first | refine m_store_obj ti37 (hS := hS) (hc := by first | exact zi_set rfl (by omega) | exact zi_whole (by omega) (by omega) | (first | exact splice_ic (by first | omega | (simp [*]; done) | (simp [*]; omega)) | exact splice_il (by first | omega | (simp [*]; done) | (simp [*]; omega)) | exact splice_whole (by first | (simp [opv, Value.cells, *]; done) | rfl) | (simp only [opv, n1, n2, Value.cells, splice, List.take_succ_cons, List.take_zero, List.drop_succ_cons, List.drop_zero, List.length_cons, List.length_nil, Nat.zero_add, Nat.reduceAdd, List.append_assoc, List.cons_append, List.nil_append]; rfl))) (hv := by first | rfl | (show (zi _ _).toArray.size = _; rw [zi_size (by omega)]; rfl) | (simp [opv, Value.cells, *]; done)) (hfit := by first | omega | (rw [zi_size (by omega)]; first | rfl | decide) | (simp only [ic_size, List.length_map, List.size_toArray]; first | omega | decide) | rfl | (simp [*]; done) | (simp [*]; omega)) (h1 := by first | exact zi_one _ _ | exact ic_one _ _ | simp [opv, Value.cells, Value.oneCell']) (h := fun w6 hS => ?_) | refine m_store_vec ti37 (hS := hS) (hc := by first | exact zi_set rfl (by omega) | exact zi_whole (by omega) (by omega) | (first | exact splice_ic (by first | omega | (simp [*]; done) | (simp [*]; omega)) | exact splice_il (by first | omega | (simp [*]; done) | (simp [*]; omega)) | exact splice_whole (by first | (simp [opv, Value.cells, *]; done) | rfl) | (simp only [opv, n1, n2, Value.cells, splice, List.take_succ_cons, List.take_zero, List.drop_succ_cons, List.drop_zero, List.length_cons, List.length_nil, Nat.zero_add, Nat.reduceAdd, List.append_assoc, List.cons_append, List.nil_append]; rfl))) (hv := by first | rfl | (show (zi _ _).toArray.size = _; rw [zi_size (by omega)]; rfl) | (simp [opv, Value.cells, *]; done)) (hfit := by first | omega | (rw [zi_size (by omega)]; first | rfl | decide) | (simp only [ic_size, List.length_map, List.size_toArray]; first | omega | decide) | rfl | (simp [*]; done) | (simp [*]; omega)) (h1 := by first | exact zi_one _ _ | exact ic_one _ _ | simp [opv, Value.cells, Value.oneCell']) (h := fun w6 hS => ?_)
 try simp only [opv, n1, n2, n3, n4, Value.cells, Array.toArray_toList] at hS ⊢
 refine s_go (s_assign) ?_
 try simp only [opv, n1, n2, n3, n4, Value.cells]
 refine x_nil ?_
 refine hK3 _ _ ?_
 refine x_seq fun K4 hK4 => ?_
 refine x_seq fun K5 hK5 => ?_
 refine x_region ?_
 refine s_go (s_move) ?_
 try simp only [opv, n1, n2, n3, n4, Value.cells]
 refine s_go (s_not) ?_
 try simp only [opv, n1, n2, n3, n4, Value.cells]
 refine x_nil ?_
 refine hK5 _ _ ?_
 refine x_cond (ht := fun hc1 => ?_) (hf := fun hc1 => ?_)
 ·
  try simp only [decide_eq_true_eq, decide_eq_false_iff_not, Bool.not_eq_true', Bool.not_eq_false', Int.not_lt, Int.not_le, ne_eq, Decidable.not_not, bne_iff_ne, beq_iff_eq, not_true_eq_false, not_false_eq_true] at hc1
  have hz : noteV l ct = v9 := by rw [noteV, is_none (o := fnd (noteK ct) (normP l)) (by simpa using hc1)]; rfl
  refine x_seq fun K6 hK6 => ?_
  refine x_region ?_
  refine s_go (s_build_arr (cells := #[.int .u8 0, .int .u8 0, .int .u8 0, .int .u8 0, .int .u8 0, .int .u8 0, .int .u8 0, .int .u8 0]) Try.underlying31 ti31 ti5 (hc := by simp only [List.map_toArray, List.map_cons, List.map_nil, opv, n1, n2, n3, n4, Value.cells, List.toList_toArray]; (repeat (refine fill_cons rfl rfl (Nat.le_of_ble_eq_true rfl) ?_)); rfl)) ?_
  try simp only [opv, n1, n2, n3, n4, Value.cells]
  rw [show (#[.int .u8 0, .int .u8 0, .int .u8 0, .int .u8 0, .int .u8 0, .int .u8 0, .int .u8 0, .int .u8 0] : Array Value) = ic .u8 nm0 from rfl]
  first | refine m_store_obj ti31 (hS := hS) (hc := by first | exact zi_set rfl (by omega) | exact zi_whole (by omega) (by omega) | (first | exact splice_ic (by first | omega | (simp [*]; done) | (simp [*]; omega)) | exact splice_il (by first | omega | (simp [*]; done) | (simp [*]; omega)) | exact splice_whole (by first | (simp [opv, Value.cells, *]; done) | rfl) | (simp only [opv, n1, n2, Value.cells, splice, List.take_succ_cons, List.take_zero, List.drop_succ_cons, List.drop_zero, List.length_cons, List.length_nil, Nat.zero_add, Nat.reduceAdd, List.append_assoc, List.cons_append, List.nil_append]; rfl))) (hv := by first | rfl | (show (zi _ _).toArray.size = _; rw [zi_size (by omega)]; rfl) | (simp [opv, Value.cells, *]; done)) (hfit := by first | omega | (rw [zi_size (by omega)]; first | rfl | decide) | (simp only [ic_size, List.length_map, List.size_toArray]; first | omega | decide) | rfl | (simp [*]; done) | (simp [*]; omega)) (h1 := by first | exact zi_one _ _ | exact ic_one _ _ | simp [opv, Value.cells, Value.oneCell']) (h := fun w7 hS => ?_) | refine m_store_vec ti31 (hS := hS) (hc := by first | exact zi_set rfl (by omega) | exact zi_whole (by omega) (by omega) | (first | exact splice_ic (by first | omega | (simp [*]; done) | (simp [*]; omega)) | exact splice_il (by first | omega | (simp [*]; done) | (simp [*]; omega)) | exact splice_whole (by first | (simp [opv, Value.cells, *]; done) | rfl) | (simp only [opv, n1, n2, Value.cells, splice, List.take_succ_cons, List.take_zero, List.drop_succ_cons, List.drop_zero, List.length_cons, List.length_nil, Nat.zero_add, Nat.reduceAdd, List.append_assoc, List.cons_append, List.nil_append]; rfl))) (hv := by first | rfl | (show (zi _ _).toArray.size = _; rw [zi_size (by omega)]; rfl) | (simp [opv, Value.cells, *]; done)) (hfit := by first | omega | (rw [zi_size (by omega)]; first | rfl | decide) | (simp only [ic_size, List.length_map, List.size_toArray]; first | omega | decide) | rfl | (simp [*]; done) | (simp [*]; omega)) (h1 := by first | exact zi_one _ _ | exact ic_one _ _ | simp [opv, Value.cells, Value.oneCell']) (h := fun w7 hS => ?_)
  try simp only [opv, n1, n2, n3, n4, Value.cells, Array.toArray_toList] at hS ⊢
  refine s_go (s_assign) ?_
  try simp only [opv, n1, n2, n3, n4, Value.cells]
  refine s_go (s_assign) ?_
  try simp only [opv, n1, n2, n3, n4, Value.cells]
  refine x_nil ?_
  refine hK6 _ _ ?_
  refine x_ret ?_
  refine r_cell_tmp2_agg rfl Try.underlying31 ti31 (hS := hS) (hR := ?_) (hfit := by first | omega | (rw [zi_size (by omega)]; first | rfl | decide) | (simp only [ic_size, List.length_map, List.size_toArray]; first | omega | decide) | rfl | (simp [*]; done) | (simp [*]; omega))
  exact ⟨by rw [noteT, noteN, noteR, hz]; rfl, hS.ext_of⟩
 ·
  try simp only [decide_eq_true_eq, decide_eq_false_iff_not, Bool.not_eq_true', Bool.not_eq_false', Int.not_lt, Int.not_le, ne_eq, Decidable.not_not, bne_iff_ne, beq_iff_eq, not_true_eq_false, not_false_eq_true] at hc1
  refine x_skip ?_
  refine hK4 _ _ ?_
  refine x_seq fun K7 hK7 => ?_
  refine x_region ?_
  first | refine s_go (m_fieldAddr Try.underlying37 (hi := ti35)) ?_ | refine s_go (m_fieldAddr_rd Try.underlying37 (hi := ti35) (hS := hS)) ?_ | refine s_go (m_fieldAddr_vec Try.underlying37 (hi := ti35) (hS := hS)) ?_
  try simp only [opv, n1, n2, n3, n4, Value.cells, Nat.zero_add, Nat.add_zero, List.getElem_toArray, List.getElem_cons_zero, List.getElem_cons_succ]
  first | refine s_go (m_load_obj Try.underlying35 (hS := hS) (hv := by first | rfl | exact zi_get rfl (by omega) | exact ic_get (by omega) | exact il_get (by omega))) ?_ | refine s_go (m_load_bx Try.underlying35 (hS := hS) (hv := by first | rfl | exact zi_get rfl (by omega) | exact ic_get (by omega) | exact il_get (by omega))) ?_ | refine s_go (m_load_rd Try.underlying35 (hS := hS) (hv := by first | rfl | exact zi_get rfl (by omega) | exact ic_get (by omega) | exact il_get (by omega))) ?_ | refine s_go (m_load_vec Try.underlying35 (hS := hS) (hv := by first | rfl | exact zi_get rfl (by omega) | exact ic_get (by omega) | exact il_get (by omega))) ?_
  try simp only [opv, n1, n2, n3, n4, Value.cells, List.getElem_toArray, List.getElem_cons_zero, List.getElem_cons_succ]
  rw [hvo.e0]
  refine s_call en128 ?_
  try simp only [opv, n1, n2, n3, n4, Value.cells, List.map_toArray, List.map_cons, List.map_nil, List.append_toArray, List.cons_append, List.nil_append, Array.append_empty]
  refine CallR.mono (c_atomUnstamp (kn (noteV l ct) 0) hvb _) ?_
  rintro _ w8 ⟨rfl, hE8⟩
  replace hS := hS.ext hE8
  try simp only [opv, n1, n2, n3, n4, Value.cells]
  refine s_go (s_move) ?_
  try simp only [opv, n1, n2, n3, n4, Value.cells]
  refine s_go (s_extract (hv := rfl)) ?_
  try simp only [List.getElem_toArray, List.getElem_cons_zero, List.getElem_cons_succ]
  try simp only [opv, n1, n2, n3, n4, Value.cells]
  refine s_go (s_extract (hv := rfl)) ?_
  try simp only [List.getElem_toArray, List.getElem_cons_zero, List.getElem_cons_succ]
  try simp only [opv, n1, n2, n3, n4, Value.cells]
  refine s_go (s_assign) ?_
  try simp only [opv, n1, n2, n3, n4, Value.cells]
  refine s_go (s_assign) ?_
  try simp only [opv, n1, n2, n3, n4, Value.cells]
  refine x_nil ?_
  refine hK7 _ _ ?_
  refine x_seq fun K8 hK8 => ?_
  refine x_region ?_
  first | refine s_go (m_fieldAddr Try.underlying37 (hi := ti31)) ?_ | refine s_go (m_fieldAddr_rd Try.underlying37 (hi := ti31) (hS := hS)) ?_ | refine s_go (m_fieldAddr_vec Try.underlying37 (hi := ti31) (hS := hS)) ?_
  try simp only [opv, n1, n2, n3, n4, Value.cells, Nat.zero_add, Nat.add_zero, List.getElem_toArray, List.getElem_cons_zero, List.getElem_cons_succ]
  first | refine s_go (m_load_row Try.underlying31 (hi := ti31) (hS := hS) (hfit := by first | omega | (rw [zi_size (by omega)]; first | rfl | decide) | (simp only [ic_size, List.length_map, List.size_toArray]; first | omega | decide) | rfl | (simp [*]; done) | (simp [*]; omega))) ?_ | refine s_go (m_loada_obj Try.underlying31 (hi := ti31) (hS := hS) (hfit := by first | omega | (rw [zi_size (by omega)]; first | rfl | decide) | (simp only [ic_size, List.length_map, List.size_toArray]; first | omega | decide) | rfl | (simp [*]; done) | (simp [*]; omega))) ?_ | refine s_go (m_loada_bx Try.underlying31 (hi := ti31) (hS := hS) (hfit := by first | omega | (rw [zi_size (by omega)]; first | rfl | decide) | (simp only [ic_size, List.length_map, List.size_toArray]; first | omega | decide) | rfl | (simp [*]; done) | (simp [*]; omega))) ?_ | refine s_go (m_loada_rd Try.underlying31 (hi := ti31) (hS := hS) (hfit := by first | omega | (rw [zi_size (by omega)]; first | rfl | decide) | (simp only [ic_size, List.length_map, List.size_toArray]; first | omega | decide) | rfl | (simp [*]; done) | (simp [*]; omega))) ?_ | refine s_go (m_loada_vec Try.underlying31 (hi := ti31) (hS := hS) (hfit := by first | omega | (rw [zi_size (by omega)]; first | rfl | decide) | (simp only [ic_size, List.length_map, List.size_toArray]; first | omega | decide) | rfl | (simp [*]; done) | (simp [*]; omega))) ?_
  try simp only [opv, n1, n2, n3, n4, Value.cells, List.getElem_toArray, List.getElem_cons_zero, List.getElem_cons_succ]
  rw [val_text hvl]
  refine s_go (s_move) ?_
  try simp only [opv, n1, n2, n3, n4, Value.cells]
  refine s_go (s_move) ?_
  try simp only [opv, n1, n2, n3, n4, Value.cells]
  first | refine m_store_obj ti31 (hS := hS) (hc := by first | exact zi_set rfl (by omega) | exact zi_whole (by omega) (by omega) | (first | exact splice_ic (by first | omega | (simp [*]; done) | (simp [*]; omega)) | exact splice_il (by first | omega | (simp [*]; done) | (simp [*]; omega)) | exact splice_whole (by first | (simp [opv, Value.cells, *]; done) | rfl) | (simp only [opv, n1, n2, Value.cells, splice, List.take_succ_cons, List.take_zero, List.drop_succ_cons, List.drop_zero, List.length_cons, List.length_nil, Nat.zero_add, Nat.reduceAdd, List.append_assoc, List.cons_append, List.nil_append]; rfl))) (hv := by first | rfl | (show (zi _ _).toArray.size = _; rw [zi_size (by omega)]; rfl) | (simp [opv, Value.cells, *]; done)) (hfit := by first | omega | (rw [zi_size (by omega)]; first | rfl | decide) | (simp only [ic_size, List.length_map, List.size_toArray]; first | omega | decide) | rfl | (simp [*]; done) | (simp [*]; omega)) (h1 := by first | exact zi_one _ _ | exact ic_one _ _ | simp [opv, Value.cells, Value.oneCell']) (h := fun w9 hS => ?_) | refine m_store_vec ti31 (hS := hS) (hc := by first | exact zi_set rfl (by omega) | exact zi_whole (by omega) (by omega) | (first | exact splice_ic (by first | omega | (simp [*]; done) | (simp [*]; omega)) | exact splice_il (by first | omega | (simp [*]; done) | (simp [*]; omega)) | exact splice_whole (by first | (simp [opv, Value.cells, *]; done) | rfl) | (simp only [opv, n1, n2, Value.cells, splice, List.take_succ_cons, List.take_zero, List.drop_succ_cons, List.drop_zero, List.length_cons, List.length_nil, Nat.zero_add, Nat.reduceAdd, List.append_assoc, List.cons_append, List.nil_append]; rfl))) (hv := by first | rfl | (show (zi _ _).toArray.size = _; rw [zi_size (by omega)]; rfl) | (simp [opv, Value.cells, *]; done)) (hfit := by first | omega | (rw [zi_size (by omega)]; first | rfl | decide) | (simp only [ic_size, List.length_map, List.size_toArray]; first | omega | decide) | rfl | (simp [*]; done) | (simp [*]; omega)) (h1 := by first | exact zi_one _ _ | exact ic_one _ _ | simp [opv, Value.cells, Value.oneCell']) (h := fun w9 hS => ?_)
  try simp only [opv, n1, n2, n3, n4, Value.cells, Array.toArray_toList] at hS ⊢
  refine s_go (s_assign) ?_
  try simp only [opv, n1, n2, n3, n4, Value.cells]
  refine s_go (s_assign) ?_
  try simp only [opv, n1, n2, n3, n4, Value.cells]
  refine x_nil ?_
  refine hK8 _ _ ?_
  refine x_ret ?_
  refine r_cell_tmp2_agg rfl Try.underlying31 ti31 (hS := hS) (hR := ?_) (hfit := by first | omega | (rw [zi_size (by omega)]; first | rfl | decide) | (simp only [ic_size, List.length_map, List.size_toArray]; first | omega | decide) | rfl | (simp [*]; done) | (simp [*]; omega))
  exact ⟨rfl, hS.ext_of⟩
theorem c_ref16Get (w0 : World) (A : Option Addr) (c : Nat) (l : List (List Int)) (hr : Rd w0 A 21 l.length (arows l)) (hv : AOks l) (hn : l.length ≤ 1000000000) (ct : Nat) (hct : ct < 65536)  :
    CallR Try.prog 129 #[.slice A l.length c, .int .u16 (ct : Int)] w0 fun v w' => v = .tuple #[.agg (ic .u8 (noteT l ct)), .int .u32 ((noteN l ct : Nat) : Int), .int .u8 ((noteR l ct : Nat) : Int)] ∧ Ext w0 w' := by
 have hS := St.rd1 (S := NoB) hr
 have hko := noteK_ok hct
 have hkl := hko.len
 have hno := (norm_sta hv).ok
 have hvo : ValOk (noteV l ct) := fndD_ok hno
 have hvl := hvo.len
 have hvb := hvo.b0
 have htl := vtext_len hvl
 have htl2 : (noteT l ct).length = 8 := htl
 have h9l : v9.length = 9 := rfl
 have hn0l : nm0.length = 8 := rfl
 refine c_enter (l := [.slice A l.length c, .int .u16 (ct : Int), undef, undef, undef, undef, undef, undef, undef, undef, undef, undef, undef, undef, undef, undef, undef, undef, undef, undef, undef, undef, undef, undef, undef, undef]) Try.func129 rfl (by simp only [Try.ntmps129, List.size_toArray, List.length_cons, List.length_nil, Nat.reduceAdd, Nat.reduceSub, Array.replicate_succ, Array.replicate_zero, List.push_toArray, List.append_toArray, List.nil_append, List.cons_append]) ?_
 refine x_seq fun K1 hK1 => ?_
 refine x_region ?_
 refine m_alloc ti31 hS (fun w1 g1 hS => ?_)
 try simp only [opv, n1, n2, n3, n4, Value.cells, Array.toArray_toList] at hS ⊢
 replace hS : St _ _ w1 (.obj g1 (.cells (ic .u8 nm0) 31 (0, 0)) :: _) := hS
 obtain ⟨gt, hgt⟩ : ∃ z, z = g1 := ⟨_, rfl⟩
 rw [← hgt] at hS ⊢
 refine s_go (s_assign) ?_
 try simp only [opv, n1, n2, n3, n4, Value.cells]
 refine s_go (s_assign) ?_
 try simp only [opv, n1, n2, n3, n4, Value.cells]
 refine x_nil ?_
 refine hK1 _ _ ?_
 refine x_seq fun K2 hK2 => ?_
 refine x_region ?_
 refine s_go (s_move) ?_
 try simp only [opv, n1, n2, n3, n4, Value.cells]
 refine s_go (s_move) ?_
 try simp only [opv, n1, n2, n3, n4, Value.cells]
 refine s_go (s_build_struct (cells := #[_, _, .int .u8 0, .int .u8 0, .int .u8 0, .int .u8 0, .int .u8 0, .int .u8 0, .int .u8 0, .int .u8 0, .int .u8 0, .int .u32 0]) Try.underlying34 ti34 bp34 (hc := by simp only [List.map_toArray, List.map_cons, List.map_nil, opv, n1, n2, n3, n4, Value.cells, List.toList_toArray]; (repeat (refine fill_cons rfl rfl (Nat.le_of_ble_eq_true rfl) ?_)); rfl)) ?_
 try simp only [opv, n1, n2, n3, n4, Value.cells]
 rw [show (#[.int .u8 4, .int .u16 (ct : Int), .int .u8 0, .int .u8 0, .int .u8 0, .int .u8 0, .int .u8 0, .int .u8 0, .int .u8 0, .int .u8 0, .int .u8 0, .int .u32 0] : Array Value) = KA (noteK ct) from rfl]
 refine s_call en28 ?_
 try simp only [opv, n1, n2, n3, n4, Value.cells, List.map_toArray, List.map_cons, List.map_nil, List.append_toArray, List.cons_append, List.nil_append, Array.append_empty]
 refine CallR.mono (c_ref10Find _ A c l (hS.hasRd (by repeat (first | exact Has.head | apply Has.tail))) hv hn (noteK ct) hko) ?_
 rintro _ w2 ⟨rfl, hE2⟩
 replace hS := hS.ext hE2
 try simp only [opv, n1, n2, n3, n4, Value.cells]
 rw [show (fnd (noteK ct) (normP l)).getD v9 = noteV l ct from rfl]
 refine s_go (s_move) ?_
 try simp only [opv, n1, n2, n3, n4, Value.cells]
 refine s_go (s_extract (hv := rfl)) ?_
 try simp only [List.getElem_toArray, List.getElem_cons_zero, List.getElem_cons_succ]
 try simp only [opv, n1, n2, n3, n4, Value.cells]
 refine s_go (s_extract (hv := rfl)) ?_
 try simp only [List.getElem_toArray, List.getElem_cons_zero, List.getElem_cons_succ]
 try simp only [opv, n1, n2, n3, n4, Value.cells]
 refine m_alloc ti37 hS (fun w3 g3 hS => ?_)
 try simp only [opv, n1, n2, n3, n4, Value.cells, Array.toArray_toList] at hS ⊢
 replace hS : St _ _ w3 (.obj g3 (.cells (VA v9) 37 (0, 0)) :: _) := hS
 obtain ⟨gv, hgv⟩ : ∃ z, z = g3 := ⟨_, rfl⟩
 rw [← hgv] at hS ⊢
 first | refine m_store_obj ti37 (hS := hS) (hc := by first | exact zi_set rfl (by omega) | exact zi_whole (by omega) (by omega) | (first | exact splice_ic (by first | omega | (simp [*]; done) | (simp [*]; omega)) | exact splice_il (by first | omega | (simp [*]; done) | (simp [*]; omega)) | exact splice_whole (by first | (simp [opv, Value.cells, *]; done) | rfl) | (simp only [opv, n1, n2, Value.cells, splice, List.take_succ_cons, List.take_zero, List.drop_succ_cons, List.drop_zero, List.length_cons, List.length_nil, Nat.zero_add, Nat.reduceAdd, List.append_assoc, List.cons_append, List.nil_append]; rfl))) (hv := by first | rfl | (show (zi _ _).toArray.size = _; rw [zi_size (by omega)]; rfl) | (simp [opv, Value.cells, *]; done)) (hfit := by first | omega | (rw [zi_size (by omega)]; first | rfl | decide) | (simp only [ic_size, List.length_map, List.size_toArray]; first | omega | decide) | rfl | (simp [*]; done) | (simp [*]; omega)) (h1 := by first | exact zi_one _ _ | exact ic_one _ _ | simp [opv, Value.cells, Value.oneCell']) (h := fun w4 hS => ?_) | refine m_store_vec ti37 (hS := hS) (hc := by first | exact zi_set rfl (by omega) | exact zi_whole (by omega) (by omega) | (first | exact splice_ic (by first | omega | (simp [*]; done) | (simp [*]; omega)) | exact splice_il (by first | omega | (simp [*]; done) | (simp [*]; omega)) | exact splice_whole (by first | (simp [opv, Value.cells, *]; done) | rfl) | (simp only [opv, n1, n2, Value.cells, splice, List.take_succ_cons, List.take_zero, List.drop_succ_cons, List.drop_zero, List.length_cons, List.length_nil, Nat.zero_add, Nat.reduceAdd, List.append_assoc, List.cons_append, List.nil_append]; rfl))) (hv := by first | rfl | (show (zi _ _).toArray.size = _; rw [zi_size (by omega)]; rfl) | (simp [opv, Value.cells, *]; done)) (hfit := by first | omega | (rw [zi_size (by omega)]; first | rfl | decide) | (simp only [ic_size, List.length_map, List.size_toArray]; first | omega | decide) | rfl | (simp [*]; done) | (simp [*]; omega)) (h1 := by first | exact zi_one _ _ | exact ic_one _ _ | simp [opv, Value.cells, Value.oneCell']) (h := fun w4 hS => ?_)
 try simp only [opv, n1, n2, n3, n4, Value.cells, Array.toArray_toList] at hS ⊢
 refine s_go (s_assign) ?_
 try simp only [opv, n1, n2, n3, n4, Value.cells]
 refine x_nil ?_
 refine hK2 _ _ ?_
 refine x_seq fun K3 hK3 => ?_
 refine x_mixed_c (Lc := [.obj gv (.cells (VA (noteV l ct)) 37 (0, 0))]) [] 0 [5, 6, 16, 17, 18, 19, 20, 21, 22, 23, 24, 25] (fun f w => f 5 = .int .u32 ((noteN l ct : Nat) : Int) ∧ f 6 = .int .u8 ((noteR l ct : Nat) : Int) ∧ St NoB w0 w [.obj gt (.cells (ic .u8 (noteT l ct)) 31 (0, 0))]) (by kernel_rfl) (by kernel_rfl) (by kernel_rfl) (by decide) hS (fun w5 hS => ?mixpre201) ?mixrest201
 case mixpre201 =>
  refine p_nil ?_
  simp only [List.length_cons, List.length_nil, Nat.reduceAdd, Nat.reduceSub]
  first | refine any_go (i := 0) (by rfl) (by decide +kernel) (by decide +kernel) noLate_nil (go_yields w_none (fun w hS => m_fieldAddr Try.underlying37 (hi := ti31))) ?_ | refine any_go (i := 0) (by rfl) (by decide +kernel) (by decide +kernel) noLate_nil (go_yields w_none (fun w hS => m_fieldAddr_rd Try.underlying37 (hi := ti31) (hS := hS))) ?_ | refine any_go (i := 0) (by rfl) (by decide +kernel) (by decide +kernel) noLate_nil (go_yields w_none (fun w hS => m_fieldAddr_vec Try.underlying37 (hi := ti31) (hS := hS))) ?_
  try simp only [opv, n1, n2, n3, n4, Value.cells, Nat.zero_add, Nat.add_zero, List.getElem_toArray, List.getElem_cons_zero, List.getElem_cons_succ]
  first | refine any_go (i := 1) (by rfl) (by decide +kernel) (by decide +kernel) noLate_nil (go_yields w_none (fun w hS => m_load_row Try.underlying31 (hi := ti31) (hS := hS) (hfit := by first | omega | (rw [zi_size (by omega)]; first | rfl | decide) | (simp only [ic_size, List.length_map, List.size_toArray]; first | omega | decide) | rfl | (simp [*]; done) | (simp [*]; omega)))) ?_ | refine any_go (i := 1) (by rfl) (by decide +kernel) (by decide +kernel) noLate_nil (go_yields w_none (fun w hS => m_loada_obj Try.underlying31 (hi := ti31) (hS := hS) (hfit := by first | omega | (rw [zi_size (by omega)]; first | rfl | decide) | (simp only [ic_size, List.length_map, List.size_toArray]; first | omega | decide) | rfl | (simp [*]; done) | (simp [*]; omega)))) ?_ | refine any_go (i := 1) (by rfl) (by decide +kernel) (by decide +kernel) noLate_nil (go_yields w_none (fun w hS => m_loada_bx Try.underlying31 (hi := ti31) (hS := hS) (hfit := by first | omega | (rw [zi_size (by omega)]; first | rfl | decide) | (simp only [ic_size, List.length_map, List.size_toArray]; first | omega | decide) | rfl | (simp [*]; done) | (simp [*]; omega)))) ?_ | refine any_go (i := 1) (by rfl) (by decide +kernel) (by decide +kernel) noLate_nil (go_yields w_none (fun w hS => m_loada_rd Try.underlying31 (hi := ti31) (hS := hS) (hfit := by first | omega | (rw [zi_size (by omega)]; first | rfl | decide) | (simp only [ic_size, List.length_map, List.size_toArray]; first | omega | decide) | rfl | (simp [*]; done) | (simp [*]; omega)))) ?_ | refine any_go (i := 1) (by rfl) (by decide +kernel) (by decide +kernel) noLate_nil (go_yields w_none (fun w hS => m_loada_vec Try.underlying31 (hi := ti31) (hS := hS) (hfit := by first | omega | (rw [zi_size (by omega)]; first | rfl | decide) | (simp only [ic_size, List.length_map, List.size_toArray]; first | omega | decide) | rfl | (simp [*]; done) | (simp [*]; omega)))) ?_
  try simp only [opv, n1, n2, n3, n4, Value.cells, List.getElem_toArray, List.getElem_cons_zero, List.getElem_cons_succ]
  rw [val_text hvl]
  first | refine any_go (i := 2) (by rfl) (by decide +kernel) (by decide +kernel) noLate_nil (go_yields w_none (fun w hS => m_fieldAddr Try.underlying37 (hi := ti35))) ?_ | refine any_go (i := 2) (by rfl) (by decide +kernel) (by decide +kernel) noLate_nil (go_yields w_none (fun w hS => m_fieldAddr_rd Try.underlying37 (hi := ti35) (hS := hS))) ?_ | refine any_go (i := 2) (by rfl) (by decide +kernel) (by decide +kernel) noLate_nil (go_yields w_none (fun w hS => m_fieldAddr_vec Try.underlying37 (hi := ti35) (hS := hS))) ?_
  try simp only [opv, n1, n2, n3, n4, Value.cells, Nat.zero_add, Nat.add_zero, List.getElem_toArray, List.getElem_cons_zero, List.getElem_cons_succ]
  first | refine any_go (i := 3) (by rfl) (by decide +kernel) (by decide +kernel) noLate_nil (go_yields w_none (fun w hS => m_load_obj Try.underlying35 (hS := hS) (hv := by first | rfl | exact zi_get rfl (by omega) | exact ic_get (by omega) | exact il_get (by omega)))) ?_ | refine any_go (i := 3) (by rfl) (by decide +kernel) (by decide +kernel) noLate_nil (go_yields w_none (fun w hS => m_load_bx Try.underlying35 (hS := hS) (hv := by first | rfl | exact zi_get rfl (by omega) | exact ic_get (by omega) | exact il_get (by omega)))) ?_ | refine any_go (i := 3) (by rfl) (by decide +kernel) (by decide +kernel) noLate_nil (go_yields w_none (fun w hS => m_load_rd Try.underlying35 (hS := hS) (hv := by first | rfl | exact zi_get rfl (by omega) | exact ic_get (by omega) | exact il_get (by omega)))) ?_ | refine any_go (i := 3) (by rfl) (by decide +kernel) (by decide +kernel) noLate_nil (go_yields w_none (fun w hS => m_load_vec Try.underlying35 (hS := hS) (hv := by first | rfl | exact zi_get rfl (by omega) | exact ic_get (by omega) | exact il_get (by omega)))) ?_
  try simp only [opv, n1, n2, n3, n4, Value.cells, List.getElem_toArray, List.getElem_cons_zero, List.getElem_cons_succ]
  rw [hvo.e0]
  refine any_go (i := 4) (by rfl) (by decide +kernel) (by decide +kernel) noLate_nil (go_yields w_none (fun w hS => s_quo (hc := quo_u64 (p := 256) hvb))) ?_
  try simp only [opv, n1, n2, n3, n4, Value.cells]
  refine any_go (i := 5) (by rfl) (by decide +kernel) (by decide +kernel) noLate_nil (go_yields w_none (fun w hS => s_conv Try.underlying35 Try.underlying32 (hc := cv_u32 rfl))) ?_
  try simp only [opv, n1, n2, n3, n4, Value.cells]
  first | refine any_go (i := 6) (by rfl) (by decide +kernel) (by decide +kernel) noLate_nil (go_yields w_none (fun w hS => m_fieldAddr Try.underlying37 (hi := ti35))) ?_ | refine any_go (i := 6) (by rfl) (by decide +kernel) (by decide +kernel) noLate_nil (go_yields w_none (fun w hS => m_fieldAddr_rd Try.underlying37 (hi := ti35) (hS := hS))) ?_ | refine any_go (i := 6) (by rfl) (by decide +kernel) (by decide +kernel) noLate_nil (go_yields w_none (fun w hS => m_fieldAddr_vec Try.underlying37 (hi := ti35) (hS := hS))) ?_
  try simp only [opv, n1, n2, n3, n4, Value.cells, Nat.zero_add, Nat.add_zero, List.getElem_toArray, List.getElem_cons_zero, List.getElem_cons_succ]
  first | refine any_go (i := 7) (by rfl) (by decide +kernel) (by decide +kernel) noLate_nil (go_yields w_none (fun w hS => m_load_obj Try.underlying35 (hS := hS) (hv := by first | rfl | exact zi_get rfl (by omega) | exact ic_get (by omega) | exact il_get (by omega)))) ?_ | refine any_go (i := 7) (by rfl) (by decide +kernel) (by decide +kernel) noLate_nil (go_yields w_none (fun w hS => m_load_bx Try.underlying35 (hS := hS) (hv := by first | rfl | exact zi_get rfl (by omega) | exact ic_get (by omega) | exact il_get (by omega)))) ?_ | refine any_go (i := 7) (by rfl) (by decide +kernel) (by decide +kernel) noLate_nil (go_yields w_none (fun w hS => m_load_rd Try.underlying35 (hS := hS) (hv := by first | rfl | exact zi_get rfl (by omega) | exact ic_get (by omega) | exact il_get (by omega)))) ?_ | refine any_go (i := 7) (by rfl) (by decide +kernel) (by decide +kernel) noLate_nil (go_yields w_none (fun w hS => m_load_vec Try.underlying35 (hS := hS) (hv := by first | rfl | exact zi_get rfl (by omega) | exact ic_get (by omega) | exact il_get (by omega)))) ?_
  try simp only [opv, n1, n2, n3, n4, Value.cells, List.getElem_toArray, List.getElem_cons_zero, List.getElem_cons_succ]
  rw [hvo.e0]
  refine any_go (i := 8) (by rfl) (by decide +kernel) (by decide +kernel) noLate_nil (go_yields w_none (fun w hS => s_rem (hc := rem_nat (p := 256)))) ?_
  try simp only [opv, n1, n2, n3, n4, Value.cells]
  refine any_go (i := 9) (by rfl) (by decide +kernel) (by decide +kernel) noLate_nil (go_yields w_none (fun w hS => s_conv Try.underlying35 Try.underlying5 (hc := (cv_u8 rfl).trans (congrArg _ (Nat.mod_mod _ _))))) ?_
  try simp only [opv, n1, n2, n3, n4, Value.cells]
  refine any_step [10] (by kernel_rfl) (by decide) (fun w6 hE => ⟨fun _ => (hS.ext hE).sel (by repeat (first | exact Sel.nil | (refine Sel.cons (by repeat (first | exact Del.head | apply Del.tail)) ?_))), ?_⟩)
  replace hS := hS.ext hE
  intro i hi
  simp only [List.mem_cons, List.not_mem_nil, or_false] at hi
  subst hi
  ·
   refine any_op (by rfl) ?_
   first | refine m_store_obj ti31 (hS := hS) (hc := by first | exact zi_set rfl (by omega) | exact zi_whole (by omega) (by omega) | (first | exact splice_ic (by first | omega | (simp [*]; done) | (simp [*]; omega)) | exact splice_il (by first | omega | (simp [*]; done) | (simp [*]; omega)) | exact splice_whole (by first | (simp [opv, Value.cells, *]; done) | rfl) | (simp only [opv, n1, n2, Value.cells, splice, List.take_succ_cons, List.take_zero, List.drop_succ_cons, List.drop_zero, List.length_cons, List.length_nil, Nat.zero_add, Nat.reduceAdd, List.append_assoc, List.cons_append, List.nil_append]; rfl))) (hv := by first | rfl | (show (zi _ _).toArray.size = _; rw [zi_size (by omega)]; rfl) | (simp [opv, Value.cells, *]; done)) (hfit := by first | omega | (rw [zi_size (by omega)]; first | rfl | decide) | (simp only [ic_size, List.length_map, List.size_toArray]; first | omega | decide) | rfl | (simp [*]; done) | (simp [*]; omega)) (h1 := by first | exact zi_one _ _ | exact ic_one _ _ | simp [opv, Value.cells, Value.oneCell']) (h := fun w7 hS => ?_) | refine m_store_vec ti31 (hS := hS) (hc := by first | exact zi_set rfl (by omega) | exact zi_whole (by omega) (by omega) | (first | exact splice_ic (by first | omega | (simp [*]; done) | (simp [*]; omega)) | exact splice_il (by first | omega | (simp [*]; done) | (simp [*]; omega)) | exact splice_whole (by first | (simp [opv, Value.cells, *]; done) | rfl) | (simp only [opv, n1, n2, Value.cells, splice, List.take_succ_cons, List.take_zero, List.drop_succ_cons, List.drop_zero, List.length_cons, List.length_nil, Nat.zero_add, Nat.reduceAdd, List.append_assoc, List.cons_append, List.nil_append]; rfl))) (hv := by first | rfl | (show (zi _ _).toArray.size = _; rw [zi_size (by omega)]; rfl) | (simp [opv, Value.cells, *]; done)) (hfit := by first | omega | (rw [zi_size (by omega)]; first | rfl | decide) | (simp only [ic_size, List.length_map, List.size_toArray]; first | omega | decide) | rfl | (simp [*]; done) | (simp [*]; omega)) (h1 := by first | exact zi_one _ _ | exact ic_one _ _ | simp [opv, Value.cells, Value.oneCell']) (h := fun w7 hS => ?_)
   try simp only [opv, n1, n2, n3, n4, Value.cells, Array.toArray_toList] at hS ⊢
   refine x_nil ?_
   refine any_go (i := 11) (by rfl) (by decide +kernel) (by decide +kernel) noLate_nil (go_yields w_none (fun w hS => s_assign)) ?_
   try simp only [opv, n1, n2, n3, n4, Value.cells]
   refine any_go (i := 12) (by rfl) (by decide +kernel) (by decide +kernel) noLate_nil (go_yields w_none (fun w hS => s_assign)) ?_
   try simp only [opv, n1, n2, n3, n4, Value.cells]
   refine any_nil (by kernel_rfl) (fun w8 hE => ?_)
   replace hS := hS.ext hE
   refine ⟨fun _ => hS.sel (by repeat (first | exact Sel.nil | (refine Sel.cons (by repeat (first | exact Del.head | apply Del.tail)) ?_))), ?_⟩
   refine mix_leaf (by simp only [clob, List.foldl, n1, n2, n3, n4]) ?_
   try simp only [n1, n2]
   exact ⟨by first | trivial | rfl, by first | trivial | rfl, hS.sel (by repeat (first | exact Sel.nil | (refine Sel.cons (by repeat (first | exact Del.head | apply Del.tail)) ?_)))⟩
 intro fm1 w9 hM
 obtain ⟨h5, h6, hS⟩ := hM
 simp only [clob, List.foldl, n3, n4, h5, h6]
 refine hK3 _ _ ?_
 refine x_ret ?_
 refine r_cell_tmp2_agg rfl Try.underlying31 ti31 (hS := hS) (hR := ?_) (hfit := by first | omega | (rw [zi_size (by omega)]; first | rfl | decide) | (simp only [ic_size, List.length_map, List.size_toArray]; first | omega | decide) | rfl | (simp [*]; done) | (simp [*]; omega))
 exact ⟨rfl, hS.ext_of⟩
end Go.Proofs.Ytmgacmkikefpjaa
set_option linter.unusedSimpArgs false
set_option linter.unusedVariables false
set_option maxHeartbeats 1000000
set_option maxRecDepth 100000
namespace Go.Proofs.Ytmgacmkikefpjaa
open Go.RowKit

def cartA (a : List Int) : Option Int := if kn a 0 = 4 then some (kn a 1 : Int) else none
def cartsL (s : List (List Int)) : List Int := s.filterMap cartA
theorem carts_take {s : List (List Int)} {k : Nat} {x : List Int} (hk : k < s.length) (hx : s.getD k [] = x) : (kn x 0 = 4 → cartsL (s.take (k + 1)) = cartsL (s.take k) ++ [(kn x 1 : Int)]) ∧ (¬ kn x 0 = 4 → cartsL (s.take (k + 1)) = cartsL (s.take k)) := by
  rw [take_snoc hk, hx, cartsL, List.filterMap_append]
  refine ⟨fun h => ?_, fun h => ?_⟩
  · rw [List.filterMap_cons_some (show cartA x = some (kn x 1 : Int) by rw [cartA, if_pos h])]; rfl
  · rw [List.filterMap_cons_none (show cartA x = none by rw [cartA, if_neg h])]; simp [cartsL]
theorem carts_len (s : List (List Int)) : (cartsL s).length ≤ s.length := List.length_filterMap_le _ _
theorem akey_k {a : List Int} (h : a.length = 21) : kn (akey a) 0 = kn a 0 ∧ kn (akey a) 1 = kn a 1 := by
  match a, h with
  | _ :: _ :: _, _ => exact ⟨rfl, rfl⟩

theorem c_noteCarts (w0 : World) (A : Option Addr) (c : Nat) (l : List (List Int)) (hr : Rd w0 A 21 l.length (arows l)) (hv : AOks l) (hn : l.length ≤ 1000000000)  :
    CallR Try.prog 122 #[.slice A l.length c] w0 fun v w' => ∃ B d, v = .slice B (cartsL (normP l)).length d ∧ St NoB w0 w' [.vec B d 29 1 (cartsL (normP l)).length ((cartsL (normP l)).map (Value.int .u16))] := by
 have hS := St.rd1 (S := NoB) hr
 have hno := (norm_sta hv).ok
 have hkn := (norm_sta hv).knd
 have hnl := arows_len (normP l)
 have hnb := norm_len l
 refine y_enter (l := [.slice A l.length c, undef, undef, undef, undef, undef, undef, undef, undef, undef, undef, undef, undef, undef, undef, undef, undef]) Try.func122 rfl (by simp only [Try.ntmps122, List.size_toArray, List.length_cons, List.length_nil, Nat.reduceAdd, Nat.reduceSub, Array.replicate_succ, Array.replicate_zero, List.push_toArray, List.append_toArray, List.nil_append, List.cons_append]) ?_
 refine y_seq fun K1 hK1 => ?_
 refine y_region (by kernel_rfl) ?_
 refine m_alloc ti131 hS (fun w1 g1 hS => ?_)
 try simp only [opv, n1, n2, n3, n4, Value.cells, Array.toArray_toList] at hS ⊢
 obtain ⟨gb, hgb⟩ : ∃ z, z = g1 := ⟨_, rfl⟩
 rw [← hgb] at hS ⊢
 replace hS := hS.nil_vec 29 1
 refine y_nilf ?_
 refine hK1 _ _ ?_
 refine y_seq fun K2 hK2 => ?_
 refine y_seq fun K3 hK3 => ?_
 refine y_region (by kernel_rfl) ?_
 refine s_go (s_move) ?_
 try simp only [opv, n1, n2, n3, n4, Value.cells]
 refine s_call en23 ?_
 try simp only [opv, n1, n2, n3, n4, Value.cells, List.map_toArray, List.map_cons, List.map_nil, List.append_toArray, List.cons_append, List.nil_append, Array.append_empty]
 refine CallR.mono (c_latEach A c l _) ?_
 rintro _ w2 ⟨b, rfl, hC2⟩
 replace hS := hS.call hC2
 simp only [List.cons_append, List.nil_append] at hS
 try simp only [opv, n1, n2, n3, n4, Value.cells]
 refine y_nilf ?_
 refine hK3 _ _ ?_
 refine y_block ?_
 refine y_range rfl en108 (i_latEach b A c l hv hn) (fun _ => rfl) hS (by repeat (first | exact Spl.nil | (apply Spl.cons (by repeat (first | exact Del.head | apply Del.tail))))) (fun k L => k ≤ (normP l).length ∧ ∃ (B : Option Addr) (d : Nat), L = [.vec B d 29 1 ((cartsL ((normP l).take k))).length (((cartsL ((normP l).take k))).map (Value.int .u16)), .obj gb (.cells #[.slice B ((cartsL ((normP l).take k))).length d] 131 (0, 0))]) (fun L => False) [] ?rfh1 ?rfr1 (fun D1 T1 w3 R1 hC hS => ?rfd1) (fun D1 T1 w4 R1 hX hS => ?rft1) ?rfe1
 case rfh1 =>
  exact ⟨Nat.zero_le _, none, 0, rfl⟩
 case rfr1 =>
  intro k1 w5 R1 T1 lr1 hk1 hC hS
  obtain ⟨hk0, Bc, dc, rfl⟩ := hC
  simp only [List.cons_append, List.nil_append] at hS
  simp only [List.toList_toArray, entL, List.zip_cons_cons, List.zip_nil_left, List.foldl_cons, List.foldl_nil, n3, n4]
  obtain ⟨x, hx⟩ : ∃ x, (normP l).getD k1 [] = x := ⟨_, rfl⟩
  have ha : AtomOk x := by rw [← hx]; exact hno.get (by omega)
  have hal := ha.len
  have hk12 := ha.key.len
  have hvx := ha.val
  have hx9 := hvx.len
  simp only [hx]
  have hkx := ha.key
  have hk01 := akey_k hal
  have hct := carts_take hk1 hx
  have hcl := carts_len ((normP l).take k1)
  have hlt : ((normP l).take k1).length ≤ (normP l).length := by rw [List.length_take]; omega
  refine y_region (by kernel_rfl) ?_
  refine m_alloc ti34 hS (fun w6 g6 hS => ?_)
  try simp only [opv, n1, n2, n3, n4, Value.cells, Array.toArray_toList] at hS ⊢
  have h0l : key0.length = 12 := rfl
  replace hS : St _ _ w6 (.obj g6 (.cells (KA key0) 34 (0, 0)) :: _) := hS
  first | refine m_store_obj ti34 (hS := hS) (hc := by first | exact zi_set rfl (by omega) | exact zi_whole (by omega) (by omega) | (first | exact splice_ic (by first | omega | (simp [*]; done) | (simp [*]; omega)) | exact splice_il (by first | omega | (simp [*]; done) | (simp [*]; omega)) | exact splice_whole (by first | (simp [opv, Value.cells, *]; done) | rfl) | (simp only [opv, n1, n2, Value.cells, splice, List.take_succ_cons, List.take_zero, List.drop_succ_cons, List.drop_zero, List.length_cons, List.length_nil, Nat.zero_add, Nat.reduceAdd, List.append_assoc, List.cons_append, List.nil_append]; rfl))) (hv := by first | rfl | (show (zi _ _).toArray.size = _; rw [zi_size (by omega)]; rfl) | (simp [opv, Value.cells, *]; done)) (hfit := by first | omega | (rw [zi_size (by omega)]; first | rfl | decide) | (simp only [ic_size, List.length_map, List.size_toArray]; first | omega | decide) | rfl | (simp [*]; done) | (simp [*]; omega)) (h1 := by first | exact zi_one _ _ | exact ic_one _ _ | simp [opv, Value.cells, Value.oneCell']) (h := fun w7 hS => ?_) | refine m_store_vec ti34 (hS := hS) (hc := by first | exact zi_set rfl (by omega) | exact zi_whole (by omega) (by omega) | (first | exact splice_ic (by first | omega | (simp [*]; done) | (simp [*]; omega)) | exact splice_il (by first | omega | (simp [*]; done) | (simp [*]; omega)) | exact splice_whole (by first | (simp [opv, Value.cells, *]; done) | rfl) | (simp only [opv, n1, n2, Value.cells, splice, List.take_succ_cons, List.take_zero, List.drop_succ_cons, List.drop_zero, List.length_cons, List.length_nil, Nat.zero_add, Nat.reduceAdd, List.append_assoc, List.cons_append, List.nil_append]; rfl))) (hv := by first | rfl | (show (zi _ _).toArray.size = _; rw [zi_size (by omega)]; rfl) | (simp [opv, Value.cells, *]; done)) (hfit := by first | omega | (rw [zi_size (by omega)]; first | rfl | decide) | (simp only [ic_size, List.length_map, List.size_toArray]; first | omega | decide) | rfl | (simp [*]; done) | (simp [*]; omega)) (h1 := by first | exact zi_one _ _ | exact ic_one _ _ | simp [opv, Value.cells, Value.oneCell']) (h := fun w7 hS => ?_)
  try simp only [opv, n1, n2, n3, n4, Value.cells, Array.toArray_toList] at hS ⊢
  refine y_nilf ?_
  refine round_open hS (by repeat (first | exact App.nil | apply App.cons)) (fun w8 T2 hS => ?_)
  simp only [List.cons_append, List.nil_append] at hS
  refine y_block ?_
  refine y_seq fun K4 hK4 => ?_
  refine y_region (by kernel_rfl) ?_
  first | refine s_go (m_fieldAddr Try.underlying34 (hi := ti5)) ?_ | refine s_go (m_fieldAddr_rd Try.underlying34 (hi := ti5) (hS := hS)) ?_ | refine s_go (m_fieldAddr_vec Try.underlying34 (hi := ti5) (hS := hS)) ?_
  try simp only [opv, n1, n2, n3, n4, Value.cells, Nat.zero_add, Nat.add_zero, List.getElem_toArray, List.getElem_cons_zero, List.getElem_cons_succ]
  first | refine s_go (m_load_obj Try.underlying5 (hS := hS) (hv := by first | rfl | exact zi_get rfl (by omega) | exact ic_get (by omega) | exact il_get (by omega))) ?_ | refine s_go (m_load_bx Try.underlying5 (hS := hS) (hv := by first | rfl | exact zi_get rfl (by omega) | exact ic_get (by omega) | exact il_get (by omega))) ?_ | refine s_go (m_load_rd Try.underlying5 (hS := hS) (hv := by first | rfl | exact zi_get rfl (by omega) | exact ic_get (by omega) | exact il_get (by omega))) ?_ | refine s_go (m_load_vec Try.underlying5 (hS := hS) (hv := by first | rfl | exact zi_get rfl (by omega) | exact ic_get (by omega) | exact il_get (by omega))) ?_
  try simp only [opv, n1, n2, n3, n4, Value.cells, List.getElem_toArray, List.getElem_cons_zero, List.getElem_cons_succ]
  rw [hkx.e0, hk01.1]
  refine s_go (s_eql) ?_
  try simp only [opv, n1, n2, n3, n4, Value.cells]
  refine y_nilf ?_
  refine hK4 _ _ ?_
  refine y_cond (ht := fun hc1 => ?_) (hf := fun hc1 => ?_)
  ·
   try simp only [decide_eq_true_eq, decide_eq_false_iff_not, Bool.not_eq_true', Bool.not_eq_false', Int.not_lt, Int.not_le, ne_eq, Decidable.not_not, bne_iff_ne, beq_iff_eq, not_true_eq_false, not_false_eq_true] at hc1
   have hst := hct.1 (by omega)
   refine y_region (by kernel_rfl) ?_
   first | refine s_go (m_load_obj Try.underlying131 (hS := hS) (hv := by first | rfl | exact zi_get rfl (by omega) | exact ic_get (by omega) | exact il_get (by omega))) ?_ | refine s_go (m_load_bx Try.underlying131 (hS := hS) (hv := by first | rfl | exact zi_get rfl (by omega) | exact ic_get (by omega) | exact il_get (by omega))) ?_ | refine s_go (m_load_rd Try.underlying131 (hS := hS) (hv := by first | rfl | exact zi_get rfl (by omega) | exact ic_get (by omega) | exact il_get (by omega))) ?_ | refine s_go (m_load_vec Try.underlying131 (hS := hS) (hv := by first | rfl | exact zi_get rfl (by omega) | exact ic_get (by omega) | exact il_get (by omega))) ?_
   try simp only [opv, n1, n2, n3, n4, Value.cells, List.getElem_toArray, List.getElem_cons_zero, List.getElem_cons_succ]
   first | refine s_go (m_fieldAddr Try.underlying34 (hi := ti29)) ?_ | refine s_go (m_fieldAddr_rd Try.underlying34 (hi := ti29) (hS := hS)) ?_ | refine s_go (m_fieldAddr_vec Try.underlying34 (hi := ti29) (hS := hS)) ?_
   try simp only [opv, n1, n2, n3, n4, Value.cells, Nat.zero_add, Nat.add_zero, List.getElem_toArray, List.getElem_cons_zero, List.getElem_cons_succ]
   first | refine s_go (m_load_obj Try.underlying29 (hS := hS) (hv := by first | rfl | exact zi_get rfl (by omega) | exact ic_get (by omega) | exact il_get (by omega))) ?_ | refine s_go (m_load_bx Try.underlying29 (hS := hS) (hv := by first | rfl | exact zi_get rfl (by omega) | exact ic_get (by omega) | exact il_get (by omega))) ?_ | refine s_go (m_load_rd Try.underlying29 (hS := hS) (hv := by first | rfl | exact zi_get rfl (by omega) | exact ic_get (by omega) | exact il_get (by omega))) ?_ | refine s_go (m_load_vec Try.underlying29 (hS := hS) (hv := by first | rfl | exact zi_get rfl (by omega) | exact ic_get (by omega) | exact il_get (by omega))) ?_
   try simp only [opv, n1, n2, n3, n4, Value.cells, List.getElem_toArray, List.getElem_cons_zero, List.getElem_cons_succ]
   rw [hkx.e1, hk01.2]
   refine m_buildRow (cells := #[_]) Try.underlying131 ti29 (hc := by simp only [List.map_toArray, List.map_cons, List.map_nil, opv, n1, n2, n3, n4, Value.cells, List.toList_toArray]; (repeat (refine fill_cons rfl rfl (Nat.le_of_ble_eq_true rfl) ?_)); rfl) (hS := hS) (h := fun w9 g9 hS => ?_)
   try simp only [opv, n1, n2, n3, n4, Value.cells, Array.toArray_toList] at hS ⊢
   replace hS := hS.obj_vec (sz := 1) (n := 1) rfl (by decide) .head
   refine m_append_vec Try.underlying131 ti29 (hS := hS) (news := [(kn x 1 : Int)].map (Value.int .u16)) (h := fun w10 A10 C10 hS => ?_)
   try simp only [← List.map_append, ← List.map_drop, ← List.map_take, Nat.mul_one, Nat.zero_mul, Nat.sub_zero, List.drop_zero, List.nil_append, Nat.zero_add] at hS ⊢
   try simp only [opv, n1, n2, n3, n4, Value.cells, Array.toArray_toList] at hS ⊢
   first | refine m_store_obj ti131 (hS := hS) (hc := by first | exact zi_set rfl (by omega) | exact zi_whole (by omega) (by omega) | (first | exact splice_ic (by first | omega | (simp [*]; done) | (simp [*]; omega)) | exact splice_il (by first | omega | (simp [*]; done) | (simp [*]; omega)) | exact splice_whole (by first | (simp [opv, Value.cells, *]; done) | rfl) | (simp only [opv, n1, n2, Value.cells, splice, List.take_succ_cons, List.take_zero, List.drop_succ_cons, List.drop_zero, List.length_cons, List.length_nil, Nat.zero_add, Nat.reduceAdd, List.append_assoc, List.cons_append, List.nil_append]; rfl))) (hv := by first | rfl | (show (zi _ _).toArray.size = _; rw [zi_size (by omega)]; rfl) | (simp [opv, Value.cells, *]; done)) (hfit := by first | omega | (rw [zi_size (by omega)]; first | rfl | decide) | (simp only [ic_size, List.length_map, List.size_toArray]; first | omega | decide) | rfl | (simp [*]; done) | (simp [*]; omega)) (h1 := by first | exact zi_one _ _ | exact ic_one _ _ | simp [opv, Value.cells, Value.oneCell']) (h := fun w11 hS => ?_) | refine m_store_vec ti131 (hS := hS) (hc := by first | exact zi_set rfl (by omega) | exact zi_whole (by omega) (by omega) | (first | exact splice_ic (by first | omega | (simp [*]; done) | (simp [*]; omega)) | exact splice_il (by first | omega | (simp [*]; done) | (simp [*]; omega)) | exact splice_whole (by first | (simp [opv, Value.cells, *]; done) | rfl) | (simp only [opv, n1, n2, Value.cells, splice, List.take_succ_cons, List.take_zero, List.drop_succ_cons, List.drop_zero, List.length_cons, List.length_nil, Nat.zero_add, Nat.reduceAdd, List.append_assoc, List.cons_append, List.nil_append]; rfl))) (hv := by first | rfl | (show (zi _ _).toArray.size = _; rw [zi_size (by omega)]; rfl) | (simp [opv, Value.cells, *]; done)) (hfit := by first | omega | (rw [zi_size (by omega)]; first | rfl | decide) | (simp only [ic_size, List.length_map, List.size_toArray]; first | omega | decide) | rfl | (simp [*]; done) | (simp [*]; omega)) (h1 := by first | exact zi_one _ _ | exact ic_one _ _ | simp [opv, Value.cells, Value.oneCell']) (h := fun w11 hS => ?_)
   try simp only [opv, n1, n2, n3, n4, Value.cells, Array.toArray_toList] at hS ⊢
   refine y_nilf ?_
   first
   | (rw [show (cartsL ((normP l).take k1)).length + 1 = (cartsL ((normP l).take (k1 + 1))).length by rw [hst, List.length_append]; rfl, ← hst] at hS; exact ⟨_, ⟨by omega, _, _, rfl⟩, hS.sel (by repeat (first | exact Sel.self | (refine Sel.cons (by repeat (first | exact Del.head | apply Del.tail)) ?_) | apply Sel.skip))⟩)
   | (rw [← hst] at hS; exact ⟨_, ⟨by omega, _, _, rfl⟩, hS.sel (by repeat (first | exact Sel.self | (refine Sel.cons (by repeat (first | exact Del.head | apply Del.tail)) ?_) | apply Sel.skip))⟩)
  ·
   try simp only [decide_eq_true_eq, decide_eq_false_iff_not, Bool.not_eq_true', Bool.not_eq_false', Int.not_lt, Int.not_le, ne_eq, Decidable.not_not, bne_iff_ne, beq_iff_eq, not_true_eq_false, not_false_eq_true] at hc1
   have hst := hct.2 (by omega)
   refine y_skip ?_
   first
   | (rw [show (cartsL ((normP l).take k1)).length + 1 = (cartsL ((normP l).take (k1 + 1))).length by rw [hst, List.length_append]; rfl, ← hst] at hS; exact ⟨_, ⟨by omega, _, _, rfl⟩, hS.sel (by repeat (first | exact Sel.self | (refine Sel.cons (by repeat (first | exact Del.head | apply Del.tail)) ?_) | apply Sel.skip))⟩)
   | (rw [← hst] at hS; exact ⟨_, ⟨by omega, _, _, rfl⟩, hS.sel (by repeat (first | exact Sel.self | (refine Sel.cons (by repeat (first | exact Del.head | apply Del.tail)) ?_) | apply Sel.skip))⟩)
 case rfd1 =>
  obtain ⟨hk0, Bc, dc, rfl⟩ := hC
  simp only [List.cons_append, List.nil_append] at hS
  refine hK2 _ _ ?_
  refine y_seq fun K5 hK5 => ?_
  refine y_region (by kernel_rfl) ?_
  first | refine s_go (m_load_obj Try.underlying131 (hS := hS) (hv := by first | rfl | exact zi_get rfl (by omega) | exact ic_get (by omega) | exact il_get (by omega))) ?_ | refine s_go (m_load_bx Try.underlying131 (hS := hS) (hv := by first | rfl | exact zi_get rfl (by omega) | exact ic_get (by omega) | exact il_get (by omega))) ?_ | refine s_go (m_load_rd Try.underlying131 (hS := hS) (hv := by first | rfl | exact zi_get rfl (by omega) | exact ic_get (by omega) | exact il_get (by omega))) ?_ | refine s_go (m_load_vec Try.underlying131 (hS := hS) (hv := by first | rfl | exact zi_get rfl (by omega) | exact ic_get (by omega) | exact il_get (by omega))) ?_
  try simp only [opv, n1, n2, n3, n4, Value.cells, List.getElem_toArray, List.getElem_cons_zero, List.getElem_cons_succ]
  first | refine m_store_obj ti131 (hS := hS) (hc := by first | exact zi_set rfl (by omega) | exact zi_whole (by omega) (by omega) | (first | exact splice_ic (by first | omega | (simp [*]; done) | (simp [*]; omega)) | exact splice_il (by first | omega | (simp [*]; done) | (simp [*]; omega)) | exact splice_whole (by first | (simp [opv, Value.cells, *]; done) | rfl) | (simp only [opv, n1, n2, Value.cells, splice, List.take_succ_cons, List.take_zero, List.drop_succ_cons, List.drop_zero, List.length_cons, List.length_nil, Nat.zero_add, Nat.reduceAdd, List.append_assoc, List.cons_append, List.nil_append]; rfl))) (hv := by first | rfl | (show (zi _ _).toArray.size = _; rw [zi_size (by omega)]; rfl) | (simp [opv, Value.cells, *]; done)) (hfit := by first | omega | (rw [zi_size (by omega)]; first | rfl | decide) | (simp only [ic_size, List.length_map, List.size_toArray]; first | omega | decide) | rfl | (simp [*]; done) | (simp [*]; omega)) (h1 := by first | exact zi_one _ _ | exact ic_one _ _ | simp [opv, Value.cells, Value.oneCell']) (h := fun w12 hS => ?_) | refine m_store_vec ti131 (hS := hS) (hc := by first | exact zi_set rfl (by omega) | exact zi_whole (by omega) (by omega) | (first | exact splice_ic (by first | omega | (simp [*]; done) | (simp [*]; omega)) | exact splice_il (by first | omega | (simp [*]; done) | (simp [*]; omega)) | exact splice_whole (by first | (simp [opv, Value.cells, *]; done) | rfl) | (simp only [opv, n1, n2, Value.cells, splice, List.take_succ_cons, List.take_zero, List.drop_succ_cons, List.drop_zero, List.length_cons, List.length_nil, Nat.zero_add, Nat.reduceAdd, List.append_assoc, List.cons_append, List.nil_append]; rfl))) (hv := by first | rfl | (show (zi _ _).toArray.size = _; rw [zi_size (by omega)]; rfl) | (simp [opv, Value.cells, *]; done)) (hfit := by first | omega | (rw [zi_size (by omega)]; first | rfl | decide) | (simp only [ic_size, List.length_map, List.size_toArray]; first | omega | decide) | rfl | (simp [*]; done) | (simp [*]; omega)) (h1 := by first | exact zi_one _ _ | exact ic_one _ _ | simp [opv, Value.cells, Value.oneCell']) (h := fun w12 hS => ?_)
  try simp only [opv, n1, n2, n3, n4, Value.cells, Array.toArray_toList] at hS ⊢
  refine y_nilf ?_
  refine hK5 _ _ ?_
  refine y_ret ?_
  refine rm_mark hS (by repeat (first | exact Upd.head | apply Upd.tail)) (fun w13 hS => ?_)
  refine rm_nil ?_
  refine r_cell_one rfl Try.underlying131 (hS := hS) (hR := ?_)
  rw [List.take_of_length_le (Nat.le_refl _)] at hS ⊢
  exact ⟨_, _, rfl, hS.sel (by repeat (first | exact Sel.nil | (refine Sel.cons (by repeat (first | exact Del.head | apply Del.tail)) ?_)))⟩
 case rft1 =>
  exact hX.elim
 case rfe1 =>
  exact y_ex_nil
theorem c_notePut (w0 : World) (A : Option Addr) (c : Nat) (l : List (List Int)) (hr : Rd w0 A 21 l.length (arows l)) (hv : AOks l) (hn : l.length ≤ 1000000000) (r : Nat) (hr8 : r < 256) (ct : Nat) (hct : ct < 65536) (tx : List Int) (h8 : tx.length = 8) (hbt : Byt tx)  :
    CallR Try.prog 42 #[.slice A l.length c, .int .u8 (r : Int), .int .u16 (ct : Int), .agg (ic .u8 tx)] w0 fun v w' => ∃ A c, v = .tuple #[.slice A (noteP l r tx ct).length c, .int .i64 (noteE l r tx ct)] ∧ St NoB w0 w' [.vec A c 39 21 (noteP l r tx ct).length (arows (noteP l r tx ct))] := by
 have hS := St.rd1 (S := NoB) hr
 have hko := noteK_ok hct
 have hkl := hko.len
 have hXo : ValOk (noteX l r tx ct) := noteX_ok hr8 h8 hbt
 have hXl := hXo.len
 have hAl : (noteA l r tx ct).length = 21 := (noteA_ok hr8 hct h8 hbt).len
 have hNl := noteN_lt l ct
 have hn0l : nm0.length = 8 := rfl
 refine c_enter (l := [.slice A l.length c, .int .u8 (r : Int), .int .u16 (ct : Int), .agg (ic .u8 tx), undef, undef, undef, undef, undef, undef, undef, undef, undef, undef, undef, undef, undef, undef, undef, undef, undef, undef, undef, undef, undef, undef, undef, undef, undef, undef, undef, undef, undef, undef, undef, undef, undef, undef, undef, undef, undef, undef, undef, undef, undef]) Try.func42 rfl (by simp only [Try.ntmps42, List.size_toArray, List.length_cons, List.length_nil, Nat.reduceAdd, Nat.reduceSub, Array.replicate_succ, Array.replicate_zero, List.push_toArray, List.append_toArray, List.nil_append, List.cons_append]) ?_
 refine x_seq fun K1 hK1 => ?_
 refine x_region ?_
 refine m_box hS (fun w1 g1 hS => ?_)
 try simp only [opv, n1, n2, n3, n4, Value.cells, Array.toArray_toList] at hS ⊢
 obtain ⟨gbx, hgbx⟩ : ∃ z, z = g1 := ⟨_, rfl⟩
 rw [← hgbx] at hS ⊢
 refine s_go (s_assign) ?_
 try simp only [opv, n1, n2, n3, n4, Value.cells]
 refine s_go (s_assign) ?_
 try simp only [opv, n1, n2, n3, n4, Value.cells]
 refine x_nil ?_
 refine hK1 _ _ ?_
 refine x_seq fun K2 hK2 => ?_
 refine x_seq fun K3 hK3 => ?_
 refine x_region ?_
 refine s_go (s_move) ?_
 try simp only [opv, n1, n2, n3, n4, Value.cells]
 refine s_go (s_geq) ?_
 try simp only [opv, n1, n2, n3, n4, Value.cells]
 refine s_go (s_move) ?_
 try simp only [opv, n1, n2, n3, n4, Value.cells]
 refine s_part 16 rfl (fun hp1 => ?_) (fun hp1 => ?_)
 ·
  try simp only [n3, n4]
  try simp only [decide_eq_true_eq, decide_eq_false_iff_not, Bool.not_eq_true', Bool.not_eq_false', Int.not_lt, Int.not_le, ne_eq, Decidable.not_not] at hp1
  first
  | (exfalso; omega)
  | skip
    have hE : noteE l r tx ct = 1 := noteE_1 (.inl (by omega))
    refine g_off (yi (t := 16) rfl rfl) ?_
    try simp only [opv, n1, n2, n3, n4, Value.cells]
    refine g_off (yi (t := 16) rfl rfl) ?_
    try simp only [opv, n1, n2, n3, n4, Value.cells]
    refine g_off (yi (t := 16) rfl rfl) ?_
    try simp only [opv, n1, n2, n3, n4, Value.cells]
    refine g_un (yn (t := 19) rfl rfl) ?_
    try simp only [opv, n1, n2, n3, n4, Value.cells]
    refine g_un (yn (t := 19) rfl rfl) ?_
    try simp only [opv, n1, n2, n3, n4, Value.cells]
    refine g_un (yn (t := 19) rfl rfl) ?_
    try simp only [opv, n1, n2, n3, n4, Value.cells]
    refine g_off (yi (t := 16) rfl rfl) ?_
    try simp only [opv, n1, n2, n3, n4, Value.cells]
    first | refine s_go (s_pick_t) ?_ | refine s_go (s_pick_f) ?_
    try simp only [opv, n1, n2, n3, n4, Value.cells]
    refine x_nil ?_
    refine hK3 _ _ ?_
    refine x_cond_t (h := ?_)
    try have hE : noteE l r tx ct = 1 := noteE_1 (.inr ⟨htn, by simpa using @c⟩)
    refine x_seq fun K4 hK4 => ?_
    refine x_region ?_
    refine s_go (s_assign) ?_
    try simp only [opv, n1, n2, n3, n4, Value.cells]
    refine s_go (s_assign) ?_
    try simp only [opv, n1, n2, n3, n4, Value.cells]
    refine x_nil ?_
    refine hK4 _ _ ?_
    refine x_ret ?_
    refine r_tmp2 rfl ?_
    first
    | (rw [noteP_no (by rw [hE]; decide), hE]; replace hS := hS.nil_vec 39 21; exact ⟨none, 0, rfl, hS.sel (by repeat (first | exact Sel.nil | (refine Sel.cons (by repeat (first | exact Del.head | apply Del.tail)) ?_)))⟩)
    | (rw [noteP_yes hE, hE]; exact ⟨_, _, rfl, hS.sel (by repeat (first | exact Sel.nil | (refine Sel.cons (by repeat (first | exact Del.head | apply Del.tail)) ?_)))⟩)
 ·
  try simp only [n3, n4]
  try simp only [decide_eq_true_eq, decide_eq_false_iff_not, Bool.not_eq_true', Bool.not_eq_false', Int.not_lt, Int.not_le, ne_eq, Decidable.not_not] at hp1
  first
  | (exfalso; omega)
  | skip
    refine g_on (yi (t := 16) rfl rfl) ?_
    first | refine s_go (m_load_row Try.underlying31 (hi := ti31) (hS := hS) (hfit := by first | omega | (rw [zi_size (by omega)]; first | rfl | decide) | (simp only [ic_size, List.length_map, List.size_toArray]; first | omega | decide) | rfl | (simp [*]; done) | (simp [*]; omega))) ?_ | refine s_go (m_loada_obj Try.underlying31 (hi := ti31) (hS := hS) (hfit := by first | omega | (rw [zi_size (by omega)]; first | rfl | decide) | (simp only [ic_size, List.length_map, List.size_toArray]; first | omega | decide) | rfl | (simp [*]; done) | (simp [*]; omega))) ?_ | refine s_go (m_loada_bx Try.underlying31 (hi := ti31) (hS := hS) (hfit := by first | omega | (rw [zi_size (by omega)]; first | rfl | decide) | (simp only [ic_size, List.length_map, List.size_toArray]; first | omega | decide) | rfl | (simp [*]; done) | (simp [*]; omega))) ?_ | refine s_go (m_loada_rd Try.underlying31 (hi := ti31) (hS := hS) (hfit := by first | omega | (rw [zi_size (by omega)]; first | rfl | decide) | (simp only [ic_size, List.length_map, List.size_toArray]; first | omega | decide) | rfl | (simp [*]; done) | (simp [*]; omega))) ?_ | refine s_go (m_loada_vec Try.underlying31 (hi := ti31) (hS := hS) (hfit := by first | omega | (rw [zi_size (by omega)]; first | rfl | decide) | (simp only [ic_size, List.length_map, List.size_toArray]; first | omega | decide) | rfl | (simp [*]; done) | (simp [*]; omega))) ?_
    try simp only [opv, n1, n2, n3, n4, Value.cells, List.getElem_toArray, List.getElem_cons_zero, List.getElem_cons_succ]
    refine g_on (yi (t := 16) rfl rfl) ?_
    refine s_call en123 ?_
    try simp only [opv, n1, n2, n3, n4, Value.cells, List.map_toArray, List.map_cons, List.map_nil, List.append_toArray, List.cons_append, List.nil_append, Array.append_empty]
    refine CallR.mono (c_nameSome tx h8 hbt _) ?_
    rintro _ w2 ⟨rfl, hE2⟩
    replace hS := hS.ext hE2
    try simp only [opv, n1, n2, n3, n4, Value.cells]
    refine g_on (yi (t := 16) rfl rfl) ?_
    refine s_go (s_move) ?_
    try simp only [opv, n1, n2, n3, n4, Value.cells]
    refine s_part 19 rfl (fun hp2 => ?_) (fun hp2 => ?_)
    ·
     try simp only [n3, n4]
     try simp only [decide_eq_true_eq, decide_eq_false_iff_not, Bool.not_eq_true', Bool.not_eq_false', Int.not_lt, Int.not_le, ne_eq, Decidable.not_not] at hp2
     first
     | (exfalso; omega)
     | skip
       have htn : ¬ tx = nm0 := by simpa using hp2
       refine g_on (yi (t := 19) rfl rfl) ?_
       first | refine s_go (m_load_row Try.underlying31 (hi := ti31) (hS := hS) (hfit := by first | omega | (rw [zi_size (by omega)]; first | rfl | decide) | (simp only [ic_size, List.length_map, List.size_toArray]; first | omega | decide) | rfl | (simp [*]; done) | (simp [*]; omega))) ?_ | refine s_go (m_loada_obj Try.underlying31 (hi := ti31) (hS := hS) (hfit := by first | omega | (rw [zi_size (by omega)]; first | rfl | decide) | (simp only [ic_size, List.length_map, List.size_toArray]; first | omega | decide) | rfl | (simp [*]; done) | (simp [*]; omega))) ?_ | refine s_go (m_loada_bx Try.underlying31 (hi := ti31) (hS := hS) (hfit := by first | omega | (rw [zi_size (by omega)]; first | rfl | decide) | (simp only [ic_size, List.length_map, List.size_toArray]; first | omega | decide) | rfl | (simp [*]; done) | (simp [*]; omega))) ?_ | refine s_go (m_loada_rd Try.underlying31 (hi := ti31) (hS := hS) (hfit := by first | omega | (rw [zi_size (by omega)]; first | rfl | decide) | (simp only [ic_size, List.length_map, List.size_toArray]; first | omega | decide) | rfl | (simp [*]; done) | (simp [*]; omega))) ?_ | refine s_go (m_loada_vec Try.underlying31 (hi := ti31) (hS := hS) (hfit := by first | omega | (rw [zi_size (by omega)]; first | rfl | decide) | (simp only [ic_size, List.length_map, List.size_toArray]; first | omega | decide) | rfl | (simp [*]; done) | (simp [*]; omega))) ?_
       try simp only [opv, n1, n2, n3, n4, Value.cells, List.getElem_toArray, List.getElem_cons_zero, List.getElem_cons_succ]
       refine g_on (yi (t := 19) rfl rfl) ?_
       refine s_call en124 ?_
       try simp only [opv, n1, n2, n3, n4, Value.cells, List.map_toArray, List.map_cons, List.map_nil, List.append_toArray, List.cons_append, List.nil_append, Array.append_empty]
       refine CallR.mono (c_nameRight tx h8 hbt _) ?_
       rintro _ w3 ⟨rfl, hE3⟩
       replace hS := hS.ext hE3
       try simp only [opv, n1, n2, n3, n4, Value.cells]
       refine g_on (yi (t := 19) rfl rfl) ?_
       refine s_go (s_not) ?_
       try simp only [opv, n1, n2, n3, n4, Value.cells]
       refine g_on (yi (t := 16) rfl rfl) ?_
       first | refine s_go (s_pick_t) ?_ | refine s_go (s_pick_f) ?_
       try simp only [opv, n1, n2, n3, n4, Value.cells]
       first | refine s_go (s_pick_t) ?_ | refine s_go (s_pick_f) ?_
       try simp only [opv, n1, n2, n3, n4, Value.cells]
       refine x_nil ?_
       refine hK3 _ _ ?_
       refine x_cond (ht := fun hc2 => ?_) (hf := fun hc2 => ?_)
       ·
        try simp only [decide_eq_true_eq, decide_eq_false_iff_not, Bool.not_eq_true', Bool.not_eq_false', Int.not_lt, Int.not_le, ne_eq, Decidable.not_not, bne_iff_ne, beq_iff_eq, not_true_eq_false, not_false_eq_true] at hc2
        first
        | (exfalso; omega)
        | skip
          try have hE : noteE l r tx ct = 1 := noteE_1 (.inr ⟨htn, by simpa using hc2⟩)
          refine x_seq fun K5 hK5 => ?_
          refine x_region ?_
          refine s_go (s_assign) ?_
          try simp only [opv, n1, n2, n3, n4, Value.cells]
          refine s_go (s_assign) ?_
          try simp only [opv, n1, n2, n3, n4, Value.cells]
          refine x_nil ?_
          refine hK5 _ _ ?_
          refine x_ret ?_
          refine r_tmp2 rfl ?_
          first
          | (rw [noteP_no (by rw [hE]; decide), hE]; replace hS := hS.nil_vec 39 21; exact ⟨none, 0, rfl, hS.sel (by repeat (first | exact Sel.nil | (refine Sel.cons (by repeat (first | exact Del.head | apply Del.tail)) ?_)))⟩)
          | (rw [noteP_yes hE, hE]; exact ⟨_, _, rfl, hS.sel (by repeat (first | exact Sel.nil | (refine Sel.cons (by repeat (first | exact Del.head | apply Del.tail)) ?_)))⟩)
       ·
        try simp only [decide_eq_true_eq, decide_eq_false_iff_not, Bool.not_eq_true', Bool.not_eq_false', Int.not_lt, Int.not_le, ne_eq, Decidable.not_not, bne_iff_ne, beq_iff_eq, not_true_eq_false, not_false_eq_true] at hc2
        first
        | (exfalso; omega)
        | skip
          try have hok : ¬ (16 ≤ r ∨ (¬ tx = nm0 ∧ nright tx = false)) := fun h => h.elim (fun h => by omega) (fun h => by have h2 := h.2; simp [h2] at hc2)
          refine x_skip ?_
          refine hK2 _ _ ?_
          refine x_seq fun K6 hK6 => ?_
          refine x_region ?_
          refine s_go (s_move) ?_
          try simp only [opv, n1, n2, n3, n4, Value.cells]
          refine s_go (s_move) ?_
          try simp only [opv, n1, n2, n3, n4, Value.cells]
          refine s_call en43 ?_
          try simp only [opv, n1, n2, n3, n4, Value.cells, List.map_toArray, List.map_cons, List.map_nil, List.append_toArray, List.cons_append, List.nil_append, Array.append_empty]
          refine CallR.mono (c_noteGet _ A c l (hS.hasRd (by repeat (first | exact Has.head | apply Has.tail))) hv hn ct hct) ?_
          rintro _ w4 ⟨rfl, hE4⟩
          replace hS := hS.ext hE4
          try simp only [opv, n1, n2, n3, n4, Value.cells]
          refine s_go (s_move) ?_
          try simp only [opv, n1, n2, n3, n4, Value.cells]
          refine s_go (s_extract (hv := rfl)) ?_
          try simp only [List.getElem_toArray, List.getElem_cons_zero, List.getElem_cons_succ]
          try simp only [opv, n1, n2, n3, n4, Value.cells]
          refine s_go (s_extract (hv := rfl)) ?_
          try simp only [List.getElem_toArray, List.getElem_cons_zero, List.getElem_cons_succ]
          try simp only [opv, n1, n2, n3, n4, Value.cells]
          refine s_go (s_extract (hv := rfl)) ?_
          try simp only [List.getElem_toArray, List.getElem_cons_zero, List.getElem_cons_succ]
          try simp only [opv, n1, n2, n3, n4, Value.cells]
          have htl : (noteT l ct).length = 8 := vtext_len ((fndD_ok (k := noteK ct) (norm_sta hv).ok).len)
          refine m_alloc ti31 hS (fun w5 g5 hS => ?_)
          try simp only [opv, n1, n2, n3, n4, Value.cells, Array.toArray_toList] at hS ⊢
          replace hS : St _ _ w5 (.obj g5 (.cells (ic .u8 nm0) 31 (0, 0)) :: _) := hS
          first | refine m_store_obj ti31 (hS := hS) (hc := by first | exact zi_set rfl (by omega) | exact zi_whole (by omega) (by omega) | (first | exact splice_ic (by first | omega | (simp [*]; done) | (simp [*]; omega)) | exact splice_il (by first | omega | (simp [*]; done) | (simp [*]; omega)) | exact splice_whole (by first | (simp [opv, Value.cells, *]; done) | rfl) | (simp only [opv, n1, n2, Value.cells, splice, List.take_succ_cons, List.take_zero, List.drop_succ_cons, List.drop_zero, List.length_cons, List.length_nil, Nat.zero_add, Nat.reduceAdd, List.append_assoc, List.cons_append, List.nil_append]; rfl))) (hv := by first | rfl | (show (zi _ _).toArray.size = _; rw [zi_size (by omega)]; rfl) | (simp [opv, Value.cells, *]; done)) (hfit := by first | omega | (rw [zi_size (by omega)]; first | rfl | decide) | (simp only [ic_size, List.length_map, List.size_toArray]; first | omega | decide) | rfl | (simp [*]; done) | (simp [*]; omega)) (h1 := by first | exact zi_one _ _ | exact ic_one _ _ | simp [opv, Value.cells, Value.oneCell']) (h := fun w6 hS => ?_) | refine m_store_vec ti31 (hS := hS) (hc := by first | exact zi_set rfl (by omega) | exact zi_whole (by omega) (by omega) | (first | exact splice_ic (by first | omega | (simp [*]; done) | (simp [*]; omega)) | exact splice_il (by first | omega | (simp [*]; done) | (simp [*]; omega)) | exact splice_whole (by first | (simp [opv, Value.cells, *]; done) | rfl) | (simp only [opv, n1, n2, Value.cells, splice, List.take_succ_cons, List.take_zero, List.drop_succ_cons, List.drop_zero, List.length_cons, List.length_nil, Nat.zero_add, Nat.reduceAdd, List.append_assoc, List.cons_append, List.nil_append]; rfl))) (hv := by first | rfl | (show (zi _ _).toArray.size = _; rw [zi_size (by omega)]; rfl) | (simp [opv, Value.cells, *]; done)) (hfit := by first | omega | (rw [zi_size (by omega)]; first | rfl | decide) | (simp only [ic_size, List.length_map, List.size_toArray]; first | omega | decide) | rfl | (simp [*]; done) | (simp [*]; omega)) (h1 := by first | exact zi_one _ _ | exact ic_one _ _ | simp [opv, Value.cells, Value.oneCell']) (h := fun w6 hS => ?_)
          try simp only [opv, n1, n2, n3, n4, Value.cells, Array.toArray_toList] at hS ⊢
          refine s_go (s_assign) ?_
          try simp only [opv, n1, n2, n3, n4, Value.cells]
          refine s_go (s_assign) ?_
          try simp only [opv, n1, n2, n3, n4, Value.cells]
          refine x_nil ?_
          refine hK6 _ _ ?_
          refine x_seq fun K7 hK7 => ?_
          refine x_seq fun K8 hK8 => ?_
          refine x_region ?_
          refine s_go (s_move) ?_
          try simp only [opv, n1, n2, n3, n4, Value.cells]
          refine s_go (s_eql) ?_
          try simp only [opv, n1, n2, n3, n4, Value.cells]
          refine x_nil ?_
          refine hK8 _ _ ?_
          refine x_cond (ht := fun hc3 => ?_) (hf := fun hc3 => ?_)
          ·
           try simp only [decide_eq_true_eq, decide_eq_false_iff_not, Bool.not_eq_true', Bool.not_eq_false', Int.not_lt, Int.not_le, ne_eq, Decidable.not_not, bne_iff_ne, beq_iff_eq, not_true_eq_false, not_false_eq_true] at hc3
           first
           | (exfalso; omega)
           | skip
             have hE : noteE l r tx ct = 8 := noteE_8 hok (by omega)
             refine x_seq fun K9 hK9 => ?_
             refine x_region ?_
             refine s_go (s_assign) ?_
             try simp only [opv, n1, n2, n3, n4, Value.cells]
             refine s_go (s_assign) ?_
             try simp only [opv, n1, n2, n3, n4, Value.cells]
             refine x_nil ?_
             refine hK9 _ _ ?_
             refine x_ret ?_
             refine r_tmp2 rfl ?_
             first
             | (rw [noteP_no (by rw [hE]; decide), hE]; replace hS := hS.nil_vec 39 21; exact ⟨none, 0, rfl, hS.sel (by repeat (first | exact Sel.nil | (refine Sel.cons (by repeat (first | exact Del.head | apply Del.tail)) ?_)))⟩)
             | (rw [noteP_yes hE, hE]; exact ⟨_, _, rfl, hS.sel (by repeat (first | exact Sel.nil | (refine Sel.cons (by repeat (first | exact Del.head | apply Del.tail)) ?_)))⟩)
          ·
           try simp only [decide_eq_true_eq, decide_eq_false_iff_not, Bool.not_eq_true', Bool.not_eq_false', Int.not_lt, Int.not_le, ne_eq, Decidable.not_not, bne_iff_ne, beq_iff_eq, not_true_eq_false, not_false_eq_true] at hc3
           first
           | (exfalso; omega)
           | skip
             have hE : noteE l r tx ct = 0 := noteE_0 hok (by omega)
             refine x_skip ?_
             refine hK7 _ _ ?_
             refine x_seq fun K10 hK10 => ?_
             refine x_region ?_
             refine s_go (s_move) ?_
             try simp only [opv, n1, n2, n3, n4, Value.cells]
             refine s_go (s_build_struct (cells := #[_, _, .int .u8 0, .int .u8 0, .int .u8 0, .int .u8 0, .int .u8 0, .int .u8 0, .int .u8 0, .int .u8 0, .int .u8 0, .int .u32 0]) Try.underlying34 ti34 bp34 (hc := by simp only [List.map_toArray, List.map_cons, List.map_nil, opv, n1, n2, n3, n4, Value.cells, List.toList_toArray]; (repeat (refine fill_cons rfl rfl (Nat.le_of_ble_eq_true rfl) ?_)); rfl)) ?_
             try simp only [opv, n1, n2, n3, n4, Value.cells]
             rw [show (#[.int .u8 4, .int .u16 (ct : Int), .int .u8 0, .int .u8 0, .int .u8 0, .int .u8 0, .int .u8 0, .int .u8 0, .int .u8 0, .int .u8 0, .int .u8 0, .int .u32 0] : Array Value) = KA (noteK ct) from rfl]
             refine m_alloc ti34 hS (fun w7 g7 hS => ?_)
             try simp only [opv, n1, n2, n3, n4, Value.cells, Array.toArray_toList] at hS ⊢
             have h0l : key0.length = 12 := rfl
             replace hS : St _ _ w7 (.obj g7 (.cells (KA key0) 34 (0, 0)) :: _) := hS
             obtain ⟨gkk, hgkk⟩ : ∃ z, z = g7 := ⟨_, rfl⟩
             rw [← hgkk] at hS ⊢
             first | refine m_store_obj ti34 (hS := hS) (hc := by first | exact zi_set rfl (by omega) | exact zi_whole (by omega) (by omega) | (first | exact splice_ic (by first | omega | (simp [*]; done) | (simp [*]; omega)) | exact splice_il (by first | omega | (simp [*]; done) | (simp [*]; omega)) | exact splice_whole (by first | (simp [opv, Value.cells, *]; done) | rfl) | (simp only [opv, n1, n2, Value.cells, splice, List.take_succ_cons, List.take_zero, List.drop_succ_cons, List.drop_zero, List.length_cons, List.length_nil, Nat.zero_add, Nat.reduceAdd, List.append_assoc, List.cons_append, List.nil_append]; rfl))) (hv := by first | rfl | (show (zi _ _).toArray.size = _; rw [zi_size (by omega)]; rfl) | (simp [opv, Value.cells, *]; done)) (hfit := by first | omega | (rw [zi_size (by omega)]; first | rfl | decide) | (simp only [ic_size, List.length_map, List.size_toArray]; first | omega | decide) | rfl | (simp [*]; done) | (simp [*]; omega)) (h1 := by first | exact zi_one _ _ | exact ic_one _ _ | simp [opv, Value.cells, Value.oneCell']) (h := fun w8 hS => ?_) | refine m_store_vec ti34 (hS := hS) (hc := by first | exact zi_set rfl (by omega) | exact zi_whole (by omega) (by omega) | (first | exact splice_ic (by first | omega | (simp [*]; done) | (simp [*]; omega)) | exact splice_il (by first | omega | (simp [*]; done) | (simp [*]; omega)) | exact splice_whole (by first | (simp [opv, Value.cells, *]; done) | rfl) | (simp only [opv, n1, n2, Value.cells, splice, List.take_succ_cons, List.take_zero, List.drop_succ_cons, List.drop_zero, List.length_cons, List.length_nil, Nat.zero_add, Nat.reduceAdd, List.append_assoc, List.cons_append, List.nil_append]; rfl))) (hv := by first | rfl | (show (zi _ _).toArray.size = _; rw [zi_size (by omega)]; rfl) | (simp [opv, Value.cells, *]; done)) (hfit := by first | omega | (rw [zi_size (by omega)]; first | rfl | decide) | (simp only [ic_size, List.length_map, List.size_toArray]; first | omega | decide) | rfl | (simp [*]; done) | (simp [*]; omega)) (h1 := by first | exact zi_one _ _ | exact ic_one _ _ | simp [opv, Value.cells, Value.oneCell']) (h := fun w8 hS => ?_)
             try simp only [opv, n1, n2, n3, n4, Value.cells, Array.toArray_toList] at hS ⊢
             refine x_nil ?_
             refine hK10 _ _ ?_
             refine x_seq fun K11 hK11 => ?_
             refine x_mixed_c (Lc := [.obj gkk (.cells (KA (noteK ct)) 34 (0, 0)), .obj gbx (.cells (ic .u8 tx) 31 (0, 0))]) [] 0 [8, 9, 36, 37, 38, 39, 40, 41, 42, 43, 44] (fun f w => ∃ gz : Nat, f 8 = .slice (some ⟨gz, 0, none⟩) 1 1 ∧ f 9 = .int .i64 0 ∧ St NoB w0 w [.vec (some ⟨gz, 0, none⟩) 1 39 21 1 (arows [(noteA l r tx ct)])]) (by kernel_rfl) (by kernel_rfl) (by kernel_rfl) (by decide) hS (fun w9 hS => ?mixpre701) ?mixrest701
             case mixpre701 =>
              refine p_nil ?_
              simp only [List.length_cons, List.length_nil, Nat.reduceAdd, Nat.reduceSub]
              first | refine any_go (i := 0) (by rfl) (by decide +kernel) (by decide +kernel) noLate_nil (go_yields w_none (fun w hS => m_load_row Try.underlying34 (hi := ti34) (hS := hS) (hfit := by first | omega | (rw [zi_size (by omega)]; first | rfl | decide) | (simp only [ic_size, List.length_map, List.size_toArray]; first | omega | decide) | rfl | (simp [*]; done) | (simp [*]; omega)))) ?_ | refine any_go (i := 0) (by rfl) (by decide +kernel) (by decide +kernel) noLate_nil (go_yields w_none (fun w hS => m_loada_obj Try.underlying34 (hi := ti34) (hS := hS) (hfit := by first | omega | (rw [zi_size (by omega)]; first | rfl | decide) | (simp only [ic_size, List.length_map, List.size_toArray]; first | omega | decide) | rfl | (simp [*]; done) | (simp [*]; omega)))) ?_ | refine any_go (i := 0) (by rfl) (by decide +kernel) (by decide +kernel) noLate_nil (go_yields w_none (fun w hS => m_loada_bx Try.underlying34 (hi := ti34) (hS := hS) (hfit := by first | omega | (rw [zi_size (by omega)]; first | rfl | decide) | (simp only [ic_size, List.length_map, List.size_toArray]; first | omega | decide) | rfl | (simp [*]; done) | (simp [*]; omega)))) ?_ | refine any_go (i := 0) (by rfl) (by decide +kernel) (by decide +kernel) noLate_nil (go_yields w_none (fun w hS => m_loada_rd Try.underlying34 (hi := ti34) (hS := hS) (hfit := by first | omega | (rw [zi_size (by omega)]; first | rfl | decide) | (simp only [ic_size, List.length_map, List.size_toArray]; first | omega | decide) | rfl | (simp [*]; done) | (simp [*]; omega)))) ?_ | refine any_go (i := 0) (by rfl) (by decide +kernel) (by decide +kernel) noLate_nil (go_yields w_none (fun w hS => m_loada_vec Try.underlying34 (hi := ti34) (hS := hS) (hfit := by first | omega | (rw [zi_size (by omega)]; first | rfl | decide) | (simp only [ic_size, List.length_map, List.size_toArray]; first | omega | decide) | rfl | (simp [*]; done) | (simp [*]; omega)))) ?_
              try simp only [opv, n1, n2, n3, n4, Value.cells, List.getElem_toArray, List.getElem_cons_zero, List.getElem_cons_succ]
              refine any_go (i := 1) (by rfl) (by decide +kernel) (by decide +kernel) noLate_nil (go_yields w_none (fun w hS => s_move)) ?_
              try simp only [opv, n1, n2, n3, n4, Value.cells]
              refine any_go (i := 2) (by rfl) (by decide +kernel) (by decide +kernel) noLate_nil (go_yields w_none (fun w hS => s_add (hc := wr_u32 (by omega) (by omega)))) ?_
              try simp only [opv, n1, n2, n3, n4, Value.cells]
              rw [show ((noteN l ct : Nat) : Int) + 1 = ((noteN l ct + 1 : Nat) : Int) by omega]
              refine any_go (i := 3) (by rfl) (by decide +kernel) (by decide +kernel) noLate_nil (go_yields w_none (fun w hS => s_move)) ?_
              try simp only [opv, n1, n2, n3, n4, Value.cells]
              apply any_go (i := 4) (by rfl) (by decide +kernel) (by decide +kernel) noLate_nil (call_yields w_none en125 ?H1) ?K1
              case H1 =>
                intro w hS
                try simp only [opv, n1, n2, n3, n4, List.map_toArray, List.map_cons, List.map_nil, List.append_toArray, List.cons_append, List.nil_append, Array.append_empty]
                refine CallR.mono (c_atomStamp (noteN l ct + 1) r (by omega) hr8 _) ?_
                rintro _ w1 ⟨rfl, hE⟩; exact ⟨rfl, hE⟩
              try simp only [opv, n1, n2, n3, n4, Value.cells]
              first | refine any_go (i := 5) (by rfl) (by decide +kernel) (by decide +kernel) noLate_nil (go_yields w_none (fun w hS => m_load_row Try.underlying31 (hi := ti31) (hS := hS) (hfit := by first | omega | (rw [zi_size (by omega)]; first | rfl | decide) | (simp only [ic_size, List.length_map, List.size_toArray]; first | omega | decide) | rfl | (simp [*]; done) | (simp [*]; omega)))) ?_ | refine any_go (i := 5) (by rfl) (by decide +kernel) (by decide +kernel) noLate_nil (go_yields w_none (fun w hS => m_loada_obj Try.underlying31 (hi := ti31) (hS := hS) (hfit := by first | omega | (rw [zi_size (by omega)]; first | rfl | decide) | (simp only [ic_size, List.length_map, List.size_toArray]; first | omega | decide) | rfl | (simp [*]; done) | (simp [*]; omega)))) ?_ | refine any_go (i := 5) (by rfl) (by decide +kernel) (by decide +kernel) noLate_nil (go_yields w_none (fun w hS => m_loada_bx Try.underlying31 (hi := ti31) (hS := hS) (hfit := by first | omega | (rw [zi_size (by omega)]; first | rfl | decide) | (simp only [ic_size, List.length_map, List.size_toArray]; first | omega | decide) | rfl | (simp [*]; done) | (simp [*]; omega)))) ?_ | refine any_go (i := 5) (by rfl) (by decide +kernel) (by decide +kernel) noLate_nil (go_yields w_none (fun w hS => m_loada_rd Try.underlying31 (hi := ti31) (hS := hS) (hfit := by first | omega | (rw [zi_size (by omega)]; first | rfl | decide) | (simp only [ic_size, List.length_map, List.size_toArray]; first | omega | decide) | rfl | (simp [*]; done) | (simp [*]; omega)))) ?_ | refine any_go (i := 5) (by rfl) (by decide +kernel) (by decide +kernel) noLate_nil (go_yields w_none (fun w hS => m_loada_vec Try.underlying31 (hi := ti31) (hS := hS) (hfit := by first | omega | (rw [zi_size (by omega)]; first | rfl | decide) | (simp only [ic_size, List.length_map, List.size_toArray]; first | omega | decide) | rfl | (simp [*]; done) | (simp [*]; omega)))) ?_
              try simp only [opv, n1, n2, n3, n4, Value.cells, List.getElem_toArray, List.getElem_cons_zero, List.getElem_cons_succ]
              refine any_go (i := 6) (by rfl) (by decide +kernel) (by decide +kernel) noLate_nil (go_yields w_none (fun w hS => s_build_struct (cells := (VA (noteX l r tx ct))) Try.underlying37 ti37 bp37 (hc := by simp only [List.map_toArray, List.map_cons, List.map_nil, opv, n1, n2, n3, n4, Value.cells, List.toList_toArray]; exact fill_val (by rfl) (by rfl) (by rfl) h8))) ?_
              try simp only [opv, n1, n2, n3, n4, Value.cells]
              refine any_go (i := 7) (by rfl) (by decide +kernel) (by decide +kernel) noLate_nil (go_yields w_none (fun w hS => s_build_struct (cells := (AA (noteA l r tx ct))) Try.underlying39 ti39 bp39 (hc := by simp only [List.map_toArray, List.map_cons, List.map_nil, opv, n1, n2, n3, n4, Value.cells, List.toList_toArray]; exact fill_atom (by rfl) (by rfl) (by rfl) hkl hXl))) ?_
              try simp only [opv, n1, n2, n3, n4, Value.cells]
              refine any_step [8] (by kernel_rfl) (by decide) (fun w10 hE => ⟨fun _ => (hS.ext hE).sel (by repeat (first | exact Sel.nil | (refine Sel.cons (by repeat (first | exact Del.head | apply Del.tail)) ?_))), ?_⟩)
              replace hS := hS.ext hE
              intro i hi
              simp only [List.mem_cons, List.not_mem_nil, or_false] at hi
              subst hi
              ·
               refine any_op (by rfl) ?_
               refine m_buildRow (cells := (AA (noteA l r tx ct))) Try.underlying24 ti39 (hc := by simp only [List.map_toArray, List.map_cons, List.map_nil, opv, n1, n2, n3, n4, Value.cells, List.toList_toArray]; exact fill_one (by rfl) (zi_size21 hAl) (by rfl)) (hS := hS) (h := fun w11 g11 hS => ?_)
               try simp only [opv, n1, n2, n3, n4, Value.cells, Array.toArray_toList] at hS ⊢
               replace hS := hS.obj_vec (sz := 21) (n := 1) (by exact zi_size21 hAl) (by decide) .head
               rw [arow_one hAl] at hS
               refine x_nil ?_
               refine any_go (i := 9) (by rfl) (by decide +kernel) (by decide +kernel) noLate_nil (go_yields w_none (fun w hS => s_assign)) ?_
               try simp only [opv, n1, n2, n3, n4, Value.cells]
               refine any_go (i := 10) (by rfl) (by decide +kernel) (by decide +kernel) noLate_nil (go_yields w_none (fun w hS => s_assign)) ?_
               try simp only [opv, n1, n2, n3, n4, Value.cells]
               refine any_nil (by kernel_rfl) (fun w12 hE => ?_)
               replace hS := hS.ext hE
               refine ⟨fun _ => hS.sel (by repeat (first | exact Sel.nil | (refine Sel.cons (by repeat (first | exact Del.head | apply Del.tail)) ?_))), ?_⟩
               refine mix_leaf (by simp only [clob, List.foldl, n1, n2, n3, n4]) ?_
               try simp only [n1, n2]
               exact ⟨_, by first | trivial | rfl, by first | trivial | rfl, hS.sel (by repeat (first | exact Sel.nil | (refine Sel.cons (by repeat (first | exact Del.head | apply Del.tail)) ?_)))⟩
             intro fm1 w13 hM
             obtain ⟨gz, h8, h9, hS⟩ := hM
             simp only [clob, List.foldl, n3, n4, h8, h9]
             refine hK11 _ _ ?_
             refine x_ret ?_
             refine r_tmp2 rfl ?_
             first
             | (rw [noteP_no (by rw [hE]; decide), hE]; replace hS := hS.nil_vec 39 21; exact ⟨none, 0, rfl, hS.sel (by repeat (first | exact Sel.nil | (refine Sel.cons (by repeat (first | exact Del.head | apply Del.tail)) ?_)))⟩)
             | (rw [noteP_yes hE, hE]; exact ⟨_, _, rfl, hS.sel (by repeat (first | exact Sel.nil | (refine Sel.cons (by repeat (first | exact Del.head | apply Del.tail)) ?_)))⟩)
    ·
     try simp only [n3, n4]
     try simp only [decide_eq_true_eq, decide_eq_false_iff_not, Bool.not_eq_true', Bool.not_eq_false', Int.not_lt, Int.not_le, ne_eq, Decidable.not_not] at hp2
     first
     | (exfalso; omega)
     | skip
       have htn : tx = nm0 := by simpa using hp2
       have hok : ¬ (16 ≤ r ∨ (¬ tx = nm0 ∧ nright tx = false)) := fun h => h.elim (fun h => by omega) (fun h => h.1 htn)
       refine g_off (yi (t := 19) rfl rfl) ?_
       try simp only [opv, n1, n2, n3, n4, Value.cells]
       refine g_off (yi (t := 19) rfl rfl) ?_
       try simp only [opv, n1, n2, n3, n4, Value.cells]
       refine g_off (yi (t := 19) rfl rfl) ?_
       try simp only [opv, n1, n2, n3, n4, Value.cells]
       refine g_on (yi (t := 16) rfl rfl) ?_
       first | refine s_go (s_pick_t) ?_ | refine s_go (s_pick_f) ?_
       try simp only [opv, n1, n2, n3, n4, Value.cells]
       first | refine s_go (s_pick_t) ?_ | refine s_go (s_pick_f) ?_
       try simp only [opv, n1, n2, n3, n4, Value.cells]
       refine x_nil ?_
       refine hK3 _ _ ?_
       refine x_cond_f (h := ?_)
       try have hok : ¬ (16 ≤ r ∨ (¬ tx = nm0 ∧ nright tx = false)) := fun h => h.elim (fun h => by omega) (fun h => by have h2 := h.2; simp [h2] at @c)
       refine x_skip ?_
       refine hK2 _ _ ?_
       refine x_seq fun K12 hK12 => ?_
       refine x_region ?_
       refine s_go (s_move) ?_
       try simp only [opv, n1, n2, n3, n4, Value.cells]
       refine s_go (s_move) ?_
       try simp only [opv, n1, n2, n3, n4, Value.cells]
       refine s_call en43 ?_
       try simp only [opv, n1, n2, n3, n4, Value.cells, List.map_toArray, List.map_cons, List.map_nil, List.append_toArray, List.cons_append, List.nil_append, Array.append_empty]
       refine CallR.mono (c_noteGet _ A c l (hS.hasRd (by repeat (first | exact Has.head | apply Has.tail))) hv hn ct hct) ?_
       rintro _ w14 ⟨rfl, hE14⟩
       replace hS := hS.ext hE14
       try simp only [opv, n1, n2, n3, n4, Value.cells]
       refine s_go (s_move) ?_
       try simp only [opv, n1, n2, n3, n4, Value.cells]
       refine s_go (s_extract (hv := rfl)) ?_
       try simp only [List.getElem_toArray, List.getElem_cons_zero, List.getElem_cons_succ]
       try simp only [opv, n1, n2, n3, n4, Value.cells]
       refine s_go (s_extract (hv := rfl)) ?_
       try simp only [List.getElem_toArray, List.getElem_cons_zero, List.getElem_cons_succ]
       try simp only [opv, n1, n2, n3, n4, Value.cells]
       refine s_go (s_extract (hv := rfl)) ?_
       try simp only [List.getElem_toArray, List.getElem_cons_zero, List.getElem_cons_succ]
       try simp only [opv, n1, n2, n3, n4, Value.cells]
       have htl : (noteT l ct).length = 8 := vtext_len ((fndD_ok (k := noteK ct) (norm_sta hv).ok).len)
       refine m_alloc ti31 hS (fun w15 g15 hS => ?_)
       try simp only [opv, n1, n2, n3, n4, Value.cells, Array.toArray_toList] at hS ⊢
       replace hS : St _ _ w15 (.obj g15 (.cells (ic .u8 nm0) 31 (0, 0)) :: _) := hS
       first | refine m_store_obj ti31 (hS := hS) (hc := by first | exact zi_set rfl (by omega) | exact zi_whole (by omega) (by omega) | (first | exact splice_ic (by first | omega | (simp [*]; done) | (simp [*]; omega)) | exact splice_il (by first | omega | (simp [*]; done) | (simp [*]; omega)) | exact splice_whole (by first | (simp [opv, Value.cells, *]; done) | rfl) | (simp only [opv, n1, n2, Value.cells, splice, List.take_succ_cons, List.take_zero, List.drop_succ_cons, List.drop_zero, List.length_cons, List.length_nil, Nat.zero_add, Nat.reduceAdd, List.append_assoc, List.cons_append, List.nil_append]; rfl))) (hv := by first | rfl | (show (zi _ _).toArray.size = _; rw [zi_size (by omega)]; rfl) | (simp [opv, Value.cells, *]; done)) (hfit := by first | omega | (rw [zi_size (by omega)]; first | rfl | decide) | (simp only [ic_size, List.length_map, List.size_toArray]; first | omega | decide) | rfl | (simp [*]; done) | (simp [*]; omega)) (h1 := by first | exact zi_one _ _ | exact ic_one _ _ | simp [opv, Value.cells, Value.oneCell']) (h := fun w16 hS => ?_) | refine m_store_vec ti31 (hS := hS) (hc := by first | exact zi_set rfl (by omega) | exact zi_whole (by omega) (by omega) | (first | exact splice_ic (by first | omega | (simp [*]; done) | (simp [*]; omega)) | exact splice_il (by first | omega | (simp [*]; done) | (simp [*]; omega)) | exact splice_whole (by first | (simp [opv, Value.cells, *]; done) | rfl) | (simp only [opv, n1, n2, Value.cells, splice, List.take_succ_cons, List.take_zero, List.drop_succ_cons, List.drop_zero, List.length_cons, List.length_nil, Nat.zero_add, Nat.reduceAdd, List.append_assoc, List.cons_append, List.nil_append]; rfl))) (hv := by first | rfl | (show (zi _ _).toArray.size = _; rw [zi_size (by omega)]; rfl) | (simp [opv, Value.cells, *]; done)) (hfit := by first | omega | (rw [zi_size (by omega)]; first | rfl | decide) | (simp only [ic_size, List.length_map, List.size_toArray]; first | omega | decide) | rfl | (simp [*]; done) | (simp [*]; omega)) (h1 := by first | exact zi_one _ _ | exact ic_one _ _ | simp [opv, Value.cells, Value.oneCell']) (h := fun w16 hS => ?_)
       try simp only [opv, n1, n2, n3, n4, Value.cells, Array.toArray_toList] at hS ⊢
       refine s_go (s_assign) ?_
       try simp only [opv, n1, n2, n3, n4, Value.cells]
       refine s_go (s_assign) ?_
       try simp only [opv, n1, n2, n3, n4, Value.cells]
       refine x_nil ?_
       refine hK12 _ _ ?_
       refine x_seq fun K13 hK13 => ?_
       refine x_seq fun K14 hK14 => ?_
       refine x_region ?_
       refine s_go (s_move) ?_
       try simp only [opv, n1, n2, n3, n4, Value.cells]
       refine s_go (s_eql) ?_
       try simp only [opv, n1, n2, n3, n4, Value.cells]
       refine x_nil ?_
       refine hK14 _ _ ?_
       refine x_cond (ht := fun hc5 => ?_) (hf := fun hc5 => ?_)
       ·
        try simp only [decide_eq_true_eq, decide_eq_false_iff_not, Bool.not_eq_true', Bool.not_eq_false', Int.not_lt, Int.not_le, ne_eq, Decidable.not_not, bne_iff_ne, beq_iff_eq, not_true_eq_false, not_false_eq_true] at hc5
        first
        | (exfalso; omega)
        | skip
          have hE : noteE l r tx ct = 8 := noteE_8 hok (by omega)
          refine x_seq fun K15 hK15 => ?_
          refine x_region ?_
          refine s_go (s_assign) ?_
          try simp only [opv, n1, n2, n3, n4, Value.cells]
          refine s_go (s_assign) ?_
          try simp only [opv, n1, n2, n3, n4, Value.cells]
          refine x_nil ?_
          refine hK15 _ _ ?_
          refine x_ret ?_
          refine r_tmp2 rfl ?_
          first
          | (rw [noteP_no (by rw [hE]; decide), hE]; replace hS := hS.nil_vec 39 21; exact ⟨none, 0, rfl, hS.sel (by repeat (first | exact Sel.nil | (refine Sel.cons (by repeat (first | exact Del.head | apply Del.tail)) ?_)))⟩)
          | (rw [noteP_yes hE, hE]; exact ⟨_, _, rfl, hS.sel (by repeat (first | exact Sel.nil | (refine Sel.cons (by repeat (first | exact Del.head | apply Del.tail)) ?_)))⟩)
       ·
        try simp only [decide_eq_true_eq, decide_eq_false_iff_not, Bool.not_eq_true', Bool.not_eq_false', Int.not_lt, Int.not_le, ne_eq, Decidable.not_not, bne_iff_ne, beq_iff_eq, not_true_eq_false, not_false_eq_true] at hc5
        first
        | (exfalso; omega)
        | skip
          have hE : noteE l r tx ct = 0 := noteE_0 hok (by omega)
          refine x_skip ?_
          refine hK13 _ _ ?_
          refine x_seq fun K16 hK16 => ?_
          refine x_region ?_
          refine s_go (s_move) ?_
          try simp only [opv, n1, n2, n3, n4, Value.cells]
          refine s_go (s_build_struct (cells := #[_, _, .int .u8 0, .int .u8 0, .int .u8 0, .int .u8 0, .int .u8 0, .int .u8 0, .int .u8 0, .int .u8 0, .int .u8 0, .int .u32 0]) Try.underlying34 ti34 bp34 (hc := by simp only [List.map_toArray, List.map_cons, List.map_nil, opv, n1, n2, n3, n4, Value.cells, List.toList_toArray]; (repeat (refine fill_cons rfl rfl (Nat.le_of_ble_eq_true rfl) ?_)); rfl)) ?_
          try simp only [opv, n1, n2, n3, n4, Value.cells]
          rw [show (#[.int .u8 4, .int .u16 (ct : Int), .int .u8 0, .int .u8 0, .int .u8 0, .int .u8 0, .int .u8 0, .int .u8 0, .int .u8 0, .int .u8 0, .int .u8 0, .int .u32 0] : Array Value) = KA (noteK ct) from rfl]
          refine m_alloc ti34 hS (fun w17 g17 hS => ?_)
          try simp only [opv, n1, n2, n3, n4, Value.cells, Array.toArray_toList] at hS ⊢
          have h0l : key0.length = 12 := rfl
          replace hS : St _ _ w17 (.obj g17 (.cells (KA key0) 34 (0, 0)) :: _) := hS
          obtain ⟨gkk, hgkk⟩ : ∃ z, z = g17 := ⟨_, rfl⟩
          rw [← hgkk] at hS ⊢
          first | refine m_store_obj ti34 (hS := hS) (hc := by first | exact zi_set rfl (by omega) | exact zi_whole (by omega) (by omega) | (first | exact splice_ic (by first | omega | (simp [*]; done) | (simp [*]; omega)) | exact splice_il (by first | omega | (simp [*]; done) | (simp [*]; omega)) | exact splice_whole (by first | (simp [opv, Value.cells, *]; done) | rfl) | (simp only [opv, n1, n2, Value.cells, splice, List.take_succ_cons, List.take_zero, List.drop_succ_cons, List.drop_zero, List.length_cons, List.length_nil, Nat.zero_add, Nat.reduceAdd, List.append_assoc, List.cons_append, List.nil_append]; rfl))) (hv := by first | rfl | (show (zi _ _).toArray.size = _; rw [zi_size (by omega)]; rfl) | (simp [opv, Value.cells, *]; done)) (hfit := by first | omega | (rw [zi_size (by omega)]; first | rfl | decide) | (simp only [ic_size, List.length_map, List.size_toArray]; first | omega | decide) | rfl | (simp [*]; done) | (simp [*]; omega)) (h1 := by first | exact zi_one _ _ | exact ic_one _ _ | simp [opv, Value.cells, Value.oneCell']) (h := fun w18 hS => ?_) | refine m_store_vec ti34 (hS := hS) (hc := by first | exact zi_set rfl (by omega) | exact zi_whole (by omega) (by omega) | (first | exact splice_ic (by first | omega | (simp [*]; done) | (simp [*]; omega)) | exact splice_il (by first | omega | (simp [*]; done) | (simp [*]; omega)) | exact splice_whole (by first | (simp [opv, Value.cells, *]; done) | rfl) | (simp only [opv, n1, n2, Value.cells, splice, List.take_succ_cons, List.take_zero, List.drop_succ_cons, List.drop_zero, List.length_cons, List.length_nil, Nat.zero_add, Nat.reduceAdd, List.append_assoc, List.cons_append, List.nil_append]; rfl))) (hv := by first | rfl | (show (zi _ _).toArray.size = _; rw [zi_size (by omega)]; rfl) | (simp [opv, Value.cells, *]; done)) (hfit := by first | omega | (rw [zi_size (by omega)]; first | rfl | decide) | (simp only [ic_size, List.length_map, List.size_toArray]; first | omega | decide) | rfl | (simp [*]; done) | (simp [*]; omega)) (h1 := by first | exact zi_one _ _ | exact ic_one _ _ | simp [opv, Value.cells, Value.oneCell']) (h := fun w18 hS => ?_)
          try simp only [opv, n1, n2, n3, n4, Value.cells, Array.toArray_toList] at hS ⊢
          refine x_nil ?_
          refine hK16 _ _ ?_
          refine x_seq fun K17 hK17 => ?_
          refine x_mixed_c (Lc := [.obj gkk (.cells (KA (noteK ct)) 34 (0, 0)), .obj gbx (.cells (ic .u8 tx) 31 (0, 0))]) [] 0 [8, 9, 36, 37, 38, 39, 40, 41, 42, 43, 44] (fun f w => ∃ gz : Nat, f 8 = .slice (some ⟨gz, 0, none⟩) 1 1 ∧ f 9 = .int .i64 0 ∧ St NoB w0 w [.vec (some ⟨gz, 0, none⟩) 1 39 21 1 (arows [(noteA l r tx ct)])]) (by kernel_rfl) (by kernel_rfl) (by kernel_rfl) (by decide) hS (fun w19 hS => ?mixpre702) ?mixrest702
          case mixpre702 =>
           refine p_nil ?_
           simp only [List.length_cons, List.length_nil, Nat.reduceAdd, Nat.reduceSub]
           first | refine any_go (i := 0) (by rfl) (by decide +kernel) (by decide +kernel) noLate_nil (go_yields w_none (fun w hS => m_load_row Try.underlying34 (hi := ti34) (hS := hS) (hfit := by first | omega | (rw [zi_size (by omega)]; first | rfl | decide) | (simp only [ic_size, List.length_map, List.size_toArray]; first | omega | decide) | rfl | (simp [*]; done) | (simp [*]; omega)))) ?_ | refine any_go (i := 0) (by rfl) (by decide +kernel) (by decide +kernel) noLate_nil (go_yields w_none (fun w hS => m_loada_obj Try.underlying34 (hi := ti34) (hS := hS) (hfit := by first | omega | (rw [zi_size (by omega)]; first | rfl | decide) | (simp only [ic_size, List.length_map, List.size_toArray]; first | omega | decide) | rfl | (simp [*]; done) | (simp [*]; omega)))) ?_ | refine any_go (i := 0) (by rfl) (by decide +kernel) (by decide +kernel) noLate_nil (go_yields w_none (fun w hS => m_loada_bx Try.underlying34 (hi := ti34) (hS := hS) (hfit := by first | omega | (rw [zi_size (by omega)]; first | rfl | decide) | (simp only [ic_size, List.length_map, List.size_toArray]; first | omega | decide) | rfl | (simp [*]; done) | (simp [*]; omega)))) ?_ | refine any_go (i := 0) (by rfl) (by decide +kernel) (by decide +kernel) noLate_nil (go_yields w_none (fun w hS => m_loada_rd Try.underlying34 (hi := ti34) (hS := hS) (hfit := by first | omega | (rw [zi_size (by omega)]; first | rfl | decide) | (simp only [ic_size, List.length_map, List.size_toArray]; first | omega | decide) | rfl | (simp [*]; done) | (simp [*]; omega)))) ?_ | refine any_go (i := 0) (by rfl) (by decide +kernel) (by decide +kernel) noLate_nil (go_yields w_none (fun w hS => m_loada_vec Try.underlying34 (hi := ti34) (hS := hS) (hfit := by first | omega | (rw [zi_size (by omega)]; first | rfl | decide) | (simp only [ic_size, List.length_map, List.size_toArray]; first | omega | decide) | rfl | (simp [*]; done) | (simp [*]; omega)))) ?_
           try simp only [opv, n1, n2, n3, n4, Value.cells, List.getElem_toArray, List.getElem_cons_zero, List.getElem_cons_succ]
           refine any_go (i := 1) (by rfl) (by decide +kernel) (by decide +kernel) noLate_nil (go_yields w_none (fun w hS => s_move)) ?_
           try simp only [opv, n1, n2, n3, n4, Value.cells]
           refine any_go (i := 2) (by rfl) (by decide +kernel) (by decide +kernel) noLate_nil (go_yields w_none (fun w hS => s_add (hc := wr_u32 (by omega) (by omega)))) ?_
           try simp only [opv, n1, n2, n3, n4, Value.cells]
           rw [show ((noteN l ct : Nat) : Int) + 1 = ((noteN l ct + 1 : Nat) : Int) by omega]
           refine any_go (i := 3) (by rfl) (by decide +kernel) (by decide +kernel) noLate_nil (go_yields w_none (fun w hS => s_move)) ?_
           try simp only [opv, n1, n2, n3, n4, Value.cells]
           apply any_go (i := 4) (by rfl) (by decide +kernel) (by decide +kernel) noLate_nil (call_yields w_none en125 ?H2) ?K2
           case H2 =>
             intro w hS
             try simp only [opv, n1, n2, n3, n4, List.map_toArray, List.map_cons, List.map_nil, List.append_toArray, List.cons_append, List.nil_append, Array.append_empty]
             refine CallR.mono (c_atomStamp (noteN l ct + 1) r (by omega) hr8 _) ?_
             rintro _ w1 ⟨rfl, hE⟩; exact ⟨rfl, hE⟩
           try simp only [opv, n1, n2, n3, n4, Value.cells]
           first | refine any_go (i := 5) (by rfl) (by decide +kernel) (by decide +kernel) noLate_nil (go_yields w_none (fun w hS => m_load_row Try.underlying31 (hi := ti31) (hS := hS) (hfit := by first | omega | (rw [zi_size (by omega)]; first | rfl | decide) | (simp only [ic_size, List.length_map, List.size_toArray]; first | omega | decide) | rfl | (simp [*]; done) | (simp [*]; omega)))) ?_ | refine any_go (i := 5) (by rfl) (by decide +kernel) (by decide +kernel) noLate_nil (go_yields w_none (fun w hS => m_loada_obj Try.underlying31 (hi := ti31) (hS := hS) (hfit := by first | omega | (rw [zi_size (by omega)]; first | rfl | decide) | (simp only [ic_size, List.length_map, List.size_toArray]; first | omega | decide) | rfl | (simp [*]; done) | (simp [*]; omega)))) ?_ | refine any_go (i := 5) (by rfl) (by decide +kernel) (by decide +kernel) noLate_nil (go_yields w_none (fun w hS => m_loada_bx Try.underlying31 (hi := ti31) (hS := hS) (hfit := by first | omega | (rw [zi_size (by omega)]; first | rfl | decide) | (simp only [ic_size, List.length_map, List.size_toArray]; first | omega | decide) | rfl | (simp [*]; done) | (simp [*]; omega)))) ?_ | refine any_go (i := 5) (by rfl) (by decide +kernel) (by decide +kernel) noLate_nil (go_yields w_none (fun w hS => m_loada_rd Try.underlying31 (hi := ti31) (hS := hS) (hfit := by first | omega | (rw [zi_size (by omega)]; first | rfl | decide) | (simp only [ic_size, List.length_map, List.size_toArray]; first | omega | decide) | rfl | (simp [*]; done) | (simp [*]; omega)))) ?_ | refine any_go (i := 5) (by rfl) (by decide +kernel) (by decide +kernel) noLate_nil (go_yields w_none (fun w hS => m_loada_vec Try.underlying31 (hi := ti31) (hS := hS) (hfit := by first | omega | (rw [zi_size (by omega)]; first | rfl | decide) | (simp only [ic_size, List.length_map, List.size_toArray]; first | omega | decide) | rfl | (simp [*]; done) | (simp [*]; omega)))) ?_
           try simp only [opv, n1, n2, n3, n4, Value.cells, List.getElem_toArray, List.getElem_cons_zero, List.getElem_cons_succ]
           refine any_go (i := 6) (by rfl) (by decide +kernel) (by decide +kernel) noLate_nil (go_yields w_none (fun w hS => s_build_struct (cells := (VA (noteX l r tx ct))) Try.underlying37 ti37 bp37 (hc := by simp only [List.map_toArray, List.map_cons, List.map_nil, opv, n1, n2, n3, n4, Value.cells, List.toList_toArray]; exact fill_val (by rfl) (by rfl) (by rfl) h8))) ?_
           try simp only [opv, n1, n2, n3, n4, Value.cells]
           refine any_go (i := 7) (by rfl) (by decide +kernel) (by decide +kernel) noLate_nil (go_yields w_none (fun w hS => s_build_struct (cells := (AA (noteA l r tx ct))) Try.underlying39 ti39 bp39 (hc := by simp only [List.map_toArray, List.map_cons, List.map_nil, opv, n1, n2, n3, n4, Value.cells, List.toList_toArray]; exact fill_atom (by rfl) (by rfl) (by rfl) hkl hXl))) ?_
           try simp only [opv, n1, n2, n3, n4, Value.cells]
           refine any_step [8] (by kernel_rfl) (by decide) (fun w20 hE => ⟨fun _ => (hS.ext hE).sel (by repeat (first | exact Sel.nil | (refine Sel.cons (by repeat (first | exact Del.head | apply Del.tail)) ?_))), ?_⟩)
           replace hS := hS.ext hE
           intro i hi
           simp only [List.mem_cons, List.not_mem_nil, or_false] at hi
           subst hi
           ·
            refine any_op (by rfl) ?_
            refine m_buildRow (cells := (AA (noteA l r tx ct))) Try.underlying24 ti39 (hc := by simp only [List.map_toArray, List.map_cons, List.map_nil, opv, n1, n2, n3, n4, Value.cells, List.toList_toArray]; exact fill_one (by rfl) (zi_size21 hAl) (by rfl)) (hS := hS) (h := fun w21 g21 hS => ?_)
            try simp only [opv, n1, n2, n3, n4, Value.cells, Array.toArray_toList] at hS ⊢
            replace hS := hS.obj_vec (sz := 21) (n := 1) (by exact zi_size21 hAl) (by decide) .head
            rw [arow_one hAl] at hS
            refine x_nil ?_
            refine any_go (i := 9) (by rfl) (by decide +kernel) (by decide +kernel) noLate_nil (go_yields w_none (fun w hS => s_assign)) ?_
            try simp only [opv, n1, n2, n3, n4, Value.cells]
            refine any_go (i := 10) (by rfl) (by decide +kernel) (by decide +kernel) noLate_nil (go_yields w_none (fun w hS => s_assign)) ?_
            try simp only [opv, n1, n2, n3, n4, Value.cells]
            refine any_nil (by kernel_rfl) (fun w22 hE => ?_)
            replace hS := hS.ext hE
            refine ⟨fun _ => hS.sel (by repeat (first | exact Sel.nil | (refine Sel.cons (by repeat (first | exact Del.head | apply Del.tail)) ?_))), ?_⟩
            refine mix_leaf (by simp only [clob, List.foldl, n1, n2, n3, n4]) ?_
            try simp only [n1, n2]
            exact ⟨_, by first | trivial | rfl, by first | trivial | rfl, hS.sel (by repeat (first | exact Sel.nil | (refine Sel.cons (by repeat (first | exact Del.head | apply Del.tail)) ?_)))⟩
          intro fm2 w23 hM
          obtain ⟨gz, h8, h9, hS⟩ := hM
          simp only [clob, List.foldl, n3, n4, h8, h9]
          refine hK17 _ _ ?_
          refine x_ret ?_
          refine r_tmp2 rfl ?_
          first
          | (rw [noteP_no (by rw [hE]; decide), hE]; replace hS := hS.nil_vec 39 21; exact ⟨none, 0, rfl, hS.sel (by repeat (first | exact Sel.nil | (refine Sel.cons (by repeat (first | exact Del.head | apply Del.tail)) ?_)))⟩)
          | (rw [noteP_yes hE, hE]; exact ⟨_, _, rfl, hS.sel (by repeat (first | exact Sel.nil | (refine Sel.cons (by repeat (first | exact Del.head | apply Del.tail)) ?_)))⟩)
theorem c_noteNewer (x y : List Int) (hx : ValOk x) (hy : ValOk y)  (w0 : World) :
    CallR Try.prog 45 #[.agg (VA x), .agg (VA y)] w0 fun v w' => v = .bool (!overV y x) ∧ Ext w0 w' := by
 have hS : St NoB w0 w0 [] := St.start w0
 refine c_enter (l := [.agg (VA x), .agg (VA y), undef, undef, undef, undef, undef, undef, undef, undef, undef, undef, undef]) Try.func45 rfl (by simp only [Try.ntmps45, List.size_toArray, List.length_cons, List.length_nil, Nat.reduceAdd, Nat.reduceSub, Array.replicate_succ, Array.replicate_zero, List.push_toArray, List.append_toArray, List.nil_append, List.cons_append]) ?_
 refine x_seq fun K1 hK1 => ?_
 refine x_region ?_
 have hxl := hx.len
 have hyl := hy.len
 have hxt := vtext_len hxl
 have hyt := vtext_len hyl
 have hxb := hx.text
 have hyb := hy.text
 refine m_box hS (fun w1 g1 hS => ?_)
 try simp only [opv, n1, n2, n3, n4, Value.cells, Array.toArray_toList] at hS ⊢
 refine m_box hS (fun w2 g2 hS => ?_)
 try simp only [opv, n1, n2, n3, n4, Value.cells, Array.toArray_toList] at hS ⊢
 refine s_go (s_assign) ?_
 try simp only [opv, n1, n2, n3, n4, Value.cells]
 refine x_nil ?_
 refine hK1 _ _ ?_
 refine x_seq fun K2 hK2 => ?_
 refine x_region ?_
 first | refine s_go (m_load_row Try.underlying37 (hi := ti37) (hS := hS) (hfit := by first | omega | (rw [zi_size (by omega)]; first | rfl | decide) | (simp only [ic_size, List.length_map, List.size_toArray]; first | omega | decide) | rfl | (simp [*]; done) | (simp [*]; omega))) ?_ | refine s_go (m_loada_obj Try.underlying37 (hi := ti37) (hS := hS) (hfit := by first | omega | (rw [zi_size (by omega)]; first | rfl | decide) | (simp only [ic_size, List.length_map, List.size_toArray]; first | omega | decide) | rfl | (simp [*]; done) | (simp [*]; omega))) ?_ | refine s_go (m_loada_bx Try.underlying37 (hi := ti37) (hS := hS) (hfit := by first | omega | (rw [zi_size (by omega)]; first | rfl | decide) | (simp only [ic_size, List.length_map, List.size_toArray]; first | omega | decide) | rfl | (simp [*]; done) | (simp [*]; omega))) ?_ | refine s_go (m_loada_rd Try.underlying37 (hi := ti37) (hS := hS) (hfit := by first | omega | (rw [zi_size (by omega)]; first | rfl | decide) | (simp only [ic_size, List.length_map, List.size_toArray]; first | omega | decide) | rfl | (simp [*]; done) | (simp [*]; omega))) ?_ | refine s_go (m_loada_vec Try.underlying37 (hi := ti37) (hS := hS) (hfit := by first | omega | (rw [zi_size (by omega)]; first | rfl | decide) | (simp only [ic_size, List.length_map, List.size_toArray]; first | omega | decide) | rfl | (simp [*]; done) | (simp [*]; omega))) ?_
 try simp only [opv, n1, n2, n3, n4, Value.cells, List.getElem_toArray, List.getElem_cons_zero, List.getElem_cons_succ]
 first | refine s_go (m_load_row Try.underlying37 (hi := ti37) (hS := hS) (hfit := by first | omega | (rw [zi_size (by omega)]; first | rfl | decide) | (simp only [ic_size, List.length_map, List.size_toArray]; first | omega | decide) | rfl | (simp [*]; done) | (simp [*]; omega))) ?_ | refine s_go (m_loada_obj Try.underlying37 (hi := ti37) (hS := hS) (hfit := by first | omega | (rw [zi_size (by omega)]; first | rfl | decide) | (simp only [ic_size, List.length_map, List.size_toArray]; first | omega | decide) | rfl | (simp [*]; done) | (simp [*]; omega))) ?_ | refine s_go (m_loada_bx Try.underlying37 (hi := ti37) (hS := hS) (hfit := by first | omega | (rw [zi_size (by omega)]; first | rfl | decide) | (simp only [ic_size, List.length_map, List.size_toArray]; first | omega | decide) | rfl | (simp [*]; done) | (simp [*]; omega))) ?_ | refine s_go (m_loada_rd Try.underlying37 (hi := ti37) (hS := hS) (hfit := by first | omega | (rw [zi_size (by omega)]; first | rfl | decide) | (simp only [ic_size, List.length_map, List.size_toArray]; first | omega | decide) | rfl | (simp [*]; done) | (simp [*]; omega))) ?_ | refine s_go (m_loada_vec Try.underlying37 (hi := ti37) (hS := hS) (hfit := by first | omega | (rw [zi_size (by omega)]; first | rfl | decide) | (simp only [ic_size, List.length_map, List.size_toArray]; first | omega | decide) | rfl | (simp [*]; done) | (simp [*]; omega))) ?_
 try simp only [opv, n1, n2, n3, n4, Value.cells, List.getElem_toArray, List.getElem_cons_zero, List.getElem_cons_succ]
 refine s_go (s_neq_agg eqv37 (hg := eg37) (hX := rfl) (hY := rfl) (h1 := by assumption) (h2 := by assumption)) ?_
 try simp only [opv, n1, n2, n3, n4, Value.cells]
 refine s_go (s_move) ?_
 try simp only [opv, n1, n2, n3, n4, Value.cells]
 refine s_part 8 rfl (fun hp1 => ?_) (fun hp1 => ?_)
 ·
  try simp only [n3, n4]
  try simp only [decide_eq_true_eq, decide_eq_false_iff_not, Bool.not_eq_true', Bool.not_eq_false', Int.not_lt, Int.not_le, ne_eq, Decidable.not_not] at hp1
  have hne : ¬ x = y := by simpa using hp1
  refine g_on (yi (t := 8) rfl rfl) ?_
  first | refine s_go (m_load_row Try.underlying37 (hi := ti37) (hS := hS) (hfit := by first | omega | (rw [zi_size (by omega)]; first | rfl | decide) | (simp only [ic_size, List.length_map, List.size_toArray]; first | omega | decide) | rfl | (simp [*]; done) | (simp [*]; omega))) ?_ | refine s_go (m_loada_obj Try.underlying37 (hi := ti37) (hS := hS) (hfit := by first | omega | (rw [zi_size (by omega)]; first | rfl | decide) | (simp only [ic_size, List.length_map, List.size_toArray]; first | omega | decide) | rfl | (simp [*]; done) | (simp [*]; omega))) ?_ | refine s_go (m_loada_bx Try.underlying37 (hi := ti37) (hS := hS) (hfit := by first | omega | (rw [zi_size (by omega)]; first | rfl | decide) | (simp only [ic_size, List.length_map, List.size_toArray]; first | omega | decide) | rfl | (simp [*]; done) | (simp [*]; omega))) ?_ | refine s_go (m_loada_rd Try.underlying37 (hi := ti37) (hS := hS) (hfit := by first | omega | (rw [zi_size (by omega)]; first | rfl | decide) | (simp only [ic_size, List.length_map, List.size_toArray]; first | omega | decide) | rfl | (simp [*]; done) | (simp [*]; omega))) ?_ | refine s_go (m_loada_vec Try.underlying37 (hi := ti37) (hS := hS) (hfit := by first | omega | (rw [zi_size (by omega)]; first | rfl | decide) | (simp only [ic_size, List.length_map, List.size_toArray]; first | omega | decide) | rfl | (simp [*]; done) | (simp [*]; omega))) ?_
  try simp only [opv, n1, n2, n3, n4, Value.cells, List.getElem_toArray, List.getElem_cons_zero, List.getElem_cons_succ]
  refine g_on (yi (t := 8) rfl rfl) ?_
  first | refine s_go (m_load_row Try.underlying37 (hi := ti37) (hS := hS) (hfit := by first | omega | (rw [zi_size (by omega)]; first | rfl | decide) | (simp only [ic_size, List.length_map, List.size_toArray]; first | omega | decide) | rfl | (simp [*]; done) | (simp [*]; omega))) ?_ | refine s_go (m_loada_obj Try.underlying37 (hi := ti37) (hS := hS) (hfit := by first | omega | (rw [zi_size (by omega)]; first | rfl | decide) | (simp only [ic_size, List.length_map, List.size_toArray]; first | omega | decide) | rfl | (simp [*]; done) | (simp [*]; omega))) ?_ | refine s_go (m_loada_bx Try.underlying37 (hi := ti37) (hS := hS) (hfit := by first | omega | (rw [zi_size (by omega)]; first | rfl | decide) | (simp only [ic_size, List.length_map, List.size_toArray]; first | omega | decide) | rfl | (simp [*]; done) | (simp [*]; omega))) ?_ | refine s_go (m_loada_rd Try.underlying37 (hi := ti37) (hS := hS) (hfit := by first | omega | (rw [zi_size (by omega)]; first | rfl | decide) | (simp only [ic_size, List.length_map, List.size_toArray]; first | omega | decide) | rfl | (simp [*]; done) | (simp [*]; omega))) ?_ | refine s_go (m_loada_vec Try.underlying37 (hi := ti37) (hS := hS) (hfit := by first | omega | (rw [zi_size (by omega)]; first | rfl | decide) | (simp only [ic_size, List.length_map, List.size_toArray]; first | omega | decide) | rfl | (simp [*]; done) | (simp [*]; omega))) ?_
  try simp only [opv, n1, n2, n3, n4, Value.cells, List.getElem_toArray, List.getElem_cons_zero, List.getElem_cons_succ]
  refine g_on (yi (t := 8) rfl rfl) ?_
  refine s_call en119 ?_
  try simp only [opv, n1, n2, n3, n4, Value.cells, List.map_toArray, List.map_cons, List.map_nil, List.append_toArray, List.cons_append, List.nil_append, Array.append_empty]
  refine CallR.mono (c_atomOver x y hx hy _) ?_
  rintro _ w3 ⟨rfl, hE3⟩
  replace hS := hS.ext hE3
  try simp only [opv, n1, n2, n3, n4, Value.cells]
  first | refine s_go (s_pick_t) ?_ | refine s_go (s_pick_f) ?_
  try simp only [opv, n1, n2, n3, n4, Value.cells]
  refine s_go (s_assign) ?_
  try simp only [opv, n1, n2, n3, n4, Value.cells]
  refine x_nil ?_
  refine hK2 _ _ ?_
  refine x_ret ?_
  refine r_tmp rfl ?_
  first | exact ⟨congrArg Value.bool (by have h := over_anti hx hy; rw [decide_eq_false hne] at h; cases h1 : overV x y <;> cases h2 : overV y x <;> simp_all [over_total hx hy]), hS.ext_of⟩ | exact ⟨congrArg Value.bool (by subst heq; rw [over_refl hx]; rfl), hS.ext_of⟩
 ·
  try simp only [n3, n4]
  try simp only [decide_eq_true_eq, decide_eq_false_iff_not, Bool.not_eq_true', Bool.not_eq_false', Int.not_lt, Int.not_le, ne_eq, Decidable.not_not] at hp1
  have heq : x = y := by simpa using hp1
  refine g_off (yi (t := 8) rfl rfl) ?_
  try simp only [opv, n1, n2, n3, n4, Value.cells]
  refine g_off (yi (t := 8) rfl rfl) ?_
  try simp only [opv, n1, n2, n3, n4, Value.cells]
  refine g_off (yi (t := 8) rfl rfl) ?_
  try simp only [opv, n1, n2, n3, n4, Value.cells]
  first | refine s_go (s_pick_t) ?_ | refine s_go (s_pick_f) ?_
  try simp only [opv, n1, n2, n3, n4, Value.cells]
  refine s_go (s_assign) ?_
  try simp only [opv, n1, n2, n3, n4, Value.cells]
  refine x_nil ?_
  refine hK2 _ _ ?_
  refine x_ret ?_
  refine r_tmp rfl ?_
  first | exact ⟨congrArg Value.bool (by have h := over_anti hx hy; rw [decide_eq_false hne] at h; cases h1 : overV x y <;> cases h2 : overV y x <;> simp_all [over_total hx hy]), hS.ext_of⟩ | exact ⟨congrArg Value.bool (by subst heq; rw [over_refl hx]; rfl), hS.ext_of⟩
theorem c_ref16Newer (x y : List Int) (hx : ValOk x) (hy : ValOk y)  (w0 : World) :
    CallR Try.prog 46 #[.agg (VA x), .agg (VA y)] w0 fun v w' => v = .bool (!overV y x) ∧ Ext w0 w' := by
 have hS : St NoB w0 w0 [] := St.start w0
 refine c_enter (l := [.agg (VA x), .agg (VA y), undef, undef, undef, undef, undef, undef, undef]) Try.func46 rfl (by simp only [Try.ntmps46, List.size_toArray, List.length_cons, List.length_nil, Nat.reduceAdd, Nat.reduceSub, Array.replicate_succ, Array.replicate_zero, List.push_toArray, List.append_toArray, List.nil_append, List.cons_append]) ?_
 refine x_seq fun K1 hK1 => ?_
 refine x_region ?_
 have hxl := hx.len
 have hyl := hy.len
 have hxt := vtext_len hxl
 have hyt := vtext_len hyl
 have hxb := hx.text
 have hyb := hy.text
 refine m_box hS (fun w1 g1 hS => ?_)
 try simp only [opv, n1, n2, n3, n4, Value.cells, Array.toArray_toList] at hS ⊢
 refine m_box hS (fun w2 g2 hS => ?_)
 try simp only [opv, n1, n2, n3, n4, Value.cells, Array.toArray_toList] at hS ⊢
 refine s_go (s_assign) ?_
 try simp only [opv, n1, n2, n3, n4, Value.cells]
 refine x_nil ?_
 refine hK1 _ _ ?_
 refine x_seq fun K2 hK2 => ?_
 refine x_region ?_
 first | refine s_go (m_load_row Try.underlying37 (hi := ti37) (hS := hS) (hfit := by first | omega | (rw [zi_size (by omega)]; first | rfl | decide) | (simp only [ic_size, List.length_map, List.size_toArray]; first | omega | decide) | rfl | (simp [*]; done) | (simp [*]; omega))) ?_ | refine s_go (m_loada_obj Try.underlying37 (hi := ti37) (hS := hS) (hfit := by first | omega | (rw [zi_size (by omega)]; first | rfl | decide) | (simp only [ic_size, List.length_map, List.size_toArray]; first | omega | decide) | rfl | (simp [*]; done) | (simp [*]; omega))) ?_ | refine s_go (m_loada_bx Try.underlying37 (hi := ti37) (hS := hS) (hfit := by first | omega | (rw [zi_size (by omega)]; first | rfl | decide) | (simp only [ic_size, List.length_map, List.size_toArray]; first | omega | decide) | rfl | (simp [*]; done) | (simp [*]; omega))) ?_ | refine s_go (m_loada_rd Try.underlying37 (hi := ti37) (hS := hS) (hfit := by first | omega | (rw [zi_size (by omega)]; first | rfl | decide) | (simp only [ic_size, List.length_map, List.size_toArray]; first | omega | decide) | rfl | (simp [*]; done) | (simp [*]; omega))) ?_ | refine s_go (m_loada_vec Try.underlying37 (hi := ti37) (hS := hS) (hfit := by first | omega | (rw [zi_size (by omega)]; first | rfl | decide) | (simp only [ic_size, List.length_map, List.size_toArray]; first | omega | decide) | rfl | (simp [*]; done) | (simp [*]; omega))) ?_
 try simp only [opv, n1, n2, n3, n4, Value.cells, List.getElem_toArray, List.getElem_cons_zero, List.getElem_cons_succ]
 first | refine s_go (m_load_row Try.underlying37 (hi := ti37) (hS := hS) (hfit := by first | omega | (rw [zi_size (by omega)]; first | rfl | decide) | (simp only [ic_size, List.length_map, List.size_toArray]; first | omega | decide) | rfl | (simp [*]; done) | (simp [*]; omega))) ?_ | refine s_go (m_loada_obj Try.underlying37 (hi := ti37) (hS := hS) (hfit := by first | omega | (rw [zi_size (by omega)]; first | rfl | decide) | (simp only [ic_size, List.length_map, List.size_toArray]; first | omega | decide) | rfl | (simp [*]; done) | (simp [*]; omega))) ?_ | refine s_go (m_loada_bx Try.underlying37 (hi := ti37) (hS := hS) (hfit := by first | omega | (rw [zi_size (by omega)]; first | rfl | decide) | (simp only [ic_size, List.length_map, List.size_toArray]; first | omega | decide) | rfl | (simp [*]; done) | (simp [*]; omega))) ?_ | refine s_go (m_loada_rd Try.underlying37 (hi := ti37) (hS := hS) (hfit := by first | omega | (rw [zi_size (by omega)]; first | rfl | decide) | (simp only [ic_size, List.length_map, List.size_toArray]; first | omega | decide) | rfl | (simp [*]; done) | (simp [*]; omega))) ?_ | refine s_go (m_loada_vec Try.underlying37 (hi := ti37) (hS := hS) (hfit := by first | omega | (rw [zi_size (by omega)]; first | rfl | decide) | (simp only [ic_size, List.length_map, List.size_toArray]; first | omega | decide) | rfl | (simp [*]; done) | (simp [*]; omega))) ?_
 try simp only [opv, n1, n2, n3, n4, Value.cells, List.getElem_toArray, List.getElem_cons_zero, List.getElem_cons_succ]
 refine s_call en120 ?_
 try simp only [opv, n1, n2, n3, n4, Value.cells, List.map_toArray, List.map_cons, List.map_nil, List.append_toArray, List.cons_append, List.nil_append, Array.append_empty]
 refine CallR.mono (c_ref09Over y x hy hx _) ?_
 rintro _ w3 ⟨rfl, hE3⟩
 replace hS := hS.ext hE3
 try simp only [opv, n1, n2, n3, n4, Value.cells]
 refine s_go (s_not) ?_
 try simp only [opv, n1, n2, n3, n4, Value.cells]
 refine s_go (s_assign) ?_
 try simp only [opv, n1, n2, n3, n4, Value.cells]
 refine x_nil ?_
 refine hK2 _ _ ?_
 refine x_ret ?_
 refine r_tmp rfl ?_
 exact ⟨rfl, hS.ext_of⟩
end Go.Proofs.Ytmgacmkikefpjaa
