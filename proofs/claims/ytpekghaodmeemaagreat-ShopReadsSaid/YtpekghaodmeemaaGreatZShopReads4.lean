/- Rules, plain words and walks that the claim leans on: Gg, Gh, Gi, Gk, Na, Nb, Nc, Nt, Qt, Qa, Qb, Qc. -/
import Derived.Test.YtpekghaodmeemaaGreatZShopReads3
set_option linter.unusedSimpArgs false
set_option linter.unusedVariables false
set_option linter.unusedSimpArgs false
set_option linter.unusedVariables false
set_option maxHeartbeats 600000
set_option maxRecDepth 100000
namespace Go.Proofs.YtpekghaodmeemaaGreat
open Go.RowKit

/-- what a call hands back to be read: new, or what it was handed -/
structure RBack (w0 w' : World) (A : Option Addr) (l : List (List Int)) (B : Option Addr) (s : List (List Int)) : Prop where
  ext : Ext w0 w'
  rd : Rd w' B 21 s.length (arows s)
  wh : ∀ b, (Res.rd B 21 s.length (arows s)).reads = some b → w0.heap.size ≤ b ∨ (Res.rd A 21 l.length (arows l)).reads = some b
theorem pair_apart {g : Nat} {r s : Res} (ho : r.own = some g) (hs : s.own = none) (hrd : s.reads = some g) : ∀ {M : List Res}, M.Pairwise Res.compat → r ∈ M → s ∈ M → False
  | [], _, h, _ => by cases h
  | x :: M, hp, h1, h2 => by
    obtain ⟨hh, ht⟩ := List.pairwise_cons.1 hp
    rcases List.mem_cons.1 h1 with e1 | h1
    · rcases List.mem_cons.1 h2 with e2 | h2
      · rw [e1, ← e2, hs] at ho; cases ho
      · rw [← e1] at hh; exact ((hh s h2 g).1 ho).2 hrd
    · rcases List.mem_cons.1 h2 with e2 | h2
      · rw [← e2] at hh; exact ((hh r h1 g).2 ho).2 hrd
      · exact pair_apart ho hs hrd ht h1 h2
theorem St.back {S : Nat → Prop} {w0 w w' : World} {L : List Res} {A B : Option Addr} {l s : List (List Int)} (h : St S w0 w L) (k : RBack w w' A l B s) (hm : Has L (.rd A 21 l.length (arows l)) := by repeat (first | exact Has.head | apply Has.tail)) : St S w0 w' (.rd B 21 s.length (arows s) :: L) := by
  refine (h.ext k.ext).add_rd k.rd fun r hr g hg e => ?_
  rcases k.wh g e with h1 | h1
  · have := own_lt (h.holds r hr) hg; omega
  · exact pair_apart hg rfl h1 h.apart hr hm.mem
theorem rback_self {w0 w' : World} {A : Option Addr} {l s : List (List Int)} (hE : Ext w0 w') (hR : Rd w' A 21 l.length (arows l)) (e : s = l) : RBack w0 w' A l A s := by subst e; exact ⟨hE, hR, fun b hb => .inr hb⟩
theorem rback_vec {w0 w' : World} {A B : Option Addr} {c : Nat} {e : TypeId} {l s : List (List Int)} {L : List Res} (h : St NoB w0 w' L) (hm : Has L (.vec B c e 21 s.length (arows s))) : RBack w0 w' A l B s :=
  ⟨h.ext_of, h.vecRd hm, fun b hb => .inl (by
    have : (Res.vec B c e 21 s.length (arows s)).own = some b := by
      simp only [Res.reads] at hb
      split at hb
      · cases hb
      · exact hb
    exact (h.own _ hm.mem b this).resolve_left (fun f => f))⟩
theorem arow_key {l : List (List Int)} {k : Nat} (hk : k < l.length) (hv : AOks l) : (((arows l).drop (k * 21)).take 12).toArray = KA (akey (l.getD k [])) := by
  have ha := hv.get hk
  have h1 := congrArg Array.toList (arow_get hk hv)
  rw [List.toList_toArray] at h1
  have h2 : ((arows l).drop (k * 21)).take 12 = (((arows l).drop (k * 21)).take 21).take 12 := by rw [List.take_take]; rfl
  have h3 := atom_key ha.len
  rw [List.drop_zero] at h3
  rw [h2, h1, h3]
theorem arow_val {l : List (List Int)} {k : Nat} (hk : k < l.length) (hv : AOks l) : (((arows l).drop (k * 21 + 12)).take 9).toArray = VA (aval (l.getD k [])) := by
  have ha := hv.get hk
  have h1 := congrArg Array.toList (arow_get hk hv)
  rw [List.toList_toArray] at h1
  have h2 : ((arows l).drop (k * 21 + 12)).take 9 = ((((arows l).drop (k * 21)).take 21).drop 12).take 9 := by rw [List.drop_take, List.drop_drop, List.take_take]; simp
  rw [h2, h1, atom_val ha.len]
theorem put_step {a x : List Int} {l o : List (List Int)} {k : Nat} {dn : Bool} (hk : k < l.length) (hx : l.getD k [] = x) (h : (l.take k).foldl (putF a) ([], false) = (o, dn)) : (l.take (k + 1)).foldl (putF a) ([], false) = putF a (o, dn) x := by
  rw [take_snoc hk, List.foldl_append, h, hx]; rfl
theorem put_eqk {a x : List Int} {o : List (List Int)} {dn : Bool} (h : akey x = akey a) : putF a (o, dn) x = (o ++ [akey a ++ moreV (aval x) (aval a)], true) := by simp [putF, h]
theorem put_lt {a x : List Int} {o : List (List Int)} (h : ¬ akey x = akey a) (h2 : keyLt (akey a) (akey x) = true) : putF a (o, false) x = ((o ++ [a]) ++ [x], true) := by simp [putF, h, h2]
theorem put_on {a x : List Int} {o : List (List Int)} (h : ¬ akey x = akey a) (h2 : keyLt (akey a) (akey x) = false) : putF a (o, false) x = (o ++ [x], false) := by simp [putF, h, h2]
theorem put_dn {a x : List Int} {o : List (List Int)} (h : ¬ akey x = akey a) : putF a (o, true) x = (o ++ [x], true) := by simp [putF, h]
theorem put_end {a : List Int} {l o : List (List Int)} {dn : Bool} (h : l.foldl (putF a) ([], false) = (o, dn)) : putS a l = if dn = true then o else o ++ [a] := by rw [putS, h]
theorem add_one {o : List (List Int)} {y : List Int} : arows o ++ arows [y] = arows (o ++ [y]) := (rowsZ_app _ _ _).symm

theorem c_ref10Right (w0 : World) (A : Option Addr) (c : Nat) (l : List (List Int)) (hr : Rd w0 A 21 l.length (arows l)) (hv : AOks l) (hn : l.length ≤ 1000000000)  :
    CallR Tryz.prog 29 #[.slice A l.length c] w0 fun v w' => v = .bool (rightL l) ∧ Ext w0 w' := by
 have hS := St.rd1 (S := NoB) hr
 have hvl := arows_len l
 refine c_enter (l := [.slice A l.length c, undef, undef, undef, undef, undef, undef, undef, undef, undef, undef, undef, undef, undef, undef, undef, undef, undef, undef, undef, undef, undef, undef, undef, undef, undef, undef, undef, undef, undef, undef, undef, undef, undef, undef]) Tryz.func29 rfl (by simp only [Tryz.ntmps29, List.size_toArray, List.length_cons, List.length_nil, Nat.reduceAdd, Nat.reduceSub, Array.replicate_succ, Array.replicate_zero, List.push_toArray, List.append_toArray, List.nil_append, List.cons_append]) ?_
 refine x_seq fun K1 hK1 => x_region ?_
 refine s_go s_assign ?_
 try simp only [nY]
 refine x_nil (hK1 _ _ ?_)
 refine x_seq fun K2 hK2 => ?_
 refine x_seq fun K3 hK3 => x_region ?_
 refine s_go s_assign ?_
 try simp only [nY]
 refine x_nil (hK3 _ _ ?_)
 refine x_block ?_
 refine x_loop [2, 3, 4, 5, 6, 7, 8, 9, 10, 11, 12, 13, 14, 15, 16, 17, 18, 19, 20, 21, 22, 23, 24, 25, 26, 27, 28, 29, 30, 31, 32, 33, 34] (fun m f w => ∃ k : Nat, k ≤ l.length ∧ m = l.length - k ∧ f 3 = .int .i64 (k : Int) ∧ rgt l k = true ∧ St NoB w0 w [.rd A 21 (l).length (arows (l))]) (l.length) ?init1 (fun m1 f1 wl1 hI => ?_)
 case init1 =>
  try simp only [nY]
  exact ⟨0, by omega, rfl, rfl, rfl, hS⟩
 obtain ⟨k, hk0, hm, h3, hrg, hS⟩ := hI
 simp only [clob, List.foldl, n3, n4, h3]
 obtain ⟨x, hx⟩ : ∃ x, l.getD k [] = x := ⟨_, rfl⟩
 refine x_seq fun K4 hK4 => ?_
 refine x_seq fun K5 hK5 => x_region ?_
 refine s_go s_move ?_
 try simp only [nY]
 refine s_go s_move ?_
 try simp only [nY]
 refine s_go (s_len_sl U22) ?_
 try simp only [nY]
 refine s_go s_lss ?_
 try simp only [nY]
 refine x_nil (hK5 _ _ ?_)
 refine x_cond (ht := fun hc1 => ?_) (hf := fun hc1 => ?_)
 ·
  try simp only [dY] at hc1
  have ha : AtomOk x := by rw [← hx]; exact hv.get (by omega)
  have hal := ha.len
  have hk := ha.key
  have hkl := hk.len
  refine x_skip ?_
  refine hK4 _ _ ?_
  refine x_seq fun K6 hK6 => ?_
  refine x_block ?_
  refine x_seq fun K7 hK7 => ?_
  refine x_quiet (by kernel_rfl) (by kernel_rfl) hS ?_
  refine q_go (fun w hS => s_move) ?_
  try simp only [nY]
  refine q_go (fun w hS => s_move) ?_
  try simp only [nY]
  refine q_go (fun w hS => m_indexAddr_rd U22 ti66 (hS := hS)) ?_
  try simp only [nY, Nat.mul_one, Nat.zero_add, Int.toNat_natCast, Int.reduceToNat]
  refine q_go (fun w hS => m_loada_rd U66 (hi := ti66) (hS := hS) (hfit := by rw [arows_len]; omega)) ?_
  try simp only [nY, gY]
  rw [arow_get (by omega) hv, hx]
  apply q_call en30
  case H =>
    intro w hS
    try simp only [nY, mY]
    refine CallR.mono (c_ref09Right x ha _) ?_
    rintro _ w1 ⟨rfl, hE⟩; exact ⟨rfl, hS.ext hE⟩
  try simp only [nY]
  refine q_go (fun w hS => s_not) ?_
  try simp only [nY]
  refine q_go (fun w hS => s_move) ?_
  try simp only [nY]
  refine q_part 16 rfl (fun hp1 => ?_) (fun hp1 => ?_)
  ·
   try simp only [n3, n4]
   try simp only [dZ, ne_eq] at hp1
   have hR : rightL l = false := rgt_false (k := k) (by rw [rgtAt, hx, show atomR x = false by simpa using hp1]; rfl) (by omega)
   refine q_off (yi (t := 16) rfl rfl) ?_
   try simp only [nY]
   refine q_off (yi (t := 16) rfl rfl) ?_
   try simp only [nY]
   refine q_off (yi (t := 16) rfl rfl) ?_
   try simp only [nY]
   refine q_un (yn (t := 19) rfl rfl) ?_
   try simp only [nY]
   refine q_un (yn (t := 19) rfl rfl) ?_
   try simp only [nY]
   refine q_un (yn (t := 19) rfl rfl) ?_
   try simp only [nY]
   refine q_un (yn (t := 19) rfl rfl) ?_
   try simp only [nY]
   refine q_un (yn (t := 19) rfl rfl) ?_
   try simp only [nY]
   refine q_un (yn (t := 19) rfl rfl) ?_
   try simp only [nY]
   refine q_un (yn (t := 19) rfl rfl) ?_
   try simp only [nY]
   refine q_un (yn (t := 19) rfl rfl) ?_
   try simp only [nY]
   refine q_un (yn (t := 19) rfl rfl) ?_
   try simp only [nY]
   refine q_un (yn (t := 19) rfl rfl) ?_
   try simp only [nY]
   refine q_un (yn (t := 19) rfl rfl) ?_
   try simp only [nY]
   refine q_un (yn (t := 19) rfl rfl) ?_
   try simp only [nY]
   refine q_un (yn (t := 19) rfl rfl) ?_
   try simp only [nY]
   refine q_off (yi (t := 16) rfl rfl) ?_
   try simp only [nY]
   refine q_go (fun w hS => s_pick_t) ?_
   try simp only [nY]
   clear hS
   refine q_nil fun w1 hS => ?_
   refine hK7 _ _ ?_
   refine x_cond_t (h := ?_)
   try have hR : rightL l = false := rgt_false (k := k) (by rw [rgtAt, hx, hy, decide_eq_false (show ¬ k = 0 by omega), show keyLt (akey y) (akey x) = false by simpa using @c, Bool.or_false, Bool.and_false]) (by omega)
   refine x_seq fun K8 hK8 => x_region ?_
   refine s_go s_assign ?_
   try simp only [nY]
   refine x_nil (hK8 _ _ ?_)
   refine x_ret (r_tmp rfl ?_)
   exact ⟨by rw [hR]; rfl, hS.ext_of⟩
  try simp only [n3, n4]
  try simp only [dZ, ne_eq] at hp1
  have hax : atomR x = true := by simpa using hp1
  refine q_on (yi (t := 16) rfl rfl) ?_
  refine q_go (fun w hS => s_move) ?_
  try simp only [nY]
  refine q_on (yi (t := 16) rfl rfl) ?_
  refine q_go (fun w hS => s_gtr) ?_
  try simp only [nY]
  refine q_on (yi (t := 16) rfl rfl) ?_
  refine q_go (fun w hS => s_move) ?_
  try simp only [nY]
  refine q_part 19 rfl (fun hp2 => ?_) (fun hp2 => ?_)
  ·
   try simp only [n3, n4]
   try simp only [dZ, ne_eq] at hp2
   obtain ⟨y, hy⟩ : ∃ y, l.getD (k - 1) [] = y := ⟨_, rfl⟩
   have hb : AtomOk y := by rw [← hy]; exact hv.get (by omega)
   have hkb := hb.key
   refine q_on (yi (t := 19) rfl rfl) ?_
   refine q_go (fun w hS => s_move) ?_
   try simp only [nY]
   refine q_on (yi (t := 19) rfl rfl) ?_
   refine q_go (fun w hS => s_move) ?_
   try simp only [nY]
   refine q_on (yi (t := 19) rfl rfl) ?_
   refine q_go (fun w hS => s_sub (hc := by exact wr_i64 (by omega) (by omega))) ?_
   try simp only [nY]
   rw [show ((k : Int) - 1) = ((k - 1 : Nat) : Int) by omega]
   refine q_on (yi (t := 19) rfl rfl) ?_
   refine q_go (fun w hS => m_indexAddr_rd U22 ti66 (hS := hS)) ?_
   try simp only [nY, Nat.mul_one, Nat.zero_add, Int.toNat_natCast, Int.reduceToNat]
   refine q_on (yi (t := 19) rfl rfl) ?_
   refine q_go (fun w hS => m_fieldAddr_rd U66 (hi := ti61) (hS := hS)) ?_
   try simp only [nY, fY, gY]
   refine q_on (yi (t := 19) rfl rfl) ?_
   refine q_go (fun w hS => m_loada_rd U61 (hi := ti61) (hS := hS) (hfit := by rw [arows_len]; omega)) ?_
   try simp only [nY, gY]
   rw [arow_key (by omega) hv, hy]
   refine q_on (yi (t := 19) rfl rfl) ?_
   refine q_go (fun w hS => s_move) ?_
   try simp only [nY]
   refine q_on (yi (t := 19) rfl rfl) ?_
   refine q_go (fun w hS => s_move) ?_
   try simp only [nY]
   refine q_on (yi (t := 19) rfl rfl) ?_
   refine q_go (fun w hS => m_indexAddr_rd U22 ti66 (hS := hS)) ?_
   try simp only [nY, Nat.mul_one, Nat.zero_add, Int.toNat_natCast, Int.reduceToNat]
   refine q_on (yi (t := 19) rfl rfl) ?_
   refine q_go (fun w hS => m_fieldAddr_rd U66 (hi := ti61) (hS := hS)) ?_
   try simp only [nY, fY, gY]
   refine q_on (yi (t := 19) rfl rfl) ?_
   refine q_go (fun w hS => m_loada_rd U61 (hi := ti61) (hS := hS) (hfit := by rw [arows_len]; omega)) ?_
   try simp only [nY, gY]
   rw [arow_key (by omega) hv, hx]
   refine q_on (yi (t := 19) rfl rfl) ?_
   apply q_call en36
   case H =>
     intro w hS
     try simp only [nY, mY]
     refine CallR.mono (c_ref08Less (akey y) (akey x) hkb hk _) ?_
     rintro _ w1 ⟨rfl, hE⟩; exact ⟨rfl, hS.ext hE⟩
   try simp only [nY]
   refine q_on (yi (t := 19) rfl rfl) ?_
   refine q_go (fun w hS => s_not) ?_
   try simp only [nY]
   refine q_on (yi (t := 16) rfl rfl) ?_
   refine q_go (fun w hS => s_pick_t) ?_
   try simp only [nY]
   refine q_go (fun w hS => s_pick_f) ?_
   try simp only [nY]
   clear hS
   refine q_nil fun w2 hS => ?_
   refine hK7 _ _ ?_
   refine x_cond (ht := fun hc3 => ?_) (hf := fun hc3 => ?_)
   ·
    try simp only [dY] at hc3
    try have hR : rightL l = false := rgt_false (k := k) (by rw [rgtAt, hx, hy, decide_eq_false (show ¬ k = 0 by omega), show keyLt (akey y) (akey x) = false by simpa using hc3, Bool.or_false, Bool.and_false]) (by omega)
    refine x_seq fun K9 hK9 => x_region ?_
    refine s_go s_assign ?_
    try simp only [nY]
    refine x_nil (hK9 _ _ ?_)
    refine x_ret (r_tmp rfl ?_)
    exact ⟨by rw [hR]; rfl, hS.ext_of⟩
   try simp only [dY] at hc3
   try have hat : rgtAt l k = true := by rw [rgtAt, hx, hy, hax, show keyLt (akey y) (akey x) = true by simpa using hc3, Bool.or_true]; rfl
   refine x_skip ?_
   refine hK6 _ _ ?_
   refine x_region ?_
   refine s_go s_move ?_
   try simp only [nY]
   refine s_go (s_add (hc := by exact wr_i64 (by omega) (by omega))) ?_
   try simp only [nY]
   refine s_go s_assign ?_
   try simp only [nY]
   refine x_nil ?_
   refine loop_back (m' := l.length - (k + 1)) (by simp only [clob, List.foldl, nZ]) ?_ ?_
   · try simp only [nY]
     exact ⟨k + 1, by omega, by omega, by rfl, by rw [rgt, hrg, hat]; rfl, hS.sel (by repeat (first | exact Sel.nil | (refine Sel.cons (by repeat (exact Del.head)) ?_)))⟩
   · omega
  try simp only [n3, n4]
  try simp only [dZ, ne_eq] at hp2
  have hat : rgtAt l k = true := by rw [rgtAt, hx, hax, decide_eq_true (show k = 0 by omega)]; rfl
  refine q_off (yi (t := 19) rfl rfl) ?_
  try simp only [nY]
  refine q_off (yi (t := 19) rfl rfl) ?_
  try simp only [nY]
  refine q_off (yi (t := 19) rfl rfl) ?_
  try simp only [nY]
  refine q_off (yi (t := 19) rfl rfl) ?_
  try simp only [nY]
  refine q_off (yi (t := 19) rfl rfl) ?_
  try simp only [nY]
  refine q_off (yi (t := 19) rfl rfl) ?_
  try simp only [nY]
  refine q_off (yi (t := 19) rfl rfl) ?_
  try simp only [nY]
  refine q_off (yi (t := 19) rfl rfl) ?_
  try simp only [nY]
  refine q_off (yi (t := 19) rfl rfl) ?_
  try simp only [nY]
  refine q_off (yi (t := 19) rfl rfl) ?_
  try simp only [nY]
  refine q_off (yi (t := 19) rfl rfl) ?_
  try simp only [nY]
  refine q_off (yi (t := 19) rfl rfl) ?_
  try simp only [nY]
  refine q_off (yi (t := 19) rfl rfl) ?_
  try simp only [nY]
  refine q_on (yi (t := 16) rfl rfl) ?_
  refine q_go (fun w hS => s_pick_f) ?_
  try simp only [nY]
  refine q_go (fun w hS => s_pick_f) ?_
  try simp only [nY]
  clear hS
  refine q_nil fun w3 hS => ?_
  refine hK7 _ _ ?_
  refine x_cond_f (h := ?_)
  try have hat : rgtAt l k = true := by rw [rgtAt, hx, hy, hax, show keyLt (akey y) (akey x) = true by simpa using @c, Bool.or_true]; rfl
  refine x_skip ?_
  refine hK6 _ _ ?_
  refine x_region ?_
  refine s_go s_move ?_
  try simp only [nY]
  refine s_go (s_add (hc := by exact wr_i64 (by omega) (by omega))) ?_
  try simp only [nY]
  refine s_go s_assign ?_
  try simp only [nY]
  refine x_nil ?_
  refine loop_back (m' := l.length - (k + 1)) (by simp only [clob, List.foldl, nZ]) ?_ ?_
  · try simp only [nY]
    exact ⟨k + 1, by omega, by omega, by rfl, by rw [rgt, hrg, hat]; rfl, hS.sel (by repeat (first | exact Sel.nil | (refine Sel.cons (by repeat (exact Del.head)) ?_)))⟩
  · omega
 try simp only [dY] at hc1
 obtain rfl : k = l.length := by omega
 have hR : rightL l = true := hrg
 refine x_exit (look_here ?_)
 refine hK2 _ _ ?_
 refine x_seq fun K10 hK10 => x_region ?_
 refine s_go s_assign ?_
 try simp only [nY]
 refine x_nil (hK10 _ _ ?_)
 refine x_ret (r_tmp rfl ?_)
 exact ⟨by rw [hR]; rfl, hS.ext_of⟩
theorem c_ref10put (w0 : World) (A : Option Addr) (c : Nat) (l : List (List Int)) (hr : Rd w0 A 21 l.length (arows l)) (hv : AOks l) (hn : l.length ≤ 1000000000) (a : List Int) (ha : AtomOk a)  :
    CallR Tryz.prog 31 #[.slice A l.length c, .agg (AA a)] w0 fun v w' => ∃ B d, v = .slice B (putS a l).length d ∧ St NoB w0 w' [.vec B d 66 21 (putS a l).length (arows (putS a l))] := by
 have hS := St.rd1 (S := NoB) hr
 have hvl := arows_len l
 have hal := ha.len
 have hka := ha.key
 have hka12 := hka.len
 have hva := ha.val
 refine c_enter (l := [.slice A l.length c, .agg (AA a), undef, undef, undef, undef, undef, undef, undef, undef, undef, undef, undef, undef, undef, undef, undef, undef, undef, undef, undef, undef, undef, undef, undef, undef, undef, undef, undef, undef, undef, undef, undef, undef, undef, undef, undef, undef, undef, undef, undef, undef, undef, undef, undef, undef, undef, undef, undef, undef, undef, undef, undef, undef, undef, undef, undef, undef, undef, undef, undef, undef, undef, undef, undef, undef]) Tryz.func31 rfl (by simp only [Tryz.ntmps31, List.size_toArray, List.length_cons, List.length_nil, Nat.reduceAdd, Nat.reduceSub, Array.replicate_succ, Array.replicate_zero, List.push_toArray, List.append_toArray, List.nil_append, List.cons_append]) ?_
 refine x_seq fun K1 hK1 => x_region ?_
 refine m_box hS (fun w1 g1 hS => ?_)
 try simp only [nY, aY] at hS ⊢
 refine s_go s_assign ?_
 try simp only [nY]
 refine x_nil (hK1 _ _ ?_)
 refine x_seq fun K2 hK2 => x_region ?_
 refine s_go s_assign ?_
 try simp only [nY]
 refine x_nil (hK2 _ _ ?_)
 refine x_seq fun K3 hK3 => x_region ?_
 refine s_go s_assign ?_
 try simp only [nY]
 refine x_nil (hK3 _ _ ?_)
 refine x_seq fun K4 hK4 => ?_
 refine x_seq fun K5 hK5 => x_region ?_
 replace hS := hS.nil_vec 66 21
 refine s_go s_assign ?_
 try simp only [nY]
 refine x_nil (hK5 _ _ ?_)
 refine x_block ?_
 refine x_loop [5, 6, 7, 8, 9, 10, 11, 12, 13, 14, 15, 16, 17, 18, 19, 20, 21, 22, 23, 24, 25, 26, 27, 28, 29, 30, 31, 32, 33, 34, 35, 36, 37, 38, 39, 40, 41, 42, 43, 44, 45, 46, 47, 48, 49, 50, 51, 52, 53, 54, 55, 56, 57, 58] (fun m f w => ∃ (k : Nat) (B : Option Addr) (d : Nat) (o : List (List Int)) (dn : Bool), k ≤ l.length ∧ m = l.length - k ∧ f 7 = .int .i64 (k : Int) ∧ f 6 = .bool dn ∧ f 5 = .slice B o.length d ∧ (l.take k).foldl (putF a) ([], false) = (o, dn) ∧ o.length ≤ 2 * k ∧ St NoB w0 w [.vec B d 66 21 (o).length (arows (o)), .obj g1 (.cells (AA a) 66 (0, 0)), .rd A 21 (l).length (arows (l))]) (l.length) ?init1 (fun m1 f1 wl1 hI => ?_)
 case init1 =>
  try simp only [nY]
  exact ⟨0, none, 0, [], false, by omega, rfl, rfl, rfl, rfl, rfl, by simp, hS⟩
 obtain ⟨k, B, d, o, dn, hk0, hm, h7, h6, h5, hst, hol, hS⟩ := hI
 simp only [clob, List.foldl, n3, n4, h7, h6, h5]
 obtain ⟨x, hx⟩ : ∃ x, l.getD k [] = x := ⟨_, rfl⟩
 refine x_seq fun K6 hK6 => ?_
 refine x_seq fun K7 hK7 => x_region ?_
 refine s_go s_move ?_
 try simp only [nY]
 refine s_go s_move ?_
 try simp only [nY]
 refine s_go (s_len_sl U22) ?_
 try simp only [nY]
 refine s_go s_lss ?_
 try simp only [nY]
 refine x_nil (hK7 _ _ ?_)
 refine x_cond (ht := fun hc1 => ?_) (hf := fun hc1 => ?_)
 ·
  try simp only [dY] at hc1
  have hax : AtomOk x := by rw [← hx]; exact hv.get (by omega)
  have hxl := hax.len
  have hkx := hax.key
  have hkx12 := hkx.len
  have hvx := hax.val
  have hps := put_step (by omega) hx hst
  refine x_skip ?_
  refine hK6 _ _ ?_
  refine x_seq fun K8 hK8 => ?_
  refine x_block ?_
  refine x_seq fun K9 hK9 => ?_
  refine x_seq fun K10 hK10 => ?_
  refine x_quiet (by kernel_rfl) (by kernel_rfl) hS ?_
  refine q_go (fun w hS => s_move) ?_
  try simp only [nY]
  refine q_go (fun w hS => s_move) ?_
  try simp only [nY]
  refine q_go (fun w hS => m_indexAddr_rd U22 ti66 (hS := hS)) ?_
  try simp only [nY, Nat.mul_one, Nat.zero_add, Int.toNat_natCast, Int.reduceToNat]
  refine q_go (fun w hS => m_fieldAddr_rd U66 (hi := ti61) (hS := hS)) ?_
  try simp only [nY, fY, gY]
  refine q_go (fun w hS => m_loada_rd U61 (hi := ti61) (hS := hS) (hfit := by rw [arows_len]; omega)) ?_
  try simp only [nY, gY]
  rw [arow_key (by omega) hv, hx]
  refine q_go (fun w hS => m_fieldAddr U66 (hi := ti61)) ?_
  try simp only [nY, fY, gY]
  refine q_go (fun w hS => m_loada_obj U61 (hi := ti61) (hS := hS) (hfit := by (rw [zi_size (by omega)]; decide))) ?_
  try simp only [nY, gY]
  rw [atom_key hal]
  refine q_go (fun w hS => s_eql_agg eqv61 (hg := eg61) (hX := rfl) (hY := rfl) (h1 := by assumption) (h2 := by assumption)) ?_
  try simp only [nY]
  clear hS
  refine q_nil fun w2 hS => ?_
  refine hK10 _ _ ?_
  refine x_cond (ht := fun hc2 => ?_) (hf := fun hc2 => ?_)
  ·
   try simp only [dY] at hc2
   have hst2 := hps.trans (put_eqk hc2)
   have hmo := more_ok hvx hva
   have hml := hmo.len
   have hyl : (akey a ++ moreV (aval x) (aval a)).length = 21 := (kv_ok hka hmo).len
   refine x_seq fun K11 hK11 => ?_
   refine x_mixed_c (Lc := [.obj g1 (.cells (AA a) 66 (0, 0)), .rd A 21 (l).length (arows (l))]) [] 0 [5, 22, 23, 24, 25, 26, 27, 28, 29, 30, 31, 32, 33, 34, 35] (fun f w => ∃ (B2 : Option Addr) (d2 : Nat), f 5 = .slice B2 (o.length + 1) d2 ∧ St NoB w0 w [.vec B2 d2 66 21 (o.length + 1) (arows (o ++ [(akey a ++ moreV (aval x) (aval a))])), .obj g1 (.cells (AA a) 66 (0, 0)), .rd A 21 (l).length (arows (l))]) (by kernel_rfl) (by kernel_rfl) (by kernel_rfl) (by decide) hS (fun w3 hS => ?mixpre701) ?mixrest701
   case mixpre701 =>
    refine p_nil ?_
    simp only [List.length_cons, List.length_nil, Nat.reduceAdd, Nat.reduceSub]
    refine any_gn 0 rfl (go_yields w_none (fun w hS => s_move)) ?_
    try simp only [nY]
    refine any_gn 1 rfl (go_yields w_none (fun w hS => m_fieldAddr U66 (hi := ti61))) ?_
    try simp only [nY, fY, gY]
    refine any_gn 2 rfl (go_yields w_none (fun w hS => m_loada_obj U61 (hi := ti61) (hS := hS) (hfit := by (rw [zi_size (by omega)]; decide)))) ?_
    try simp only [nY, gY]
    rw [atom_key hal]
    refine any_gn 3 rfl (go_yields w_none (fun w hS => s_move)) ?_
    try simp only [nY]
    refine any_gn 4 rfl (go_yields w_none (fun w hS => s_move)) ?_
    try simp only [nY]
    refine any_gn 5 rfl (go_yields w_none (fun w hS => m_indexAddr_rd U22 ti66 (hS := hS))) ?_
    try simp only [nY, Nat.mul_one, Nat.zero_add, Int.toNat_natCast, Int.reduceToNat]
    refine any_gn 6 rfl (go_yields w_none (fun w hS => m_fieldAddr_rd U66 (hi := ti64) (hS := hS))) ?_
    try simp only [nY, fY, gY]
    refine any_gn 7 rfl (go_yields w_none (fun w hS => m_loada_rd U64 (hi := ti64) (hS := hS) (hfit := by rw [arows_len]; omega))) ?_
    try simp only [nY, gY]
    rw [arow_val (by omega) hv, hx]
    refine any_gn 8 rfl (go_yields w_none (fun w hS => m_fieldAddr U66 (hi := ti64))) ?_
    try simp only [nY, fY, gY]
    refine any_gn 9 rfl (go_yields w_none (fun w hS => m_loada_obj U64 (hi := ti64) (hS := hS) (hfit := by (rw [zi_size (by omega)]; decide)))) ?_
    try simp only [nY, gY]
    rw [atom_val hal]
    apply any_gn 10 rfl (call_yields w_none en37 ?H1) ?K1
    case H1 =>
      intro w hS
      try simp only [nY, mY]
      refine CallR.mono (c_ref09More (aval x) (aval a) hvx hva _) ?_
      rintro _ w1 ⟨rfl, hE⟩; exact ⟨rfl, hE⟩
    try simp only [nY]
    refine any_gn 11 rfl (go_yields w_none (fun w hS => s_build_struct (cells := (AA (akey a ++ moreV (aval x) (aval a)))) U66 ti66 bp66 (hc := by simp only [List.map_toArray, List.map_cons, List.map_nil, nY, List.toList_toArray]; exact fill_atom (by rfl) (by rfl) (by rfl) hka12 hml))) ?_
    try simp only [nY]
    refine any_step [12] (by kernel_rfl) (by decide) (fun w4 hE => ⟨fun _ => (hS.ext hE).sel (by repeat (first | exact Sel.nil | (refine Sel.cons (by repeat (first | exact Del.head | apply Del.tail)) ?_))), ?_⟩)
    replace hS := hS.ext hE
    intro i hi
    simp only [List.mem_cons, List.not_mem_nil, or_false] at hi
    subst hi
    refine any_op (by rfl) ?_
    refine m_buildRow (cells := (AA (akey a ++ moreV (aval x) (aval a)))) U22 ti66 (hc := by simp only [List.map_toArray, List.map_cons, List.map_nil, nY, List.toList_toArray]; exact fill_one (by rfl) (zi_size21 hyl) (by rfl)) (hS := hS) (h := fun w5 g5 hS => ?_)
    try simp only [nY, aY] at hS ⊢
    replace hS := hS.obj_rd (sz := 21) (n := 1) (by exact zi_size21 hyl) .head
    rw [arow_one hyl] at hS
    refine x_nil ?_
    refine any_step [13] (by kernel_rfl) (by decide) (fun w6 hE => ⟨fun _ => (hS.ext hE).sel (by repeat (first | exact Sel.nil | (refine Sel.cons (by repeat (first | exact Del.head | apply Del.tail)) ?_))), ?_⟩)
    replace hS := hS.ext hE
    intro i hi
    simp only [List.mem_cons, List.not_mem_nil, or_false] at hi
    subst hi
    refine any_op (by rfl) ?_
    refine m_append U22 ti66 (hS := hS) (h1 := rowsZ_cells _ _) (h := fun w7 A7 C7 hS => ?_)
    try simp only [← List.map_append, ← List.map_drop, ← List.map_take, Nat.mul_one, Nat.zero_mul, Nat.sub_zero, List.drop_zero, List.nil_append, Nat.zero_add] at hS ⊢
    try simp only [nY, aY] at hS ⊢
    rw [add_one] at hS
    refine x_nil ?_
    refine any_gn 14 rfl (go_yields w_none (fun w hS => s_assign)) ?_
    try simp only [nY]
    refine any_nil (by kernel_rfl) (fun w8 hE => ?_)
    replace hS := hS.ext hE
    refine ⟨fun _ => hS.selA, ?_⟩
    refine mix_leaf (by simp only [clob, List.foldl, nZ]) ?_
    try simp only [n1, n2]
    exact ⟨_, _, by trivial, hS.selA⟩
   intro fm1 w9 hM
   obtain ⟨B2, d2, h5, hS⟩ := hM
   simp only [clob, List.foldl, n3, n4, h5]
   refine hK11 _ _ ?_
   refine x_seq fun K12 hK12 => x_region ?_
   refine s_go s_assign ?_
   try simp only [nY]
   refine x_nil (hK12 _ _ ?_)
   refine x_exit (look_here ?_)
   refine hK8 _ _ ?_
   refine x_region ?_
   refine s_go s_move ?_
   try simp only [nY]
   refine s_go (s_add (hc := by exact wr_i64 (by omega) (by omega))) ?_
   try simp only [nY]
   refine s_go s_assign ?_
   try simp only [nY]
   refine x_nil ?_
   refine loop_back (m' := l.length - (k + 1)) (by simp only [clob, List.foldl, nZ]) ?_ ?_
   · try simp only [nY]
     refine ⟨k + 1, _, _, _, _, by omega, by omega, by rfl, by rfl, by simp only [List.length_append, List.length_cons, List.length_nil, Nat.zero_add]; rfl, hst2, by simp; omega, ?_⟩
     simp only [List.length_append, List.length_cons, List.length_nil, Nat.zero_add]; exact hS.sel (by repeat (first | exact Sel.nil | (refine Sel.cons (by repeat (exact Del.head)) ?_)))
   · omega
  try simp only [dY] at hc2
  have hne := hc2
  refine x_skip ?_
  refine hK9 _ _ ?_
  refine x_seq fun K13 hK13 => ?_
  refine x_seq fun K14 hK14 => ?_
  refine x_quiet (by kernel_rfl) (by kernel_rfl) hS ?_
  refine q_go (fun w hS => s_move) ?_
  try simp only [nY]
  refine q_go (fun w hS => s_not) ?_
  try simp only [nY]
  refine q_go (fun w hS => s_move) ?_
  try simp only [nY]
  refine q_part 38 rfl (fun hp1 => ?_) (fun hp1 => ?_)
  ·
   try simp only [n3, n4]
   try simp only [dZ, ne_eq] at hp1
   obtain rfl : dn = false := by simpa using hp1
   refine q_on (yi (t := 38) rfl rfl) ?_
   refine q_go (fun w hS => m_fieldAddr U66 (hi := ti61)) ?_
   try simp only [nY, fY, gY]
   refine q_on (yi (t := 38) rfl rfl) ?_
   refine q_go (fun w hS => m_loada_obj U61 (hi := ti61) (hS := hS) (hfit := by (rw [zi_size (by omega)]; decide))) ?_
   try simp only [nY, gY]
   rw [atom_key hal]
   refine q_on (yi (t := 38) rfl rfl) ?_
   refine q_go (fun w hS => s_move) ?_
   try simp only [nY]
   refine q_on (yi (t := 38) rfl rfl) ?_
   refine q_go (fun w hS => s_move) ?_
   try simp only [nY]
   refine q_on (yi (t := 38) rfl rfl) ?_
   refine q_go (fun w hS => m_indexAddr_rd U22 ti66 (hS := hS)) ?_
   try simp only [nY, Nat.mul_one, Nat.zero_add, Int.toNat_natCast, Int.reduceToNat]
   refine q_on (yi (t := 38) rfl rfl) ?_
   refine q_go (fun w hS => m_fieldAddr_rd U66 (hi := ti61) (hS := hS)) ?_
   try simp only [nY, fY, gY]
   refine q_on (yi (t := 38) rfl rfl) ?_
   refine q_go (fun w hS => m_loada_rd U61 (hi := ti61) (hS := hS) (hfit := by rw [arows_len]; omega)) ?_
   try simp only [nY, gY]
   rw [arow_key (by omega) hv, hx]
   refine q_on (yi (t := 38) rfl rfl) ?_
   apply q_call en36
   case H =>
     intro w hS
     try simp only [nY, mY]
     refine CallR.mono (c_ref08Less (akey a) (akey x) hka hkx _) ?_
     rintro _ w1 ⟨rfl, hE⟩; exact ⟨rfl, hS.ext hE⟩
   try simp only [nY]
   refine q_go (fun w hS => s_pick_t) ?_
   try simp only [nY]
   clear hS
   refine q_nil fun w10 hS => ?_
   refine hK14 _ _ ?_
   refine x_cond (ht := fun hc3 => ?_) (hf := fun hc3 => ?_)
   ·
    try simp only [dY] at hc3
    have hst2 := hps.trans (put_lt hne hc3)
    refine x_seq fun K15 hK15 => x_region ?_
    refine s_go s_move ?_
    try simp only [nY]
    refine s_go (m_load_row U66 (hi := ti66) (hS := hS) (hfit := by (rw [zi_size (by omega)]; rfl))) ?_
    try simp only [nY, gY]
    refine m_buildRow (cells := (AA a)) U22 ti66 (hc := by simp only [List.map_toArray, List.map_cons, List.map_nil, nY, List.toList_toArray]; exact fill_one (by rfl) (zi_size21 hal) (by rfl)) (hS := hS) (h := fun w11 g11 hS => ?_)
    try simp only [nY, aY] at hS ⊢
    replace hS := hS.obj_rd (sz := 21) (n := 1) (by exact zi_size21 hal) .head
    rw [arow_one hal] at hS
    refine m_append U22 ti66 (hS := hS) (h1 := rowsZ_cells _ _) (h := fun w12 A12 C12 hS => ?_)
    try simp only [← List.map_append, ← List.map_drop, ← List.map_take, Nat.mul_one, Nat.zero_mul, Nat.sub_zero, List.drop_zero, List.nil_append, Nat.zero_add] at hS ⊢
    try simp only [nY, aY] at hS ⊢
    rw [add_one] at hS
    refine s_go s_assign ?_
    try simp only [nY]
    refine x_nil (hK15 _ _ ?_)
    refine x_region ?_
    refine s_go s_assign ?_
    try simp only [nY]
    refine x_nil (hK13 _ _ ?_)
    refine x_region ?_
    refine s_go s_move ?_
    try simp only [nY]
    refine s_go s_move ?_
    try simp only [nY]
    refine s_go s_move ?_
    try simp only [nY]
    refine s_go (m_indexAddr_rd U22 ti66 (hS := hS)) ?_
    try simp only [nY, Nat.mul_one, Nat.zero_add, Int.toNat_natCast, Int.reduceToNat]
    refine s_go (m_loada_rd U66 (hi := ti66) (hS := hS) (hfit := by rw [arows_len]; omega)) ?_
    try simp only [nY, gY]
    rw [arow_get (by omega) hv, hx]
    refine m_buildRow (cells := (AA x)) U22 ti66 (hc := by simp only [List.map_toArray, List.map_cons, List.map_nil, nY, List.toList_toArray]; exact fill_one (by rfl) (zi_size21 hxl) (by rfl)) (hS := hS) (h := fun w13 g13 hS => ?_)
    try simp only [nY, aY] at hS ⊢
    replace hS := hS.obj_rd (sz := 21) (n := 1) (by exact zi_size21 hxl) .head
    rw [arow_one hxl] at hS
    refine m_append U22 ti66 (hS := hS) (h1 := rowsZ_cells _ _) (h := fun w14 A14 C14 hS => ?_)
    try simp only [← List.map_append, ← List.map_drop, ← List.map_take, Nat.mul_one, Nat.zero_mul, Nat.sub_zero, List.drop_zero, List.nil_append, Nat.zero_add] at hS ⊢
    try simp only [nY, aY] at hS ⊢
    rw [add_one] at hS
    refine s_go s_assign ?_
    try simp only [nY]
    refine x_nil (hK8 _ _ ?_)
    refine x_region ?_
    refine s_go s_move ?_
    try simp only [nY]
    refine s_go (s_add (hc := by exact wr_i64 (by omega) (by omega))) ?_
    try simp only [nY]
    refine s_go s_assign ?_
    try simp only [nY]
    refine x_nil ?_
    refine loop_back (m' := l.length - (k + 1)) (by simp only [clob, List.foldl, nZ]) ?_ ?_
    · try simp only [nY]
      refine ⟨k + 1, _, _, _, _, by omega, by omega, by rfl, by rfl, by simp only [List.length_append, List.length_cons, List.length_nil, Nat.zero_add]; rfl, hst2, by simp; omega, ?_⟩
      simp only [List.length_append, List.length_cons, List.length_nil, Nat.zero_add]; exact hS.selA
    · omega
   try simp only [dY] at hc3
   try have hst2 := hps.trans (put_on hne hc3)
   refine x_skip ?_
   refine hK13 _ _ ?_
   refine x_region ?_
   refine s_go s_move ?_
   try simp only [nY]
   refine s_go s_move ?_
   try simp only [nY]
   refine s_go s_move ?_
   try simp only [nY]
   refine s_go (m_indexAddr_rd U22 ti66 (hS := hS)) ?_
   try simp only [nY, Nat.mul_one, Nat.zero_add, Int.toNat_natCast, Int.reduceToNat]
   refine s_go (m_loada_rd U66 (hi := ti66) (hS := hS) (hfit := by rw [arows_len]; omega)) ?_
   try simp only [nY, gY]
   rw [arow_get (by omega) hv, hx]
   refine m_buildRow (cells := (AA x)) U22 ti66 (hc := by simp only [List.map_toArray, List.map_cons, List.map_nil, nY, List.toList_toArray]; exact fill_one (by rfl) (zi_size21 hxl) (by rfl)) (hS := hS) (h := fun w15 g15 hS => ?_)
   try simp only [nY, aY] at hS ⊢
   replace hS := hS.obj_rd (sz := 21) (n := 1) (by exact zi_size21 hxl) .head
   rw [arow_one hxl] at hS
   refine m_append U22 ti66 (hS := hS) (h1 := rowsZ_cells _ _) (h := fun w16 A16 C16 hS => ?_)
   try simp only [← List.map_append, ← List.map_drop, ← List.map_take, Nat.mul_one, Nat.zero_mul, Nat.sub_zero, List.drop_zero, List.nil_append, Nat.zero_add] at hS ⊢
   try simp only [nY, aY] at hS ⊢
   rw [add_one] at hS
   refine s_go s_assign ?_
   try simp only [nY]
   refine x_nil (hK8 _ _ ?_)
   refine x_region ?_
   refine s_go s_move ?_
   try simp only [nY]
   refine s_go (s_add (hc := by exact wr_i64 (by omega) (by omega))) ?_
   try simp only [nY]
   refine s_go s_assign ?_
   try simp only [nY]
   refine x_nil ?_
   refine loop_back (m' := l.length - (k + 1)) (by simp only [clob, List.foldl, nZ]) ?_ ?_
   · try simp only [nY]
     refine ⟨k + 1, _, _, _, _, by omega, by omega, by rfl, by rfl, by simp only [List.length_append, List.length_cons, List.length_nil, Nat.zero_add]; rfl, hst2, by simp; omega, ?_⟩
     simp only [List.length_append, List.length_cons, List.length_nil, Nat.zero_add]; exact hS.selA
   · omega
  try simp only [n3, n4]
  try simp only [dZ, ne_eq] at hp1
  obtain rfl : dn = true := by simpa using hp1
  have hst2 := hps.trans (put_dn hne)
  refine q_off (yi (t := 38) rfl rfl) ?_
  try simp only [nY]
  refine q_off (yi (t := 38) rfl rfl) ?_
  try simp only [nY]
  refine q_off (yi (t := 38) rfl rfl) ?_
  try simp only [nY]
  refine q_off (yi (t := 38) rfl rfl) ?_
  try simp only [nY]
  refine q_off (yi (t := 38) rfl rfl) ?_
  try simp only [nY]
  refine q_off (yi (t := 38) rfl rfl) ?_
  try simp only [nY]
  refine q_off (yi (t := 38) rfl rfl) ?_
  try simp only [nY]
  refine q_off (yi (t := 38) rfl rfl) ?_
  try simp only [nY]
  refine q_go (fun w hS => s_pick_f) ?_
  try simp only [nY]
  clear hS
  refine q_nil fun w17 hS => ?_
  refine hK14 _ _ ?_
  refine x_cond_f (h := ?_)
  try have hst2 := hps.trans (put_on hne @c)
  refine x_skip ?_
  refine hK13 _ _ ?_
  refine x_region ?_
  refine s_go s_move ?_
  try simp only [nY]
  refine s_go s_move ?_
  try simp only [nY]
  refine s_go s_move ?_
  try simp only [nY]
  refine s_go (m_indexAddr_rd U22 ti66 (hS := hS)) ?_
  try simp only [nY, Nat.mul_one, Nat.zero_add, Int.toNat_natCast, Int.reduceToNat]
  refine s_go (m_loada_rd U66 (hi := ti66) (hS := hS) (hfit := by rw [arows_len]; omega)) ?_
  try simp only [nY, gY]
  rw [arow_get (by omega) hv, hx]
  refine m_buildRow (cells := (AA x)) U22 ti66 (hc := by simp only [List.map_toArray, List.map_cons, List.map_nil, nY, List.toList_toArray]; exact fill_one (by rfl) (zi_size21 hxl) (by rfl)) (hS := hS) (h := fun w18 g18 hS => ?_)
  try simp only [nY, aY] at hS ⊢
  replace hS := hS.obj_rd (sz := 21) (n := 1) (by exact zi_size21 hxl) .head
  rw [arow_one hxl] at hS
  refine m_append U22 ti66 (hS := hS) (h1 := rowsZ_cells _ _) (h := fun w19 A19 C19 hS => ?_)
  try simp only [← List.map_append, ← List.map_drop, ← List.map_take, Nat.mul_one, Nat.zero_mul, Nat.sub_zero, List.drop_zero, List.nil_append, Nat.zero_add] at hS ⊢
  try simp only [nY, aY] at hS ⊢
  rw [add_one] at hS
  refine s_go s_assign ?_
  try simp only [nY]
  refine x_nil (hK8 _ _ ?_)
  refine x_region ?_
  refine s_go s_move ?_
  try simp only [nY]
  refine s_go (s_add (hc := by exact wr_i64 (by omega) (by omega))) ?_
  try simp only [nY]
  refine s_go s_assign ?_
  try simp only [nY]
  refine x_nil ?_
  refine loop_back (m' := l.length - (k + 1)) (by simp only [clob, List.foldl, nZ]) ?_ ?_
  · try simp only [nY]
    refine ⟨k + 1, _, _, _, _, by omega, by omega, by rfl, by rfl, by simp only [List.length_append, List.length_cons, List.length_nil, Nat.zero_add]; rfl, hst2, by simp; omega, ?_⟩
    simp only [List.length_append, List.length_cons, List.length_nil, Nat.zero_add]; exact hS.selA
  · omega
 try simp only [dY] at hc1
 obtain rfl : k = l.length := by omega
 rw [List.take_of_length_le (Nat.le_refl _)] at hst
 have hpe := put_end hst
 refine x_exit (look_here ?_)
 refine hK4 _ _ ?_
 refine x_seq fun K16 hK16 => ?_
 refine x_seq fun K17 hK17 => x_region ?_
 refine s_go s_move ?_
 try simp only [nY]
 refine s_go s_not ?_
 try simp only [nY]
 refine x_nil (hK17 _ _ ?_)
 refine x_cond (ht := fun hc5 => ?_) (hf := fun hc5 => ?_)
 ·
  try simp only [dY] at hc5
  obtain rfl : dn = false := by simpa using hc5
  rw [if_neg (by decide)] at hpe
  refine x_region ?_
  refine s_go s_move ?_
  try simp only [nY]
  refine s_go (m_load_row U66 (hi := ti66) (hS := hS) (hfit := by (rw [zi_size (by omega)]; rfl))) ?_
  try simp only [nY, gY]
  refine m_buildRow (cells := (AA a)) U22 ti66 (hc := by simp only [List.map_toArray, List.map_cons, List.map_nil, nY, List.toList_toArray]; exact fill_one (by rfl) (zi_size21 hal) (by rfl)) (hS := hS) (h := fun w20 g20 hS => ?_)
  try simp only [nY, aY] at hS ⊢
  replace hS := hS.obj_rd (sz := 21) (n := 1) (by exact zi_size21 hal) .head
  rw [arow_one hal] at hS
  refine m_append U22 ti66 (hS := hS) (h1 := rowsZ_cells _ _) (h := fun w21 A21 C21 hS => ?_)
  try simp only [← List.map_append, ← List.map_drop, ← List.map_take, Nat.mul_one, Nat.zero_mul, Nat.sub_zero, List.drop_zero, List.nil_append, Nat.zero_add] at hS ⊢
  try simp only [nY, aY] at hS ⊢
  rw [add_one] at hS
  refine s_go s_assign ?_
  try simp only [nY]
  refine x_nil (hK16 _ _ ?_)
  refine x_seq fun K18 hK18 => x_region ?_
  refine s_go s_move ?_
  try simp only [nY]
  refine s_go s_assign ?_
  try simp only [nY]
  refine x_nil (hK18 _ _ ?_)
  refine x_ret (r_tmp rfl ?_)
  rw [hpe]
  (rw [List.length_append]; exact ⟨_, _, rfl, hS.sel (by repeat (first | exact Sel.nil | (refine Sel.cons (by repeat (exact Del.head)) ?_)))⟩)
 try simp only [dY] at hc5
 obtain rfl : dn = true := by simpa using hc5
 rw [if_pos rfl] at hpe
 refine x_skip ?_
 refine hK16 _ _ ?_
 refine x_seq fun K19 hK19 => x_region ?_
 refine s_go s_move ?_
 try simp only [nY]
 refine s_go s_assign ?_
 try simp only [nY]
 refine x_nil (hK19 _ _ ?_)
 refine x_ret (r_tmp rfl ?_)
 rw [hpe]
 exact ⟨_, _, rfl, hS.sel (by repeat (first | exact Sel.nil | (refine Sel.cons (by repeat (exact Del.head)) ?_)))⟩
end Go.Proofs.YtpekghaodmeemaaGreat
set_option linter.unusedSimpArgs false
set_option linter.unusedVariables false
set_option maxHeartbeats 600000
set_option maxRecDepth 100000
namespace Go.Proofs.YtpekghaodmeemaaGreat
open Go.RowKit

theorem norm_tk {l : List (List Int)} {k : Nat} {x : List Int} (hk : k < l.length) (hx : l.getD k [] = x) (hv : AOks l) : (atomR x = true → normP (l.take (k + 1)) = putS x (normP (l.take k))) ∧ (atomR x = false → normP (l.take (k + 1)) = normP (l.take k)) := by
  have ha : AtomOk x := by rw [← hx]; exact hv.get hk
  rw [norm_take hk, hx]
  refine ⟨fun h => ?_, fun h => ?_⟩
  · rw [if_pos h, put_eq ha (norm_sta (hv.take k))]
  · rw [if_neg (by rw [h]; decide)]
theorem fnd_step_none {x : List Int} {l : List (List Int)} {k : Nat} {y : List Int} (hk : k < l.length) (hy : l.getD k [] = y) (h : fnd x (l.take k) = none) (hn : ¬ akey y = x) : fnd x (l.take (k + 1)) = none := by
  rw [fnd_none] at h ⊢
  intro a ha
  rw [take_snoc hk, hy] at ha
  rcases List.mem_append.1 ha with ha | ha
  · exact h a ha
  · rw [List.mem_singleton] at ha; rw [ha]; exact hn
theorem fnd_app {x : List Int} : ∀ {s t : List (List Int)}, fnd x s = none → fnd x (s ++ t) = fnd x t
  | [], _, _ => rfl
  | a :: s, t, h => by
    have h2 : ¬ akey a = x := fnd_none.1 h a (by simp)
    have h3 : fnd x s = none := by rw [fnd, if_neg h2] at h; exact h
    show fnd x (a :: (s ++ t)) = _
    rw [fnd, if_neg h2, fnd_app h3]
theorem fnd_here {x : List Int} {l : List (List Int)} {k : Nat} {y : List Int} (hk : k < l.length) (hy : l.getD k [] = y) (h : fnd x (l.take k) = none) (he : akey y = x) : fnd x l = some (aval y) := by
  have e : l = l.take k ++ y :: l.drop (k + 1) := by
    conv => lhs; rw [← List.take_append_drop k l, List.drop_eq_getElem_cons hk]
    rw [← getD_lt hk, hy]
  rw [e, fnd_app h, fnd, if_pos he]
theorem mg_l {s t : List (List Int)} {i k : Nat} {x : List Int} (hi : i < s.length) (hx : s.getD i [] = x) (h : k = t.length ∨ (k < t.length ∧ keyLt (akey x) (akey (t.getD k [])) = true)) : mergeP (s.drop i) (t.drop k) = x :: mergeP (s.drop (i + 1)) (t.drop k) := by
  rw [List.drop_eq_getElem_cons hi, ← getD_lt hi, hx]
  rcases h with h | ⟨h, h2⟩
  · rw [List.drop_of_length_le (show t.length ≤ k by omega), merge_nil_r, merge_nil_r]
  · rw [List.drop_eq_getElem_cons h, ← getD_lt h, merge_cons, h2]; rfl
theorem mg_r {s t : List (List Int)} {i k : Nat} {y : List Int} (hk : k < t.length) (hy : t.getD k [] = y) (h : i = s.length ∨ (i < s.length ∧ keyLt (akey (s.getD i [])) (akey y) = false ∧ keyLt (akey y) (akey (s.getD i [])) = true)) : mergeP (s.drop i) (t.drop k) = y :: mergeP (s.drop i) (t.drop (k + 1)) := by
  rw [List.drop_eq_getElem_cons hk, ← getD_lt hk, hy]
  rcases h with h | ⟨h, h2, h3⟩
  · rw [List.drop_of_length_le (show s.length ≤ i by omega), merge_nil, merge_nil]
  · rw [List.drop_eq_getElem_cons h, ← getD_lt h, merge_cons, h2, h3]; rfl
theorem mg_e {s t : List (List Int)} {i k : Nat} {x y : List Int} (hi : i < s.length) (hx : s.getD i [] = x) (hk : k < t.length) (hy : t.getD k [] = y) (h2 : keyLt (akey x) (akey y) = false) (h3 : keyLt (akey y) (akey x) = false) : mergeP (s.drop i) (t.drop k) = (akey x ++ moreV (aval x) (aval y)) :: mergeP (s.drop (i + 1)) (t.drop (k + 1)) := by
  rw [List.drop_eq_getElem_cons hi, ← getD_lt hi, hx, List.drop_eq_getElem_cons hk, ← getD_lt hk, hy, merge_cons, h2, h3]; rfl

theorem c_ref10Norm (w0 : World) (A : Option Addr) (c : Nat) (l : List (List Int)) (hr : Rd w0 A 21 l.length (arows l)) (hv : AOks l) (hn : l.length ≤ 1000000000)  :
    CallR Tryz.prog 12 #[.slice A l.length c] w0 fun v w' => ∃ (B : Option Addr) (d : Nat), v = .slice B (normP l).length d ∧ RBack w0 w' A l B (normP l) := by
 have hS := St.rd1 (S := NoB) hr
 have hvl := arows_len l
 refine c_enter (l := [.slice A l.length c, undef, undef, undef, undef, undef, undef, undef, undef, undef, undef, undef, undef, undef, undef, undef, undef, undef, undef, undef, undef, undef, undef, undef, undef, undef]) Tryz.func12 rfl (by simp only [Tryz.ntmps12, List.size_toArray, List.length_cons, List.length_nil, Nat.reduceAdd, Nat.reduceSub, Array.replicate_succ, Array.replicate_zero, List.push_toArray, List.append_toArray, List.nil_append, List.cons_append]) ?_
 refine x_seq fun K1 hK1 => x_region ?_
 refine s_go s_assign ?_
 try simp only [nY]
 refine x_nil (hK1 _ _ ?_)
 refine x_seq fun K2 hK2 => ?_
 refine x_seq fun K3 hK3 => x_region ?_
 refine s_go s_move ?_
 try simp only [nY]
 refine s_call en29 ?_
 try simp only [nY, mY]
 refine CallR.mono (c_ref10Right _ A c l (hS.hasA) hv hn) ?_
 rintro _ w1 ⟨rfl, hE1⟩
 replace hS := hS.ext hE1
 try simp only [nY]
 refine x_nil (hK3 _ _ ?_)
 refine x_cond (ht := fun hc1 => ?_) (hf := fun hc1 => ?_)
 ·
  try simp only [dY] at hc1
  have hid := norm_id ((right_iff hv).1 hc1)
  refine x_seq fun K4 hK4 => x_region ?_
  refine s_go s_move ?_
  try simp only [nY]
  refine s_go s_assign ?_
  try simp only [nY]
  refine x_nil (hK4 _ _ ?_)
  refine x_ret (r_tmp rfl ?_)
  exact ⟨A, c, by rw [hid]; rfl, rback_self hS.ext_of (hS.hasRd (by repeat (exact Has.head))) hid⟩
 try simp only [dY] at hc1
 refine x_skip ?_
 refine hK2 _ _ ?_
 refine x_seq fun K5 hK5 => x_region ?_
 replace hS := hS.nil_vec 66 21
 refine s_go s_assign ?_
 try simp only [nY]
 refine x_nil (hK5 _ _ ?_)
 refine x_seq fun K6 hK6 => ?_
 refine x_seq fun K7 hK7 => x_region ?_
 refine s_go s_assign ?_
 try simp only [nY]
 refine x_nil (hK7 _ _ ?_)
 refine x_block ?_
 refine x_loop [3, 4, 8, 9, 10, 11, 12, 13, 14, 15, 16, 17, 18, 19, 20, 21, 22, 23, 24] (fun m f w => ∃ (k : Nat) (B : Option Addr) (d : Nat), k ≤ l.length ∧ m = l.length - k ∧ f 4 = .int .i64 (k : Int) ∧ f 3 = .slice B (normP (l.take k)).length d ∧ St NoB w0 w [.vec B d 66 21 (normP (l.take k)).length (arows (normP (l.take k))), .rd A 21 (l).length (arows (l))]) (l.length) ?init1 (fun m1 f1 wl1 hI => ?_)
 case init1 =>
  try simp only [nY]
  exact ⟨0, none, 0, by omega, rfl, rfl, rfl, hS.sel (by repeat (first | exact Sel.nil | (refine Sel.cons (by repeat (exact Del.head)) ?_)))⟩
 obtain ⟨k, B, d, hk0, hm, h4, h3, hS⟩ := hI
 simp only [clob, List.foldl, n3, n4, h4, h3]
 obtain ⟨x, hx⟩ : ∃ x, l.getD k [] = x := ⟨_, rfl⟩
 have hlk := norm_len (l.take k)
 have hlt : (l.take k).length ≤ l.length := by rw [List.length_take]; omega
 refine x_seq fun K8 hK8 => ?_
 refine x_seq fun K9 hK9 => x_region ?_
 refine s_go s_move ?_
 try simp only [nY]
 refine s_go s_move ?_
 try simp only [nY]
 refine s_go (s_len_sl U22) ?_
 try simp only [nY]
 refine s_go s_lss ?_
 try simp only [nY]
 refine x_nil (hK9 _ _ ?_)
 refine x_cond (ht := fun hc2 => ?_) (hf := fun hc2 => ?_)
 ·
  try simp only [dY] at hc2
  have ha : AtomOk x := by rw [← hx]; exact hv.get (by omega)
  have hal := ha.len
  have hk := ha.key
  have hkl := hk.len
  have htk := norm_tk (by omega) hx hv
  refine x_skip ?_
  refine hK8 _ _ ?_
  refine x_seq fun K10 hK10 => ?_
  refine x_block ?_
  refine x_seq fun K11 hK11 => x_region ?_
  refine s_go s_move ?_
  try simp only [nY]
  refine s_go s_move ?_
  try simp only [nY]
  refine s_go (m_indexAddr_rd U22 ti66 (hS := hS)) ?_
  try simp only [nY, Nat.mul_one, Nat.zero_add, Int.toNat_natCast, Int.reduceToNat]
  refine s_go (m_loada_rd U66 (hi := ti66) (hS := hS) (hfit := by rw [arows_len]; omega)) ?_
  try simp only [nY, gY]
  rw [arow_get (by omega) hv, hx]
  refine s_call en30 ?_
  try simp only [nY, mY]
  refine CallR.mono (c_ref09Right x ha _) ?_
  rintro _ w2 ⟨rfl, hE2⟩
  replace hS := hS.ext hE2
  try simp only [nY]
  refine x_nil (hK11 _ _ ?_)
  refine x_cond (ht := fun hc3 => ?_) (hf := fun hc3 => ?_)
  ·
   try simp only [dY] at hc3
   have hst := htk.1 hc3
   refine x_region ?_
   refine s_go s_move ?_
   try simp only [nY]
   refine s_go s_move ?_
   try simp only [nY]
   refine s_go s_move ?_
   try simp only [nY]
   refine s_go (m_indexAddr_rd U22 ti66 (hS := hS)) ?_
   try simp only [nY, Nat.mul_one, Nat.zero_add, Int.toNat_natCast, Int.reduceToNat]
   refine s_go (m_loada_rd U66 (hi := ti66) (hS := hS) (hfit := by rw [arows_len]; omega)) ?_
   try simp only [nY, gY]
   rw [arow_get (by omega) hv, hx]
   refine s_call en31 ?_
   try simp only [nY, mY]
   refine CallR.mono (c_ref10put _ B d (normP (l.take k)) (hS.vecRd (by repeat (exact Has.head))) (norm_sta (hv.take k)).ok (by omega) x ha) ?_
   rintro _ w3 ⟨B3, d3, rfl, hC3⟩
   replace hS := hS.call hC3
   simp only [List.cons_append, List.nil_append] at hS
   try simp only [nY]
   refine s_go s_assign ?_
   try simp only [nY]
   refine x_nil (hK10 _ _ ?_)
   refine x_region ?_
   refine s_go s_move ?_
   try simp only [nY]
   refine s_go (s_add (hc := by exact wr_i64 (by omega) (by omega))) ?_
   try simp only [nY]
   refine s_go s_assign ?_
   try simp only [nY]
   refine x_nil ?_
   refine loop_back (m' := l.length - (k + 1)) (by simp only [clob, List.foldl, nZ]) ?_ ?_
   · try simp only [nY]
     exact ⟨k + 1, _, _, by omega, by omega, by rfl, by rw [hst], by rw [hst]; exact hS.selA⟩
   · omega
  try simp only [dY] at hc3
  have hst := htk.2 (by simpa using hc3)
  refine x_skip ?_
  refine hK10 _ _ ?_
  refine x_region ?_
  refine s_go s_move ?_
  try simp only [nY]
  refine s_go (s_add (hc := by exact wr_i64 (by omega) (by omega))) ?_
  try simp only [nY]
  refine s_go s_assign ?_
  try simp only [nY]
  refine x_nil ?_
  refine loop_back (m' := l.length - (k + 1)) (by simp only [clob, List.foldl, nZ]) ?_ ?_
  · try simp only [nY]
    exact ⟨k + 1, _, _, by omega, by omega, by rfl, by rw [hst], by rw [hst]; exact hS.sel (by repeat (first | exact Sel.nil | (refine Sel.cons (by repeat (exact Del.head)) ?_)))⟩
  · omega
 try simp only [dY] at hc2
 obtain rfl : k = l.length := by omega
 rw [List.take_of_length_le (Nat.le_refl _)] at hS ⊢
 refine x_exit (look_here ?_)
 refine hK6 _ _ ?_
 refine x_seq fun K12 hK12 => x_region ?_
 refine s_go s_move ?_
 try simp only [nY]
 refine s_go s_assign ?_
 try simp only [nY]
 refine x_nil (hK12 _ _ ?_)
 refine x_ret (r_tmp rfl ?_)
 exact ⟨_, _, rfl, rback_vec hS (by repeat (exact Has.head))⟩
theorem c_ref10find (w0 : World) (A : Option Addr) (c : Nat) (l : List (List Int)) (hr : Rd w0 A 21 l.length (arows l)) (hv : AOks l) (hn : l.length ≤ 4000000000) (x : List Int) (hx : KeyOk x)  :
    CallR Tryz.prog 83 #[.slice A l.length c, .agg (KA x)] w0 fun v w' => v = .tuple #[.agg (VA ((fnd x l).getD v9)), .bool (fnd x l).isSome] ∧ Ext w0 w' := by
 have hS := St.rd1 (S := NoB) hr
 have hvl := arows_len l
 have hxl := hx.len
 have h9l : v9.length = 9 := rfl
 refine c_enter (l := [.slice A l.length c, .agg (KA x), undef, undef, undef, undef, undef, undef, undef, undef, undef, undef, undef, undef, undef, undef, undef, undef, undef, undef, undef, undef, undef, undef, undef, undef]) Tryz.func83 rfl (by simp only [Tryz.ntmps83, List.size_toArray, List.length_cons, List.length_nil, Nat.reduceAdd, Nat.reduceSub, Array.replicate_succ, Array.replicate_zero, List.push_toArray, List.append_toArray, List.nil_append, List.cons_append]) ?_
 refine x_seq fun K1 hK1 => x_region ?_
 refine m_box hS (fun w1 g1 hS => ?_)
 try simp only [nY, aY] at hS ⊢
 refine m_alloc ti64 hS (fun w2 g2 hS => ?_)
 try simp only [nY, aY] at hS ⊢
 replace hS : St _ _ w2 (.obj g2 (.cells (VA v9) 64 (0, 0)) :: _) := hS
 refine s_go s_assign ?_
 try simp only [nY]
 refine x_nil (hK1 _ _ ?_)
 refine x_seq fun K2 hK2 => ?_
 refine x_seq fun K3 hK3 => x_region ?_
 refine s_go s_assign ?_
 try simp only [nY]
 refine x_nil (hK3 _ _ ?_)
 refine x_block ?_
 refine x_loop [5, 6, 7, 8, 9, 10, 11, 12, 13, 14, 15, 16, 17, 18, 19, 20, 21, 22, 23, 24] (fun m f w => ∃ (k : Nat), k ≤ l.length ∧ m = l.length - k ∧ f 6 = .int .i64 (k : Int) ∧ fnd x (l.take k) = none ∧ St NoB w0 w [.obj g2 (.cells (VA v9) 64 (0, 0)), .obj g1 (.cells (KA x) 61 (0, 0)), .rd A 21 (l).length (arows (l))]) (l.length) ?init1 (fun m1 f1 wl1 hI => ?_)
 case init1 =>
  try simp only [nY]
  exact ⟨0, by omega, rfl, rfl, rfl, hS.sel (by repeat (first | exact Sel.nil | (refine Sel.cons (by repeat (exact Del.head)) ?_)))⟩
 obtain ⟨k, hk0, hm, h6, hfn, hS⟩ := hI
 simp only [clob, List.foldl, n3, n4, h6]
 obtain ⟨y, hy⟩ : ∃ y, l.getD k [] = y := ⟨_, rfl⟩
 refine x_seq fun K4 hK4 => ?_
 refine x_seq fun K5 hK5 => x_region ?_
 refine s_go s_move ?_
 try simp only [nY]
 refine s_go s_move ?_
 try simp only [nY]
 refine s_go (s_len_sl U22) ?_
 try simp only [nY]
 refine s_go s_lss ?_
 try simp only [nY]
 refine x_nil (hK5 _ _ ?_)
 refine x_cond (ht := fun hc1 => ?_) (hf := fun hc1 => ?_)
 ·
  try simp only [dY] at hc1
  have ha : AtomOk y := by rw [← hy]; exact hv.get (by omega)
  have hal := ha.len
  have hkl := ha.key.len
  have hvyl := ha.val.len
  refine x_skip ?_
  refine hK4 _ _ ?_
  refine x_seq fun K6 hK6 => ?_
  refine x_block ?_
  refine x_seq fun K7 hK7 => ?_
  refine x_quiet (by kernel_rfl) (by kernel_rfl) hS ?_
  refine q_go (fun w hS => s_move) ?_
  try simp only [nY]
  refine q_go (fun w hS => s_move) ?_
  try simp only [nY]
  refine q_go (fun w hS => m_indexAddr_rd U22 ti66 (hS := hS)) ?_
  try simp only [nY, Nat.mul_one, Nat.zero_add, Int.toNat_natCast, Int.reduceToNat]
  refine q_go (fun w hS => m_fieldAddr_rd U66 (hi := ti61) (hS := hS)) ?_
  try simp only [nY, fY, gY]
  refine q_go (fun w hS => m_loada_rd U61 (hi := ti61) (hS := hS) (hfit := by rw [arows_len]; omega)) ?_
  try simp only [nY, gY]
  rw [arow_key (by omega) hv, hy]
  refine q_go (fun w hS => m_load_row U61 (hi := ti61) (hS := hS) (hfit := by (rw [zi_size (by omega)]; rfl))) ?_
  try simp only [nY, gY]
  refine q_go (fun w hS => s_eql_agg eqv61 (hg := eg61) (hX := rfl) (hY := rfl) (h1 := by assumption) (h2 := by assumption)) ?_
  try simp only [nY]
  clear hS
  refine q_nil fun w3 hS => ?_
  refine hK7 _ _ ?_
  refine x_cond (ht := fun hc2 => ?_) (hf := fun hc2 => ?_)
  ·
   try simp only [dY] at hc2
   have hfs := fnd_here (by omega) hy hfn hc2
   refine x_seq fun K8 hK8 => x_region ?_
   refine s_go s_move ?_
   try simp only [nY]
   refine s_go s_move ?_
   try simp only [nY]
   refine s_go (m_indexAddr_rd U22 ti66 (hS := hS)) ?_
   try simp only [nY, Nat.mul_one, Nat.zero_add, Int.toNat_natCast, Int.reduceToNat]
   refine s_go (m_fieldAddr_rd U66 (hi := ti64) (hS := hS)) ?_
   try simp only [nY, fY, gY]
   refine s_go (m_loada_rd U64 (hi := ti64) (hS := hS) (hfit := by rw [arows_len]; omega)) ?_
   try simp only [nY, gY]
   rw [arow_val (by omega) hv, hy]
   refine m_store_obj ti64 (hS := hS) (hc := by exact zi_whole (by omega) (by omega)) (hv := by (show (zi _ _).toArray.size = _; rw [zi_size (by omega)]; rfl)) (hfit := by (rw [zi_size (by omega)]; decide)) (h1 := by exact zi_one _ _) (h := fun w4 hS => ?_)
   try simp only [nY, aY] at hS ⊢
   refine s_go s_assign ?_
   try simp only [nY]
   refine x_nil (hK8 _ _ ?_)
   refine x_ret ?_
   refine r_cell_tmp_agg rfl U64 ti64 (hS := hS) (hfit := by (rw [zi_size (by omega)]; rfl)) (hR := ?_)
   exact ⟨by rw [hfs]; rfl, hS.ext_of⟩
  try simp only [dY] at hc2
  have hne := hc2
  refine x_skip ?_
  refine hK6 _ _ ?_
  refine x_region ?_
  refine s_go s_move ?_
  try simp only [nY]
  refine s_go (s_add (hc := by exact wr_i64 (by omega) (by omega))) ?_
  try simp only [nY]
  refine s_go s_assign ?_
  try simp only [nY]
  refine x_nil ?_
  refine loop_back (m' := l.length - (k + 1)) (by simp only [clob, List.foldl, nZ]) ?_ ?_
  · try simp only [nY]
    exact ⟨k + 1, by omega, by omega, by rfl, fnd_step_none (by omega) hy hfn hne, hS.sel (by repeat (first | exact Sel.nil | (refine Sel.cons (by repeat (exact Del.head)) ?_)))⟩
  · omega
 try simp only [dY] at hc1
 obtain rfl : k = l.length := by omega
 rw [List.take_of_length_le (Nat.le_refl _)] at hfn
 refine x_exit (look_here ?_)
 refine hK2 _ _ ?_
 refine x_seq fun K9 hK9 => x_region ?_
 refine s_go (s_build_struct (cells := #[.int .u64 0, .int .u8 0, .int .u8 0, .int .u8 0, .int .u8 0, .int .u8 0, .int .u8 0, .int .u8 0, .int .u8 0]) U64 ti64 bp64 (hc := by simp only [List.map_toArray, List.map_cons, List.map_nil, nY, List.toList_toArray]; (repeat (refine fill_cons rfl rfl (Nat.le_of_ble_eq_true rfl) ?_)); rfl)) ?_
 try simp only [nY]
 rw [show (#[.int .u64 0, .int .u8 0, .int .u8 0, .int .u8 0, .int .u8 0, .int .u8 0, .int .u8 0, .int .u8 0, .int .u8 0] : Array Value) = VA v9 from rfl]
 refine m_store_obj ti64 (hS := hS) (hc := by exact zi_whole (by omega) (by omega)) (hv := by rfl) (hfit := by (rw [zi_size (by omega)]; decide)) (h1 := by exact zi_one _ _) (h := fun w5 hS => ?_)
 try simp only [nY, aY] at hS ⊢
 refine s_go s_assign ?_
 try simp only [nY]
 refine x_nil (hK9 _ _ ?_)
 refine x_ret ?_
 refine r_cell_tmp_agg rfl U64 ti64 (hS := hS) (hfit := by (rw [zi_size (by omega)]; rfl)) (hR := ?_)
 exact ⟨by rw [hfn]; rfl, hS.ext_of⟩
theorem c_ref10Find (w0 : World) (A : Option Addr) (c : Nat) (l : List (List Int)) (hr : Rd w0 A 21 l.length (arows l)) (hv : AOks l) (hn : l.length ≤ 1000000000) (x : List Int) (hx : KeyOk x)  :
    CallR Tryz.prog 47 #[.slice A l.length c, .agg (KA x)] w0 fun v w' => v = .tuple #[.agg (VA ((fnd x (normP l)).getD v9)), .bool (fnd x (normP l)).isSome] ∧ Ext w0 w' := by
 have hS := St.rd1 (S := NoB) hr
 have hxl := hx.len
 have hno := (norm_sta hv).ok
 have hnb := norm_len l
 have hfl9 := (fndD_ok (k := x) hno).len
 have h9l : v9.length = 9 := rfl
 refine c_enter (l := [.slice A l.length c, .agg (KA x), undef, undef, undef, undef, undef, undef, undef, undef, undef, undef]) Tryz.func47 rfl (by simp only [Tryz.ntmps47, List.size_toArray, List.length_cons, List.length_nil, Nat.reduceAdd, Nat.reduceSub, Array.replicate_succ, Array.replicate_zero, List.push_toArray, List.append_toArray, List.nil_append, List.cons_append]) ?_
 refine x_seq fun K1 hK1 => x_region ?_
 refine m_box hS (fun w1 g1 hS => ?_)
 try simp only [nY, aY] at hS ⊢
 refine m_alloc ti64 hS (fun w2 g2 hS => ?_)
 try simp only [nY, aY] at hS ⊢
 replace hS : St _ _ w2 (.obj g2 (.cells (VA v9) 64 (0, 0)) :: _) := hS
 refine s_go s_assign ?_
 try simp only [nY]
 refine x_nil (hK1 _ _ ?_)
 refine x_seq fun K2 hK2 => ?_
 refine x_mixed_c (Lc := [.obj g1 (.cells (KA x) 61 (0, 0)), .rd A 21 (l).length (arows (l))]) [] 0 [5, 6, 7, 8, 9, 10, 11] (fun f w => f 5 = .bool (fnd x (normP l)).isSome ∧ St NoB w0 w [.obj g2 (.cells (VA ((fnd x (normP l)).getD v9)) 64 (0, 0))]) (by kernel_rfl) (by kernel_rfl) (by kernel_rfl) (by decide) hS (fun w3 hS => ?mixpre101) ?mixrest101
 case mixpre101 =>
  refine p_nil ?_
  simp only [List.length_cons, List.length_nil, Nat.reduceAdd, Nat.reduceSub]
  refine any_gn 0 rfl (go_yields w_none (fun w hS => s_move)) ?_
  try simp only [nY]
  refine any_gn 2 rfl (go_yields w_none (fun w hS => m_load_row U61 (hi := ti61) (hS := hS) (hfit := by (rw [zi_size (by omega)]; rfl)))) ?_
  try simp only [nY, gY]
  refine any_step [1] (by kernel_rfl) (by decide) (fun w4 hE => ⟨fun _ => (hS.ext hE).sel (by repeat (first | exact Sel.nil | (refine Sel.cons (by repeat (first | exact Del.head | apply Del.tail)) ?_))), ?_⟩)
  replace hS := hS.ext hE
  intro i hi
  simp only [List.mem_cons, List.not_mem_nil, or_false] at hi
  subst hi
  refine any_op (by rfl) ?_
  refine s_call en12 ?_
  try simp only [nY, mY]
  refine CallR.mono (c_ref10Norm _ A c l (hS.hasA) hv hn) ?_
  rintro _ w5 ⟨B5, d5, rfl, hR5⟩
  replace hS := hS.back hR5
  try simp only [nY]
  refine x_nil ?_
  refine any_step [3] (by kernel_rfl) (by decide) (fun w6 hE => ⟨fun _ => (hS.ext hE).sel (by repeat (first | exact Sel.nil | (refine Sel.cons (by repeat (first | exact Del.head | apply Del.tail)) ?_))), ?_⟩)
  replace hS := hS.ext hE
  intro i hi
  simp only [List.mem_cons, List.not_mem_nil, or_false] at hi
  subst hi
  refine any_op (by rfl) ?_
  refine s_call en83 ?_
  try simp only [nY, mY]
  refine CallR.mono (c_ref10find _ _ _ _ (hS.hasRd (by repeat (exact Has.head))) hno (by omega) x hx) ?_
  rintro _ w7 ⟨rfl, hE7⟩
  replace hS := hS.ext hE7
  try simp only [nY]
  refine x_nil ?_
  refine any_gn 4 rfl (go_yields w_none (fun w hS => s_extract (hv := rfl))) ?_
  try simp only [gY]
  try simp only [nY]
  refine any_gn 5 rfl (go_yields w_none (fun w hS => s_extract (hv := rfl))) ?_
  try simp only [gY]
  try simp only [nY]
  refine any_step [6] (by kernel_rfl) (by decide) (fun w8 hE => ⟨fun _ => (hS.ext hE).sel (by repeat (first | exact Sel.nil | (refine Sel.cons (by repeat (first | exact Del.head | apply Del.tail)) ?_))), ?_⟩)
  replace hS := hS.ext hE
  intro i hi
  simp only [List.mem_cons, List.not_mem_nil, or_false] at hi
  subst hi
  refine any_op (by rfl) ?_
  refine m_store_obj ti64 (hS := hS) (hc := by exact zi_whole (by omega) (by omega)) (hv := by (show (zi _ _).toArray.size = _; rw [zi_size (by omega)]; rfl)) (hfit := by (rw [zi_size (by omega)]; decide)) (h1 := by exact zi_one _ _) (h := fun w9 hS => ?_)
  try simp only [nY, aY] at hS ⊢
  refine x_nil ?_
  refine any_gn 7 rfl (go_yields w_none (fun w hS => s_assign)) ?_
  try simp only [nY]
  refine any_nil (by kernel_rfl) (fun w10 hE => ?_)
  replace hS := hS.ext hE
  refine ⟨fun _ => hS.selA, ?_⟩
  refine mix_leaf (by simp only [clob, List.foldl, nZ]) ?_
  try simp only [n1, n2]
  exact ⟨by trivial, hS.selA⟩
 intro fm1 w11 hM
 obtain ⟨h5, hS⟩ := hM
 simp only [clob, List.foldl, n3, n4, h5]
 refine hK2 _ _ ?_
 refine x_ret ?_
 refine r_cell_tmp_agg rfl U64 ti64 (hS := hS) (hfit := by (rw [zi_size (by omega)]; rfl)) (hR := ?_)
 exact ⟨rfl, hS.ext_of⟩
end Go.Proofs.YtpekghaodmeemaaGreat
set_option linter.unusedSimpArgs false
set_option linter.unusedVariables false
set_option maxHeartbeats 1000000
set_option maxRecDepth 100000
namespace Go.Proofs.YtpekghaodmeemaaGreat
open Go.RowKit
theorem c_ref10Join (w0 : World) (A : Option Addr) (c : Nat) (l : List (List Int)) (hr : Rd w0 A 21 l.length (arows l)) (hv : AOks l) (B : Option Addr) (d : Nat) (r : List (List Int)) (hr2 : Rd w0 B 21 r.length (arows r)) (hv2 : AOks r) (hn : l.length + r.length ≤ 1000000000)  :
    CallR Tryz.prog 14 #[.slice A l.length c, .slice B r.length d] w0 fun v w' => ∃ A c, v = .slice A (normP (l ++ r)).length c ∧ St NoB w0 w' [.vec A c 66 21 (normP (l ++ r)).length (arows (normP (l ++ r)))] := by
 have hS := St.rd2 (S := NoB) hr hr2
 refine c_enter (l := [.slice A l.length c, .slice B r.length d, undef, undef, undef, undef, undef, undef, undef, undef, undef, undef, undef, undef, undef, undef, undef, undef, undef, undef, undef, undef, undef, undef, undef, undef, undef, undef, undef, undef, undef, undef, undef, undef, undef, undef, undef, undef, undef, undef, undef, undef, undef, undef, undef, undef, undef, undef, undef, undef, undef, undef, undef, undef, undef, undef, undef, undef, undef, undef, undef, undef, undef, undef, undef, undef, undef, undef, undef, undef, undef, undef, undef, undef, undef, undef, undef, undef, undef, undef, undef, undef, undef, undef, undef, undef, undef, undef, undef, undef, undef, undef, undef, undef, undef, undef, undef, undef, undef, undef, undef, undef, undef, undef, undef, undef, undef]) Tryz.func14 rfl (by simp only [Tryz.ntmps14, List.size_toArray, List.length_cons, List.length_nil, Nat.reduceAdd, Nat.reduceSub, Array.replicate_succ, Array.replicate_zero, List.push_toArray, List.append_toArray, List.nil_append, List.cons_append]) ?_
 refine x_seq fun K1 hK1 => x_region ?_
 refine s_go s_assign ?_
 try simp only [nY]
 refine x_nil (hK1 _ _ ?_)
 refine x_seq fun K2 hK2 => x_region ?_
 refine s_go s_move ?_
 try simp only [nY]
 refine s_call en12 ?_
 try simp only [nY, mY]
 refine CallR.mono (c_ref10Norm _ A c l (hS.hasA) hv (by omega)) ?_
 rintro _ w1 ⟨B1, d1, rfl, hR1⟩
 replace hS := hS.back hR1
 try simp only [nY]
 refine s_go s_move ?_
 try simp only [nY]
 refine s_call en12 ?_
 try simp only [nY, mY]
 refine CallR.mono (c_ref10Norm _ B d r (hS.hasA) hv2 (by omega)) ?_
 rintro _ w2 ⟨B2, d2, rfl, hR2⟩
 replace hS := hS.back hR2
 try simp only [nY]
 try simp only [hsl]
 obtain ⟨s, hsl⟩ : ∃ s, normP l = s := ⟨_, rfl⟩
 obtain ⟨t, htl⟩ : ∃ t, normP r = t := ⟨_, rfl⟩
 have hsn := norm_len l
 have htn := norm_len r
 have hss := norm_sta hv
 have hts := norm_sta hv2
 have hmg0 := merge_norm hv hv2
 rw [hsl] at hS hsn hss hmg0
 rw [htl] at hS htn hts hmg0
 have hso := hss.ok
 have hto := hts.ok
 have hsl2 := arows_len s
 have htl2 := arows_len t
 try simp only [hsl, htl]
 refine s_go s_assign ?_
 try simp only [nY]
 refine s_go s_assign ?_
 try simp only [nY]
 refine x_nil (hK2 _ _ ?_)
 refine x_seq fun K3 hK3 => x_region ?_
 replace hS := hS.nil_vec 66 21
 refine s_go s_assign ?_
 try simp only [nY]
 refine x_nil (hK3 _ _ ?_)
 refine x_seq fun K4 hK4 => x_region ?_
 refine s_go s_assign ?_
 try simp only [nY]
 refine s_go s_assign ?_
 try simp only [nY]
 refine x_nil (hK4 _ _ ?_)
 refine x_seq fun K5 hK5 => ?_
 refine x_block ?_
 refine x_loop [5, 6, 7, 12, 13, 14, 15, 16, 17, 18, 19, 20, 21, 22, 23, 24, 25, 26, 27, 28, 29, 30, 31, 32, 33, 34, 35, 36, 37, 38, 39, 40, 41, 42, 43, 44, 45, 46, 47, 48, 49, 50, 51, 52, 53, 54, 55, 56, 57, 58, 59, 60, 61, 62, 63, 64, 65, 66, 67, 68, 69, 70, 71, 72, 73, 74, 75, 76, 77, 78, 79, 80, 81, 82, 83, 84, 85, 86, 87, 88, 89, 90, 91, 92, 93, 94, 95, 96, 97, 98, 99, 100, 101, 102, 103, 104, 105] (fun m f w => ∃ (i k : Nat) (C : Option Addr) (e : Nat) (o : List (List Int)), i ≤ s.length ∧ k ≤ t.length ∧ (s.length - i) + (t.length - k) ≤ m ∧ f 6 = .int .i64 (i : Int) ∧ f 7 = .int .i64 (k : Int) ∧ f 5 = .slice C o.length e ∧ o ++ mergeP (s.drop i) (t.drop k) = mergeP s t ∧ o.length ≤ i + k ∧ St NoB w0 w [.vec C e 66 21 (o).length (arows (o)), .rd B2 21 (t).length (arows (t)), .rd B1 21 (s).length (arows (s))]) (s.length + t.length) ?init1 (fun m1 f1 wl1 hI => ?_)
 case init1 =>
  try simp only [nY]
  exact ⟨0, 0, none, 0, [], by omega, by omega, by omega, rfl, rfl, rfl, rfl, by simp, hS.sel (by repeat (first | exact Sel.nil | (refine Sel.cons (by repeat (exact Del.head)) ?_)))⟩
 obtain ⟨i, k, C, e, o, hi, hk, hmm, h6, h7, h5, hmo, hol, hS⟩ := hI
 simp only [clob, List.foldl, n3, n4, h6, h7, h5]
 obtain ⟨x, hx⟩ : ∃ x, s.getD i [] = x := ⟨_, rfl⟩
 obtain ⟨y, hy⟩ : ∃ y, t.getD k [] = y := ⟨_, rfl⟩
 refine x_seq fun K6 hK6 => ?_
 refine x_seq fun K7 hK7 => x_region ?_
 refine s_go s_move ?_
 try simp only [nY]
 refine s_go s_move ?_
 try simp only [nY]
 refine s_go (s_len_sl U22) ?_
 try simp only [nY]
 refine s_go s_lss ?_
 try simp only [nY]
 refine s_go s_move ?_
 try simp only [nY]
 refine s_part 16 rfl (fun hp1 => ?_) (fun hp1 => ?_)
 ·
  try simp only [n3, n4]
  try simp only [dZ, ne_eq] at hp1
  refine g_off (yi (t := 16) rfl rfl) ?_
  try simp only [nY]
  refine g_off (yi (t := 16) rfl rfl) ?_
  try simp only [nY]
  refine g_off (yi (t := 16) rfl rfl) ?_
  try simp only [nY]
  refine g_off (yi (t := 16) rfl rfl) ?_
  try simp only [nY]
  refine s_go s_pick_t ?_
  try simp only [nY]
  refine x_nil (hK7 _ _ ?_)
  refine x_cond_t (h := ?_)
  refine x_skip ?_
  refine hK6 _ _ ?_
  refine x_block ?_
  refine x_block ?_
  refine x_seq fun K8 hK8 => ?_
  refine x_quiet (by kernel_rfl) (by kernel_rfl) hS ?_
  refine q_go (fun w hS => s_move) ?_
  try simp only [nY]
  refine q_go (fun w hS => s_move) ?_
  try simp only [nY]
  refine q_go (fun w hS => s_len_sl U22) ?_
  try simp only [nY]
  refine q_go (fun w hS => s_eql) ?_
  try simp only [nY]
  refine q_go (fun w hS => s_move) ?_
  try simp only [nY]
  refine q_part 51 rfl (fun hp2 => ?_) (fun hp2 => ?_)
  ·
   try simp only [n3, n4]
   try simp only [dZ, ne_eq] at hp2
   have hax : AtomOk x := by rw [← hx]; exact hso.get (by omega)
   have hxl := hax.len
   have hkx := hax.key
   have hvx := hax.val
   have hmg := mg_l (s := s) (t := t) (i := i) (k := k) (by omega) hx (.inl (by omega))
   have hnx : (o ++ [x]) ++ mergeP (s.drop (i + 1)) (t.drop k) = mergeP s t := by rw [← hmo, hmg, List.append_assoc]; rfl
   refine q_off (yi (t := 51) rfl rfl) ?_
   try simp only [nY]
   refine q_off (yi (t := 51) rfl rfl) ?_
   try simp only [nY]
   refine q_off (yi (t := 51) rfl rfl) ?_
   try simp only [nY]
   refine q_off (yi (t := 51) rfl rfl) ?_
   try simp only [nY]
   refine q_off (yi (t := 51) rfl rfl) ?_
   try simp only [nY]
   refine q_un (yn (t := 56) rfl rfl) ?_
   try simp only [nY]
   refine q_un (yn (t := 56) rfl rfl) ?_
   try simp only [nY]
   refine q_un (yn (t := 56) rfl rfl) ?_
   try simp only [nY]
   refine q_un (yn (t := 56) rfl rfl) ?_
   try simp only [nY]
   refine q_un (yn (t := 56) rfl rfl) ?_
   try simp only [nY]
   refine q_un (yn (t := 56) rfl rfl) ?_
   try simp only [nY]
   refine q_un (yn (t := 56) rfl rfl) ?_
   try simp only [nY]
   refine q_un (yn (t := 56) rfl rfl) ?_
   try simp only [nY]
   refine q_un (yn (t := 56) rfl rfl) ?_
   try simp only [nY]
   refine q_un (yn (t := 56) rfl rfl) ?_
   try simp only [nY]
   refine q_un (yn (t := 56) rfl rfl) ?_
   try simp only [nY]
   refine q_off (yi (t := 51) rfl rfl) ?_
   try simp only [nY]
   refine q_go (fun w hS => s_pick_t) ?_
   try simp only [nY]
   refine q_go (fun w hS => s_assign) ?_
   try simp only [nY]
   clear hS
   refine q_nil fun w3 hS => ?_
   refine hK8 _ _ ?_
   refine x_cond_t (h := ?_)
   try (have hmg := mg_l (s := s) (t := t) (i := i) (k := k) (by omega) hx (.inr ⟨by omega, by rw [hy]; exact @c⟩))
   have hnx : (o ++ [x]) ++ mergeP (s.drop (i + 1)) (t.drop k) = mergeP s t := by rw [← hmo, hmg, List.append_assoc]; rfl
   refine x_seq fun K9 hK9 => x_region ?_
   refine s_go s_move ?_
   try simp only [nY]
   refine s_go s_move ?_
   try simp only [nY]
   refine s_go s_move ?_
   try simp only [nY]
   refine s_go (m_indexAddr_rd U22 ti66 (hS := hS)) ?_
   try simp only [nY, Nat.mul_one, Nat.zero_add, Int.toNat_natCast, Int.reduceToNat]
   refine s_go (m_loada_rd U66 (hi := ti66) (hS := hS) (hfit := by rw [arows_len]; omega)) ?_
   try simp only [nY, gY]
   rw [arow_get (by omega) hso, hx]
   refine m_buildRow (cells := (AA x)) U22 ti66 (hc := by simp only [List.map_toArray, List.map_cons, List.map_nil, nY, List.toList_toArray]; exact fill_one (by rfl) (zi_size21 hxl) (by rfl)) (hS := hS) (h := fun w4 g4 hS => ?_)
   try simp only [nY, aY] at hS ⊢
   replace hS := hS.obj_rd (sz := 21) (n := 1) (by exact zi_size21 hxl) .head
   rw [arow_one hxl] at hS
   refine m_append U22 ti66 (hS := hS) (h1 := rowsZ_cells _ _) (h := fun w5 A5 C5 hS => ?_)
   try simp only [← List.map_append, ← List.map_drop, ← List.map_take, Nat.mul_one, Nat.zero_mul, Nat.sub_zero, List.drop_zero, List.nil_append, Nat.zero_add] at hS ⊢
   try simp only [nY, aY] at hS ⊢
   rw [add_one] at hS
   refine s_go s_assign ?_
   try simp only [nY]
   refine x_nil (hK9 _ _ ?_)
   refine x_region ?_
   refine s_go s_move ?_
   try simp only [nY]
   refine s_go (s_add (hc := by exact wr_i64 (by omega) (by omega))) ?_
   try simp only [nY]
   refine s_go s_assign ?_
   try simp only [nY]
   refine x_nil ?_
   refine loop_back (m' := m1 - 1) (by simp only [clob, List.foldl, nZ]) ?_ ?_
   · try simp only [nY]
     exact ⟨_, _, _, _, _, by omega, by omega, by omega, by rfl, by rfl, by simp only [List.length_append, List.length_cons, List.length_nil, Nat.zero_add]; rfl, hnx, by simp only [List.length_append, List.length_cons, List.length_nil, Nat.zero_add]; omega, by simp only [List.length_append, List.length_cons, List.length_nil, Nat.zero_add]; exact hS.selA⟩
   · omega
  try simp only [n3, n4]
  try simp only [dZ, ne_eq] at hp2
  have hay : AtomOk y := by rw [← hy]; exact hto.get (by omega)
  have hyl := hay.len
  have hky := hay.key
  have hvy := hay.val
  refine q_on (yi (t := 51) rfl rfl) ?_
  refine q_go (fun w hS => s_move) ?_
  try simp only [nY]
  refine q_on (yi (t := 51) rfl rfl) ?_
  refine q_go (fun w hS => s_move) ?_
  try simp only [nY]
  refine q_on (yi (t := 51) rfl rfl) ?_
  refine q_go (fun w hS => s_len_sl U22) ?_
  try simp only [nY]
  refine q_on (yi (t := 51) rfl rfl) ?_
  refine q_go (fun w hS => s_lss) ?_
  try simp only [nY]
  refine q_on (yi (t := 51) rfl rfl) ?_
  refine q_go (fun w hS => s_move) ?_
  try simp only [nY]
  refine q_part 56 rfl (fun hp3 => ?_) (fun hp3 => ?_)
  ·
   try simp only [n3, n4]
   try simp only [dZ, ne_eq] at hp3
   have hax : AtomOk x := by rw [← hx]; exact hso.get (by omega)
   have hxl := hax.len
   have hkx := hax.key
   have hvx := hax.val
   refine q_on (yi (t := 56) rfl rfl) ?_
   refine q_go (fun w hS => s_move) ?_
   try simp only [nY]
   refine q_on (yi (t := 56) rfl rfl) ?_
   refine q_go (fun w hS => s_move) ?_
   try simp only [nY]
   refine q_on (yi (t := 56) rfl rfl) ?_
   refine q_go (fun w hS => m_indexAddr_rd U22 ti66 (hS := hS)) ?_
   try simp only [nY, Nat.mul_one, Nat.zero_add, Int.toNat_natCast, Int.reduceToNat]
   refine q_on (yi (t := 56) rfl rfl) ?_
   refine q_go (fun w hS => m_fieldAddr_rd U66 (hi := ti61) (hS := hS)) ?_
   try simp only [nY, fY, gY]
   refine q_on (yi (t := 56) rfl rfl) ?_
   refine q_go (fun w hS => m_loada_rd U61 (hi := ti61) (hS := hS) (hfit := by rw [arows_len]; omega)) ?_
   try simp only [nY, gY]
   rw [arow_key (by omega) hso, hx]
   refine q_on (yi (t := 56) rfl rfl) ?_
   refine q_go (fun w hS => s_move) ?_
   try simp only [nY]
   refine q_on (yi (t := 56) rfl rfl) ?_
   refine q_go (fun w hS => s_move) ?_
   try simp only [nY]
   refine q_on (yi (t := 56) rfl rfl) ?_
   refine q_go (fun w hS => m_indexAddr_rd U22 ti66 (hS := hS)) ?_
   try simp only [nY, Nat.mul_one, Nat.zero_add, Int.toNat_natCast, Int.reduceToNat]
   refine q_on (yi (t := 56) rfl rfl) ?_
   refine q_go (fun w hS => m_fieldAddr_rd U66 (hi := ti61) (hS := hS)) ?_
   try simp only [nY, fY, gY]
   refine q_on (yi (t := 56) rfl rfl) ?_
   refine q_go (fun w hS => m_loada_rd U61 (hi := ti61) (hS := hS) (hfit := by rw [arows_len]; omega)) ?_
   try simp only [nY, gY]
   rw [arow_key (by omega) hto, hy]
   refine q_on (yi (t := 56) rfl rfl) ?_
   apply q_call en36
   case H =>
     intro w hS
     try simp only [nY, mY]
     refine CallR.mono (c_ref08Less (akey x) (akey y) hkx hky _) ?_
     rintro _ w1 ⟨rfl, hE⟩; exact ⟨rfl, hS.ext hE⟩
   try simp only [nY]
   refine q_on (yi (t := 51) rfl rfl) ?_
   refine q_go (fun w hS => s_pick_t) ?_
   try simp only [nY]
   refine q_go (fun w hS => s_pick_f) ?_
   try simp only [nY]
   refine q_go (fun w hS => s_assign) ?_
   try simp only [nY]
   clear hS
   refine q_nil fun w6 hS => ?_
   refine hK8 _ _ ?_
   refine x_cond (ht := fun hc3 => ?_) (hf := fun hc3 => ?_)
   ·
    try simp only [dY] at hc3
    try (have hmg := mg_l (s := s) (t := t) (i := i) (k := k) (by omega) hx (.inr ⟨by omega, by rw [hy]; exact hc3⟩))
    have hnx : (o ++ [x]) ++ mergeP (s.drop (i + 1)) (t.drop k) = mergeP s t := by rw [← hmo, hmg, List.append_assoc]; rfl
    refine x_seq fun K10 hK10 => x_region ?_
    refine s_go s_move ?_
    try simp only [nY]
    refine s_go s_move ?_
    try simp only [nY]
    refine s_go s_move ?_
    try simp only [nY]
    refine s_go (m_indexAddr_rd U22 ti66 (hS := hS)) ?_
    try simp only [nY, Nat.mul_one, Nat.zero_add, Int.toNat_natCast, Int.reduceToNat]
    refine s_go (m_loada_rd U66 (hi := ti66) (hS := hS) (hfit := by rw [arows_len]; omega)) ?_
    try simp only [nY, gY]
    rw [arow_get (by omega) hso, hx]
    refine m_buildRow (cells := (AA x)) U22 ti66 (hc := by simp only [List.map_toArray, List.map_cons, List.map_nil, nY, List.toList_toArray]; exact fill_one (by rfl) (zi_size21 hxl) (by rfl)) (hS := hS) (h := fun w7 g7 hS => ?_)
    try simp only [nY, aY] at hS ⊢
    replace hS := hS.obj_rd (sz := 21) (n := 1) (by exact zi_size21 hxl) .head
    rw [arow_one hxl] at hS
    refine m_append U22 ti66 (hS := hS) (h1 := rowsZ_cells _ _) (h := fun w8 A8 C8 hS => ?_)
    try simp only [← List.map_append, ← List.map_drop, ← List.map_take, Nat.mul_one, Nat.zero_mul, Nat.sub_zero, List.drop_zero, List.nil_append, Nat.zero_add] at hS ⊢
    try simp only [nY, aY] at hS ⊢
    rw [add_one] at hS
    refine s_go s_assign ?_
    try simp only [nY]
    refine x_nil (hK10 _ _ ?_)
    refine x_region ?_
    refine s_go s_move ?_
    try simp only [nY]
    refine s_go (s_add (hc := by exact wr_i64 (by omega) (by omega))) ?_
    try simp only [nY]
    refine s_go s_assign ?_
    try simp only [nY]
    refine x_nil ?_
    refine loop_back (m' := m1 - 1) (by simp only [clob, List.foldl, nZ]) ?_ ?_
    · try simp only [nY]
      exact ⟨_, _, _, _, _, by omega, by omega, by omega, by rfl, by rfl, by simp only [List.length_append, List.length_cons, List.length_nil, Nat.zero_add]; rfl, hnx, by simp only [List.length_append, List.length_cons, List.length_nil, Nat.zero_add]; omega, by simp only [List.length_append, List.length_cons, List.length_nil, Nat.zero_add]; exact hS.selA⟩
    · omega
   try simp only [dY] at hc3
   try have hl1 := hc3
   refine x_seq fun K11 hK11 => ?_
   refine x_quiet (by kernel_rfl) (by kernel_rfl) hS ?_
   refine q_go (fun w hS => s_move) ?_
   try simp only [nY]
   refine q_go (fun w hS => s_move) ?_
   try simp only [nY]
   refine q_go (fun w hS => s_len_sl U22) ?_
   try simp only [nY]
   refine q_go (fun w hS => s_eql) ?_
   try simp only [nY]
   refine q_go (fun w hS => s_move) ?_
   try simp only [nY]
   refine q_part 84 rfl (fun hp4 => ?_) (fun hp4 => ?_)
   ·
    try simp only [n3, n4]
    try simp only [dZ, ne_eq] at hp4
    (exfalso; omega)
   try simp only [n3, n4]
   try simp only [dZ, ne_eq] at hp4
   refine q_on (yi (t := 84) rfl rfl) ?_
   refine q_go (fun w hS => s_move) ?_
   try simp only [nY]
   refine q_on (yi (t := 84) rfl rfl) ?_
   refine q_go (fun w hS => s_move) ?_
   try simp only [nY]
   refine q_on (yi (t := 84) rfl rfl) ?_
   refine q_go (fun w hS => m_indexAddr_rd U22 ti66 (hS := hS)) ?_
   try simp only [nY, Nat.mul_one, Nat.zero_add, Int.toNat_natCast, Int.reduceToNat]
   refine q_on (yi (t := 84) rfl rfl) ?_
   refine q_go (fun w hS => m_fieldAddr_rd U66 (hi := ti61) (hS := hS)) ?_
   try simp only [nY, fY, gY]
   refine q_on (yi (t := 84) rfl rfl) ?_
   refine q_go (fun w hS => m_loada_rd U61 (hi := ti61) (hS := hS) (hfit := by rw [arows_len]; omega)) ?_
   try simp only [nY, gY]
   rw [arow_key (by omega) hto, hy]
   refine q_on (yi (t := 84) rfl rfl) ?_
   refine q_go (fun w hS => s_move) ?_
   try simp only [nY]
   refine q_on (yi (t := 84) rfl rfl) ?_
   refine q_go (fun w hS => s_move) ?_
   try simp only [nY]
   refine q_on (yi (t := 84) rfl rfl) ?_
   refine q_go (fun w hS => m_indexAddr_rd U22 ti66 (hS := hS)) ?_
   try simp only [nY, Nat.mul_one, Nat.zero_add, Int.toNat_natCast, Int.reduceToNat]
   refine q_on (yi (t := 84) rfl rfl) ?_
   refine q_go (fun w hS => m_fieldAddr_rd U66 (hi := ti61) (hS := hS)) ?_
   try simp only [nY, fY, gY]
   refine q_on (yi (t := 84) rfl rfl) ?_
   refine q_go (fun w hS => m_loada_rd U61 (hi := ti61) (hS := hS) (hfit := by rw [arows_len]; omega)) ?_
   try simp only [nY, gY]
   rw [arow_key (by omega) hso, hx]
   refine q_on (yi (t := 84) rfl rfl) ?_
   apply q_call en36
   case H =>
     intro w hS
     try simp only [nY, mY]
     refine CallR.mono (c_ref08Less (akey y) (akey x) hky hkx _) ?_
     rintro _ w1 ⟨rfl, hE⟩; exact ⟨rfl, hS.ext hE⟩
   try simp only [nY]
   refine q_go (fun w hS => s_pick_f) ?_
   try simp only [nY]
   refine q_go (fun w hS => s_assign) ?_
   try simp only [nY]
   clear hS
   refine q_nil fun w12 hS => ?_
   refine hK11 _ _ ?_
   refine x_cond (ht := fun hc5 => ?_) (hf := fun hc5 => ?_)
   ·
    try simp only [dY] at hc5
    try (have hmg := mg_r (s := s) (t := t) (i := i) (k := k) (by omega) hy (.inr ⟨by omega, by rw [hx]; exact hl1, by rw [hx]; exact hc5⟩))
    have hnx : (o ++ [y]) ++ mergeP (s.drop i) (t.drop (k + 1)) = mergeP s t := by rw [← hmo, hmg, List.append_assoc]; rfl
    refine x_seq fun K13 hK13 => x_region ?_
    refine s_go s_move ?_
    try simp only [nY]
    refine s_go s_move ?_
    try simp only [nY]
    refine s_go s_move ?_
    try simp only [nY]
    refine s_go (m_indexAddr_rd U22 ti66 (hS := hS)) ?_
    try simp only [nY, Nat.mul_one, Nat.zero_add, Int.toNat_natCast, Int.reduceToNat]
    refine s_go (m_loada_rd U66 (hi := ti66) (hS := hS) (hfit := by rw [arows_len]; omega)) ?_
    try simp only [nY, gY]
    rw [arow_get (by omega) hto, hy]
    refine m_buildRow (cells := (AA y)) U22 ti66 (hc := by simp only [List.map_toArray, List.map_cons, List.map_nil, nY, List.toList_toArray]; exact fill_one (by rfl) (zi_size21 hyl) (by rfl)) (hS := hS) (h := fun w13 g13 hS => ?_)
    try simp only [nY, aY] at hS ⊢
    replace hS := hS.obj_rd (sz := 21) (n := 1) (by exact zi_size21 hyl) .head
    rw [arow_one hyl] at hS
    refine m_append U22 ti66 (hS := hS) (h1 := rowsZ_cells _ _) (h := fun w14 A14 C14 hS => ?_)
    try simp only [← List.map_append, ← List.map_drop, ← List.map_take, Nat.mul_one, Nat.zero_mul, Nat.sub_zero, List.drop_zero, List.nil_append, Nat.zero_add] at hS ⊢
    try simp only [nY, aY] at hS ⊢
    rw [add_one] at hS
    refine s_go s_assign ?_
    try simp only [nY]
    refine x_nil (hK13 _ _ ?_)
    refine x_region ?_
    refine s_go s_move ?_
    try simp only [nY]
    refine s_go (s_add (hc := by exact wr_i64 (by omega) (by omega))) ?_
    try simp only [nY]
    refine s_go s_assign ?_
    try simp only [nY]
    refine x_nil ?_
    refine loop_back (m' := m1 - 1) (by simp only [clob, List.foldl, nZ]) ?_ ?_
    · try simp only [nY]
      exact ⟨_, _, _, _, _, by omega, by omega, by omega, by rfl, by rfl, by simp only [List.length_append, List.length_cons, List.length_nil, Nat.zero_add]; rfl, hnx, by simp only [List.length_append, List.length_cons, List.length_nil, Nat.zero_add]; omega, by simp only [List.length_append, List.length_cons, List.length_nil, Nat.zero_add]; exact hS.selA⟩
    · omega
   try simp only [dY] at hc5
   have hmg := mg_e (s := s) (t := t) (i := i) (k := k) (by omega) hx (by omega) hy hl1 hc5
   have hnx : (o ++ [(akey x ++ moreV (aval x) (aval y))]) ++ mergeP (s.drop (i + 1)) (t.drop (k + 1)) = mergeP s t := by rw [← hmo, hmg, List.append_assoc]; rfl
   have hmo9 := more_ok hvx hvy
   have hml := hmo9.len
   have hk12 := hkx.len
   have hzl : (akey x ++ moreV (aval x) (aval y)).length = 21 := (kv_ok hkx hmo9).len
   refine x_seq fun K14 hK14 => ?_
   refine x_mixed_c (Lc := [.rd B2 21 (t).length (arows (t)), .rd B1 21 (s).length (arows (s))]) [] 0 [5, 22, 23, 24, 25, 26, 27, 28, 29, 30, 31, 32, 33, 34, 35, 36, 37, 38, 39, 40, 41] (fun f w => ∃ (C2 : Option Addr) (e2 : Nat), f 5 = .slice C2 (o.length + 1) e2 ∧ St NoB w0 w [.vec C2 e2 66 21 (o.length + 1) (arows (o ++ [(akey x ++ moreV (aval x) (aval y))])), .rd B2 21 (t).length (arows (t)), .rd B1 21 (s).length (arows (s))]) (by kernel_rfl) (by kernel_rfl) (by kernel_rfl) (by decide) hS (fun w15 hS => ?mixpre501) ?mixrest501
   case mixpre501 =>
    refine p_nil ?_
    simp only [List.length_cons, List.length_nil, Nat.reduceAdd, Nat.reduceSub]
    refine any_gn 0 rfl (go_yields w_none (fun w hS => s_move)) ?_
    try simp only [nY]
    refine any_gn 1 rfl (go_yields w_none (fun w hS => s_move)) ?_
    try simp only [nY]
    refine any_gn 2 rfl (go_yields w_none (fun w hS => s_move)) ?_
    try simp only [nY]
    refine any_gn 3 rfl (go_yields w_none (fun w hS => m_indexAddr_rd U22 ti66 (hS := hS))) ?_
    try simp only [nY, Nat.mul_one, Nat.zero_add, Int.toNat_natCast, Int.reduceToNat]
    refine any_gn 4 rfl (go_yields w_none (fun w hS => m_fieldAddr_rd U66 (hi := ti61) (hS := hS))) ?_
    try simp only [nY, fY, gY]
    refine any_gn 5 rfl (go_yields w_none (fun w hS => m_loada_rd U61 (hi := ti61) (hS := hS) (hfit := by rw [arows_len]; omega))) ?_
    try simp only [nY, gY]
    rw [arow_key (by omega) hso, hx]
    refine any_gn 6 rfl (go_yields w_none (fun w hS => s_move)) ?_
    try simp only [nY]
    refine any_gn 7 rfl (go_yields w_none (fun w hS => s_move)) ?_
    try simp only [nY]
    refine any_gn 8 rfl (go_yields w_none (fun w hS => m_indexAddr_rd U22 ti66 (hS := hS))) ?_
    try simp only [nY, Nat.mul_one, Nat.zero_add, Int.toNat_natCast, Int.reduceToNat]
    refine any_gn 9 rfl (go_yields w_none (fun w hS => m_fieldAddr_rd U66 (hi := ti64) (hS := hS))) ?_
    try simp only [nY, fY, gY]
    refine any_gn 10 rfl (go_yields w_none (fun w hS => m_loada_rd U64 (hi := ti64) (hS := hS) (hfit := by rw [arows_len]; omega))) ?_
    try simp only [nY, gY]
    rw [arow_val (by omega) hso, hx]
    refine any_gn 11 rfl (go_yields w_none (fun w hS => s_move)) ?_
    try simp only [nY]
    refine any_gn 12 rfl (go_yields w_none (fun w hS => s_move)) ?_
    try simp only [nY]
    refine any_gn 13 rfl (go_yields w_none (fun w hS => m_indexAddr_rd U22 ti66 (hS := hS))) ?_
    try simp only [nY, Nat.mul_one, Nat.zero_add, Int.toNat_natCast, Int.reduceToNat]
    refine any_gn 14 rfl (go_yields w_none (fun w hS => m_fieldAddr_rd U66 (hi := ti64) (hS := hS))) ?_
    try simp only [nY, fY, gY]
    refine any_gn 15 rfl (go_yields w_none (fun w hS => m_loada_rd U64 (hi := ti64) (hS := hS) (hfit := by rw [arows_len]; omega))) ?_
    try simp only [nY, gY]
    rw [arow_val (by omega) hto, hy]
    apply any_gn 16 rfl (call_yields w_none en37 ?H1) ?K1
    case H1 =>
      intro w hS
      try simp only [nY, mY]
      refine CallR.mono (c_ref09More (aval x) (aval y) hvx hvy _) ?_
      rintro _ w1 ⟨rfl, hE⟩; exact ⟨rfl, hE⟩
    try simp only [nY]
    refine any_gn 17 rfl (go_yields w_none (fun w hS => s_build_struct (cells := (AA (akey x ++ moreV (aval x) (aval y)))) U66 ti66 bp66 (hc := by simp only [List.map_toArray, List.map_cons, List.map_nil, nY, List.toList_toArray]; exact fill_atom (by rfl) (by rfl) (by rfl) hk12 hml))) ?_
    try simp only [nY]
    refine any_step [18] (by kernel_rfl) (by decide) (fun w16 hE => ⟨fun _ => (hS.ext hE).sel (by repeat (first | exact Sel.nil | (refine Sel.cons (by repeat (first | exact Del.head | apply Del.tail)) ?_))), ?_⟩)
    replace hS := hS.ext hE
    intro i hi
    simp only [List.mem_cons, List.not_mem_nil, or_false] at hi
    subst hi
    refine any_op (by rfl) ?_
    refine m_buildRow (cells := (AA (akey x ++ moreV (aval x) (aval y)))) U22 ti66 (hc := by simp only [List.map_toArray, List.map_cons, List.map_nil, nY, List.toList_toArray]; exact fill_one (by rfl) (zi_size21 hzl) (by rfl)) (hS := hS) (h := fun w17 g17 hS => ?_)
    try simp only [nY, aY] at hS ⊢
    replace hS := hS.obj_rd (sz := 21) (n := 1) (by exact zi_size21 hzl) .head
    rw [arow_one hzl] at hS
    refine x_nil ?_
    refine any_step [19] (by kernel_rfl) (by decide) (fun w18 hE => ⟨fun _ => (hS.ext hE).sel (by repeat (first | exact Sel.nil | (refine Sel.cons (by repeat (first | exact Del.head | apply Del.tail)) ?_))), ?_⟩)
    replace hS := hS.ext hE
    intro i hi
    simp only [List.mem_cons, List.not_mem_nil, or_false] at hi
    subst hi
    refine any_op (by rfl) ?_
    refine m_append U22 ti66 (hS := hS) (h1 := rowsZ_cells _ _) (h := fun w19 A19 C19 hS => ?_)
    try simp only [← List.map_append, ← List.map_drop, ← List.map_take, Nat.mul_one, Nat.zero_mul, Nat.sub_zero, List.drop_zero, List.nil_append, Nat.zero_add] at hS ⊢
    try simp only [nY, aY] at hS ⊢
    rw [add_one] at hS
    refine x_nil ?_
    refine any_gn 20 rfl (go_yields w_none (fun w hS => s_assign)) ?_
    try simp only [nY]
    refine any_nil (by kernel_rfl) (fun w20 hE => ?_)
    replace hS := hS.ext hE
    refine ⟨fun _ => hS.selA, ?_⟩
    refine mix_leaf (by simp only [clob, List.foldl, nZ]) ?_
    try simp only [n1, n2]
    exact ⟨_, _, by trivial, hS.selA⟩
   intro fm1 w21 hM
   obtain ⟨C2, e2, h5, hS⟩ := hM
   simp only [clob, List.foldl, n3, n4, h5]
   refine hK14 _ _ ?_
   refine x_seq fun K15 hK15 => x_region ?_
   refine s_go s_move ?_
   try simp only [nY]
   refine s_go (s_add (hc := by exact wr_i64 (by omega) (by omega))) ?_
   try simp only [nY]
   refine s_go s_assign ?_
   try simp only [nY]
   refine x_nil (hK15 _ _ ?_)
   refine x_region ?_
   refine s_go s_move ?_
   try simp only [nY]
   refine s_go (s_add (hc := by exact wr_i64 (by omega) (by omega))) ?_
   try simp only [nY]
   refine s_go s_assign ?_
   try simp only [nY]
   refine x_nil ?_
   refine loop_back (m' := m1 - 1) (by simp only [clob, List.foldl, nZ]) ?_ ?_
   · try simp only [nY]
     exact ⟨_, _, _, _, _, by omega, by omega, by omega, by rfl, by rfl, by simp only [List.length_append, List.length_cons, List.length_nil, Nat.zero_add]; rfl, hnx, by simp only [List.length_append, List.length_cons, List.length_nil, Nat.zero_add]; omega, by simp only [List.length_append, List.length_cons, List.length_nil, Nat.zero_add]; exact hS.sel (by repeat (first | exact Sel.nil | (refine Sel.cons (by repeat (exact Del.head)) ?_)))⟩
   · omega
  try simp only [n3, n4]
  try simp only [dZ, ne_eq] at hp3
  (exfalso; omega)
 try simp only [n3, n4]
 try simp only [dZ, ne_eq] at hp1
 refine g_on (yi (t := 16) rfl rfl) ?_
 refine s_go s_move ?_
 try simp only [nY]
 refine g_on (yi (t := 16) rfl rfl) ?_
 refine s_go s_move ?_
 try simp only [nY]
 refine g_on (yi (t := 16) rfl rfl) ?_
 refine s_go (s_len_sl U22) ?_
 try simp only [nY]
 refine g_on (yi (t := 16) rfl rfl) ?_
 refine s_go s_lss ?_
 try simp only [nY]
 refine s_go s_pick_f ?_
 try simp only [nY]
 refine x_nil (hK7 _ _ ?_)
 refine x_cond (ht := fun hc9 => ?_) (hf := fun hc9 => ?_)
 ·
  try simp only [dY] at hc9
  refine x_skip ?_
  refine hK6 _ _ ?_
  refine x_block ?_
  refine x_block ?_
  refine x_seq fun K21 hK21 => ?_
  refine x_quiet (by kernel_rfl) (by kernel_rfl) hS ?_
  refine q_go (fun w hS => s_move) ?_
  try simp only [nY]
  refine q_go (fun w hS => s_move) ?_
  try simp only [nY]
  refine q_go (fun w hS => s_len_sl U22) ?_
  try simp only [nY]
  refine q_go (fun w hS => s_eql) ?_
  try simp only [nY]
  refine q_go (fun w hS => s_move) ?_
  try simp only [nY]
  refine q_part 51 rfl (fun hp6 => ?_) (fun hp6 => ?_)
  ·
   try simp only [n3, n4]
   try simp only [dZ, ne_eq] at hp6
   (exfalso; omega)
  try simp only [n3, n4]
  try simp only [dZ, ne_eq] at hp6
  have hay : AtomOk y := by rw [← hy]; exact hto.get (by omega)
  have hyl := hay.len
  have hky := hay.key
  have hvy := hay.val
  refine q_on (yi (t := 51) rfl rfl) ?_
  refine q_go (fun w hS => s_move) ?_
  try simp only [nY]
  refine q_on (yi (t := 51) rfl rfl) ?_
  refine q_go (fun w hS => s_move) ?_
  try simp only [nY]
  refine q_on (yi (t := 51) rfl rfl) ?_
  refine q_go (fun w hS => s_len_sl U22) ?_
  try simp only [nY]
  refine q_on (yi (t := 51) rfl rfl) ?_
  refine q_go (fun w hS => s_lss) ?_
  try simp only [nY]
  refine q_on (yi (t := 51) rfl rfl) ?_
  refine q_go (fun w hS => s_move) ?_
  try simp only [nY]
  refine q_part 56 rfl (fun hp7 => ?_) (fun hp7 => ?_)
  ·
   try simp only [n3, n4]
   try simp only [dZ, ne_eq] at hp7
   (exfalso; omega)
  try simp only [n3, n4]
  try simp only [dZ, ne_eq] at hp7
  have hmg := mg_r (s := s) (t := t) (i := i) (k := k) (by omega) hy (.inl (by omega))
  have hnx : (o ++ [y]) ++ mergeP (s.drop i) (t.drop (k + 1)) = mergeP s t := by rw [← hmo, hmg, List.append_assoc]; rfl
  refine q_off (yi (t := 56) rfl rfl) ?_
  try simp only [nY]
  refine q_off (yi (t := 56) rfl rfl) ?_
  try simp only [nY]
  refine q_off (yi (t := 56) rfl rfl) ?_
  try simp only [nY]
  refine q_off (yi (t := 56) rfl rfl) ?_
  try simp only [nY]
  refine q_off (yi (t := 56) rfl rfl) ?_
  try simp only [nY]
  refine q_off (yi (t := 56) rfl rfl) ?_
  try simp only [nY]
  refine q_off (yi (t := 56) rfl rfl) ?_
  try simp only [nY]
  refine q_off (yi (t := 56) rfl rfl) ?_
  try simp only [nY]
  refine q_off (yi (t := 56) rfl rfl) ?_
  try simp only [nY]
  refine q_off (yi (t := 56) rfl rfl) ?_
  try simp only [nY]
  refine q_off (yi (t := 56) rfl rfl) ?_
  try simp only [nY]
  refine q_on (yi (t := 51) rfl rfl) ?_
  refine q_go (fun w hS => s_pick_f) ?_
  try simp only [nY]
  refine q_go (fun w hS => s_pick_f) ?_
  try simp only [nY]
  refine q_go (fun w hS => s_assign) ?_
  try simp only [nY]
  clear hS
  refine q_nil fun w55 hS => ?_
  refine hK21 _ _ ?_
  refine x_cond_f (h := ?_)
  try have hl1 := @c
  refine x_seq fun K29 hK29 => ?_
  refine x_quiet (by kernel_rfl) (by kernel_rfl) hS ?_
  refine q_go (fun w hS => s_move) ?_
  try simp only [nY]
  refine q_go (fun w hS => s_move) ?_
  try simp only [nY]
  refine q_go (fun w hS => s_len_sl U22) ?_
  try simp only [nY]
  refine q_go (fun w hS => s_eql) ?_
  try simp only [nY]
  refine q_go (fun w hS => s_move) ?_
  try simp only [nY]
  refine q_part 84 rfl (fun hp9 => ?_) (fun hp9 => ?_)
  ·
   try simp only [n3, n4]
   try simp only [dZ, ne_eq] at hp9
   refine q_off (yi (t := 84) rfl rfl) ?_
   try simp only [nY]
   refine q_off (yi (t := 84) rfl rfl) ?_
   try simp only [nY]
   refine q_off (yi (t := 84) rfl rfl) ?_
   try simp only [nY]
   refine q_off (yi (t := 84) rfl rfl) ?_
   try simp only [nY]
   refine q_off (yi (t := 84) rfl rfl) ?_
   try simp only [nY]
   refine q_off (yi (t := 84) rfl rfl) ?_
   try simp only [nY]
   refine q_off (yi (t := 84) rfl rfl) ?_
   try simp only [nY]
   refine q_off (yi (t := 84) rfl rfl) ?_
   try simp only [nY]
   refine q_off (yi (t := 84) rfl rfl) ?_
   try simp only [nY]
   refine q_off (yi (t := 84) rfl rfl) ?_
   try simp only [nY]
   refine q_off (yi (t := 84) rfl rfl) ?_
   try simp only [nY]
   refine q_go (fun w hS => s_pick_t) ?_
   try simp only [nY]
   refine q_go (fun w hS => s_assign) ?_
   try simp only [nY]
   clear hS
   refine q_nil fun w56 hS => ?_
   refine hK29 _ _ ?_
   refine x_cond_t (h := ?_)
   try (have hmg := mg_r (s := s) (t := t) (i := i) (k := k) (by omega) hy (.inr ⟨by omega, by rw [hx]; exact hl1, by rw [hx]; exact @c⟩))
   have hnx : (o ++ [y]) ++ mergeP (s.drop i) (t.drop (k + 1)) = mergeP s t := by rw [← hmo, hmg, List.append_assoc]; rfl
   refine x_seq fun K30 hK30 => x_region ?_
   refine s_go s_move ?_
   try simp only [nY]
   refine s_go s_move ?_
   try simp only [nY]
   refine s_go s_move ?_
   try simp only [nY]
   refine s_go (m_indexAddr_rd U22 ti66 (hS := hS)) ?_
   try simp only [nY, Nat.mul_one, Nat.zero_add, Int.toNat_natCast, Int.reduceToNat]
   refine s_go (m_loada_rd U66 (hi := ti66) (hS := hS) (hfit := by rw [arows_len]; omega)) ?_
   try simp only [nY, gY]
   rw [arow_get (by omega) hto, hy]
   refine m_buildRow (cells := (AA y)) U22 ti66 (hc := by simp only [List.map_toArray, List.map_cons, List.map_nil, nY, List.toList_toArray]; exact fill_one (by rfl) (zi_size21 hyl) (by rfl)) (hS := hS) (h := fun w57 g57 hS => ?_)
   try simp only [nY, aY] at hS ⊢
   replace hS := hS.obj_rd (sz := 21) (n := 1) (by exact zi_size21 hyl) .head
   rw [arow_one hyl] at hS
   refine m_append U22 ti66 (hS := hS) (h1 := rowsZ_cells _ _) (h := fun w58 A58 C58 hS => ?_)
   try simp only [← List.map_append, ← List.map_drop, ← List.map_take, Nat.mul_one, Nat.zero_mul, Nat.sub_zero, List.drop_zero, List.nil_append, Nat.zero_add] at hS ⊢
   try simp only [nY, aY] at hS ⊢
   rw [add_one] at hS
   refine s_go s_assign ?_
   try simp only [nY]
   refine x_nil (hK30 _ _ ?_)
   refine x_region ?_
   refine s_go s_move ?_
   try simp only [nY]
   refine s_go (s_add (hc := by exact wr_i64 (by omega) (by omega))) ?_
   try simp only [nY]
   refine s_go s_assign ?_
   try simp only [nY]
   refine x_nil ?_
   refine loop_back (m' := m1 - 1) (by simp only [clob, List.foldl, nZ]) ?_ ?_
   · try simp only [nY]
     exact ⟨_, _, _, _, _, by omega, by omega, by omega, by rfl, by rfl, by simp only [List.length_append, List.length_cons, List.length_nil, Nat.zero_add]; rfl, hnx, by simp only [List.length_append, List.length_cons, List.length_nil, Nat.zero_add]; omega, by simp only [List.length_append, List.length_cons, List.length_nil, Nat.zero_add]; exact hS.selA⟩
   · omega
  try simp only [n3, n4]
  try simp only [dZ, ne_eq] at hp9
  (exfalso; omega)
 try simp only [dY] at hc9
 obtain rfl : i = s.length := by omega
 obtain rfl : k = t.length := by omega
 rw [List.drop_of_length_le (Nat.le_refl _), List.drop_of_length_le (Nat.le_refl _), merge_nil, List.append_nil] at hmo
 rw [hmg0] at hmo
 refine x_exit (look_here ?_)
 refine hK5 _ _ ?_
 refine x_seq fun K34 hK34 => x_region ?_
 refine s_go s_move ?_
 try simp only [nY]
 refine s_go s_assign ?_
 try simp only [nY]
 refine x_nil (hK34 _ _ ?_)
 refine x_ret (r_tmp rfl ?_)
 rw [← hmo]
 exact ⟨_, _, rfl, hS.sel (by repeat (first | exact Sel.nil | (refine Sel.cons (by repeat (exact Del.head)) ?_)))⟩
end Go.Proofs.YtpekghaodmeemaaGreat
set_option linter.unusedSimpArgs false
set_option linter.unusedVariables false
set_option maxHeartbeats 1000000
set_option maxRecDepth 100000
namespace Go.Proofs.YtpekghaodmeemaaGreat
open Go.RowKit

def k10 : List Int := [1, 1, 97, 0, 0, 0, 0, 0, 0, 0, 2, 3]
def a10 : List Int := k10 ++ [1, 0, 0, 0, 0, 0, 0, 0, 0]
def b10 : List Int := k10 ++ [2, 0, 0, 0, 0, 0, 0, 0, 0]
end Go.Proofs.YtpekghaodmeemaaGreat
set_option linter.unusedSimpArgs false
set_option linter.unusedVariables false
set_option maxHeartbeats 1000000
set_option maxRecDepth 100000
namespace Go.Proofs.YtpekghaodmeemaaGreat
open Go.RowKit

def noteK (c : Nat) : List Int := mkKey 4 c nm0 0 0
theorem noteK_ok {c : Nat} (h : c < 65536) : KeyOk (noteK c) := mkKey_ok rfl nm0_byt (by decide) h (by decide) (by decide)
def noteV (l : List (List Int)) (c : Nat) : List Int := (fnd (noteK c) (normP l)).getD v9
def noteN (l : List (List Int)) (c : Nat) : Nat := kn (noteV l c) 0 / 256 % 4294967296
def noteR (l : List (List Int)) (c : Nat) : Nat := kn (noteV l c) 0 % 256
def noteT (l : List (List Int)) (c : Nat) : List Int := vtext (noteV l c)
def noteX (l : List (List Int)) (r : Nat) (tx : List Int) (c : Nat) : List Int := mkV (256 * (noteN l c + 1) + r) tx
def noteA (l : List (List Int)) (r : Nat) (tx : List Int) (c : Nat) : List Int := noteK c ++ noteX l r tx c
def noteE (l : List (List Int)) (r : Nat) (tx : List Int) (c : Nat) : Int := if 16 ≤ r ∨ (¬ tx = nm0 ∧ nright tx = false) then 1 else if noteN l c = 4294967295 then 8 else 0
def noteP (l : List (List Int)) (r : Nat) (tx : List Int) (c : Nat) : List (List Int) := if noteE l r tx c = 0 then [noteA l r tx c] else []
theorem noteN_lt (l : List (List Int)) (c : Nat) : noteN l c < 4294967296 := Nat.mod_lt _ (by decide)
theorem noteX_ok {l : List (List Int)} {r c : Nat} {tx : List Int} (hr : r < 256) (h8 : tx.length = 8) (hb : Byt tx) : ValOk (noteX l r tx c) := by
  have := noteN_lt l c
  exact ⟨mkV_len h8, by show ((256 * (noteN l c + 1) + r : Nat) : Int) = ((((256 * (noteN l c + 1) + r : Nat) : Int).toNat : Nat) : Int); omega, by show (((256 * (noteN l c + 1) + r : Nat) : Int).toNat) < _; omega, hb⟩
theorem noteA_ok {l : List (List Int)} {r c : Nat} {tx : List Int} (hr : r < 256) (hc : c < 65536) (h8 : tx.length = 8) (hb : Byt tx) : AtomOk (noteA l r tx c) := kv_ok (noteK_ok hc) (noteX_ok hr h8 hb)
theorem key_whole {x : List Int} (h : x.length = 12) : (((KA x).toList.drop 0).take 12).toArray = KA x := by
  rw [List.drop_zero, List.take_of_length_le (by simpa using Nat.le_of_eq (zi_len (ks := keyKs) (by simpa using h)))]
theorem fill_val {pl : Nat → Option (Nat × Nat)} {base : Array Value} {n : Int} {t : List Int} (h1 : pl 0 = some (0, 1)) (h2 : pl 1 = some (1, 8)) (hb : base.size = 9) (ht : t.length = 8) : Instr.fill pl base [(0, .int .u64 n), (1, .agg (ic .u8 t))] = some (VA (n :: t)) := by
  match t, ht with
  | [a, b, c, d, e, f, g, i], _ =>
    refine fill_cons h1 rfl (by omega) ?_
    refine fill_cons h2 rfl (by simp [splice, Value.cells, hb]) ?_
    simp only [fill_nil, Value.cells, splice, List.take_zero, List.nil_append]
    have e1 : base.toList.drop 9 = [] := List.drop_of_length_le (by rw [Array.length_toList, hb]; exact Nat.le_refl _)
    simp [ic, zi, List.drop_drop, e1]
theorem noteE_1 {l : List (List Int)} {r c : Nat} {tx : List Int} (h : 16 ≤ r ∨ (¬ tx = nm0 ∧ nright tx = false)) : noteE l r tx c = 1 := by rw [noteE, if_pos h]
theorem noteE_8 {l : List (List Int)} {r c : Nat} {tx : List Int} (h : ¬ (16 ≤ r ∨ (¬ tx = nm0 ∧ nright tx = false))) (h2 : noteN l c = 4294967295) : noteE l r tx c = 8 := by rw [noteE, if_neg h, if_pos h2]
theorem noteE_0 {l : List (List Int)} {r c : Nat} {tx : List Int} (h : ¬ (16 ≤ r ∨ (¬ tx = nm0 ∧ nright tx = false))) (h2 : ¬ noteN l c = 4294967295) : noteE l r tx c = 0 := by rw [noteE, if_neg h, if_neg h2]
theorem noteP_no {l : List (List Int)} {r c : Nat} {tx : List Int} (h : ¬ noteE l r tx c = 0) : noteP l r tx c = [] := if_neg h
theorem noteP_yes {l : List (List Int)} {r c : Nat} {tx : List Int} (h : noteE l r tx c = 0) : noteP l r tx c = [noteA l r tx c] := if_pos h

theorem c_noteGet1 (w0 : World) (kq : Nat) (x y : List Int) (hx : x.length = 12) (hy : y.length = 12) (hr : Rd w0 (some ⟨kq, 0, none⟩) 12 1 (KA y).toList)  :
    CallR Tryz.prog 115 #[.agg (KA x), .pointer (some ⟨kq, 0, none⟩)] w0 fun v w' => v = .bool (decide (x = y)) ∧ Ext w0 w' := by
 have hS := St.rd1 (S := NoB) hr
 have hy12 : (KA y).toList.length = 12 := by simpa using zi_len (ks := keyKs) (by simpa using hy)
 refine c_enter (l := [.agg (KA x), .pointer (some ⟨kq, 0, none⟩), undef, undef, undef, undef, undef]) Tryz.func115 rfl (by simp only [Tryz.ntmps115, List.size_toArray, List.length_cons, List.length_nil, Nat.reduceAdd, Nat.reduceSub, Array.replicate_succ, Array.replicate_zero, List.push_toArray, List.append_toArray, List.nil_append, List.cons_append]) ?_
 refine x_seq fun K1 hK1 => x_region ?_
 refine m_box hS (fun w1 g1 hS => ?_)
 try simp only [nY, aY] at hS ⊢
 refine s_go s_assign ?_
 try simp only [nY]
 refine x_nil (hK1 _ _ ?_)
 refine x_seq fun K2 hK2 => x_region ?_
 refine s_go (m_load_row U61 (hi := ti61) (hS := hS) (hfit := by (rw [zi_size (by omega)]; rfl))) ?_
 try simp only [nY, gY]
 refine s_go (m_loada_bx U61 (hi := ti61) (hS := hS) (hfit := by rw [hy12]; decide)) ?_
 try simp only [nY, gY]
 rw [key_whole hy]
 refine s_go (s_eql_agg eqv61 (hg := eg61) (hX := rfl) (hY := rfl) (h1 := by assumption) (h2 := by assumption)) ?_
 try simp only [nY]
 refine s_go s_assign ?_
 try simp only [nY]
 refine x_nil (hK2 _ _ ?_)
 refine x_ret (r_tmp rfl ?_)
 exact ⟨rfl, hS.ext_of⟩
theorem c_noteFind (w0 : World) (A : Option Addr) (c : Nat) (l : List (List Int)) (hr : Rd w0 A 21 l.length (arows l)) (hv : AOks l) (hn : l.length ≤ 1000000000) (kq : Nat) (ky : List Int) (hky : ky.length = 12) (hk : Rd w0 (some ⟨kq, 0, none⟩) 12 1 (KA ky).toList)  :
    CallR Tryz.prog 114 #[.slice A l.length c, .func (.func 115) #[] #[.pointer (some ⟨kq, 0, none⟩)]] w0 fun v w' => v = .tuple #[.agg (VA ((fnd ky (normP l)).getD v9)), .bool (fnd ky (normP l)).isSome] ∧ Ext w0 w' := by
 have hS := St.rd2 (S := NoB) hr hk
 have hno := (norm_sta hv).ok
 have hkn := (norm_sta hv).knd
 have hnl := arows_len (normP l)
 have hnb := norm_len l
 refine y_enter (l := [.slice A l.length c, .func (.func 115) #[] #[.pointer (some ⟨kq, 0, none⟩)], undef, undef, undef, undef, undef, undef, undef, undef, undef, undef, undef, undef, undef, undef, undef]) Tryz.func114 rfl (by simp only [Tryz.ntmps114, List.size_toArray, List.length_cons, List.length_nil, Nat.reduceAdd, Nat.reduceSub, Array.replicate_succ, Array.replicate_zero, List.push_toArray, List.append_toArray, List.nil_append, List.cons_append]) ?_
 refine y_seq fun K1 hK1 => ?_
 refine y_region (by kernel_rfl) ?_
 refine m_box hS (fun w1 g1 hS => ?_)
 try simp only [nY, aY] at hS ⊢
 refine m_alloc ti64 hS (fun w2 g2 hS => ?_)
 try simp only [nY, aY] at hS ⊢
 have h9l : v9.length = 9 := rfl
 replace hS : St _ _ w2 (.obj g2 (.cells (VA v9) 64 (0, 0)) :: _) := hS
 obtain ⟨g4, hg4⟩ : ∃ z, z = g2 := ⟨_, rfl⟩
 rw [← hg4] at hS ⊢
 refine m_alloc ti4 hS (fun w3 g3 hS => ?_)
 try simp only [nY, aY] at hS ⊢
 obtain ⟨g5, hg5⟩ : ∃ z, z = g3 := ⟨_, rfl⟩
 rw [← hg5] at hS ⊢
 refine y_nilf ?_
 refine hK1 _ _ ?_
 refine y_seq fun K2 hK2 => ?_
 refine y_seq fun K3 hK3 => ?_
 refine y_region (by kernel_rfl) ?_
 refine s_go s_move ?_
 try simp only [nY]
 refine s_call en81 ?_
 try simp only [nY, mY]
 refine CallR.mono (c_latEach A c l _) ?_
 rintro _ w4 ⟨b, rfl, hC4⟩
 replace hS := hS.call hC4
 simp only [List.cons_append, List.nil_append] at hS
 try simp only [nY]
 refine y_nilf ?_
 refine hK3 _ _ ?_
 refine y_block ?_
 refine y_range rfl en103 (i_latEach b A c l hv hn) (fun _ => rfl) hS (by repeat (first | exact Spl.nil | (apply Spl.cons (by repeat (first | exact Del.head | apply Del.tail))))) (fun k L => k ≤ (normP l).length ∧ fnd ky ((normP l).take k) = none ∧ L = [.obj g5 (.cells #[.bool false] 4 (0, 0)), .obj g4 (.cells (VA v9) 64 (0, 0)), .obj g1 (.cells #[.func (.func 115) #[] #[.pointer (some ⟨kq, 0, none⟩)]] 95 (0, 0)), .rd (some ⟨kq, 0, none⟩) 12 1 (KA ky).toList]) (fun L => ∃ u : List Int, fnd ky (normP l) = some u ∧ u.length = 9 ∧ L = [.obj g5 (.cells #[.bool true] 4 (0, 0)), .obj g4 (.cells (VA u) 64 (0, 0))]) [] ?rfh1 ?rfr1 (fun D1 T1 w5 R1 hC hS => ?rfd1) (fun D1 T1 w6 R1 hX hS => ?rft1) ?rfe1
 case rfh1 =>
  exact ⟨Nat.zero_le _, rfl, rfl⟩
 case rfr1 =>
  intro k1 w7 R1 T1 lr1 hk1 hC hS
  obtain ⟨hk0, hfn, rfl⟩ := hC
  simp only [List.cons_append, List.nil_append] at hS
  simp only [List.toList_toArray, entL, List.zip_cons_cons, List.zip_nil_left, List.foldl_cons, List.foldl_nil, n3, n4]
  obtain ⟨x, hx⟩ : ∃ x, (normP l).getD k1 [] = x := ⟨_, rfl⟩
  have ha : AtomOk x := by rw [← hx]; exact hno.get (by omega)
  have hal := ha.len
  have hk12 := ha.key.len
  have hvx := ha.val
  have hx9 := hvx.len
  simp only [hx]
  refine y_seq fun K4 hK4 => ?_
  refine y_region (by kernel_rfl) ?_
  refine m_alloc ti61 hS (fun w8 g8 hS => ?_)
  try simp only [nY, aY] at hS ⊢
  have h0l : key0.length = 12 := rfl
  replace hS : St _ _ w8 (.obj g8 (.cells (KA key0) 61 (0, 0)) :: _) := hS
  refine m_store_obj ti61 (hS := hS) (hc := by exact zi_whole (by omega) (by omega)) (hv := by (show (zi _ _).toArray.size = _; rw [zi_size (by omega)]; rfl)) (hfit := by (rw [zi_size (by omega)]; decide)) (h1 := by exact zi_one _ _) (h := fun w9 hS => ?_)
  try simp only [nY, aY] at hS ⊢
  refine y_nilf ?_
  refine hK4 _ _ ?_
  refine y_region (by kernel_rfl) ?_
  refine m_alloc ti64 hS (fun w10 g10 hS => ?_)
  try simp only [nY, aY] at hS ⊢
  replace hS : St _ _ w10 (.obj g10 (.cells (VA v9) 64 (0, 0)) :: _) := hS
  refine m_store_obj ti64 (hS := hS) (hc := by exact zi_whole (by omega) (by omega)) (hv := by (show (zi _ _).toArray.size = _; rw [zi_size (by omega)]; rfl)) (hfit := by (rw [zi_size (by omega)]; decide)) (h1 := by exact zi_one _ _) (h := fun w11 hS => ?_)
  try simp only [nY, aY] at hS ⊢
  refine y_nilf ?_
  refine round_open hS (by repeat (first | exact App.nil | apply App.cons)) (fun w12 T2 hS => ?_)
  simp only [List.cons_append, List.nil_append] at hS
  refine y_block ?_
  refine y_seq fun K5 hK5 => ?_
  refine y_region (by kernel_rfl) ?_
  refine s_go (m_load_obj U95 (hS := hS) (hv := by rfl)) ?_
  try simp only [nY, gY]
  refine s_go (m_load_row U61 (hi := ti61) (hS := hS) (hfit := by (rw [zi_size (by omega)]; rfl))) ?_
  try simp only [nY, gY]
  refine s_callv (hv := rfl) en115 ?_
  try simp only [nY, mY]
  refine CallR.mono (c_noteGet1 _ kq (akey x) ky hk12 hky (hS.hasA)) ?_
  rintro _ w13 ⟨rfl, hE13⟩
  replace hS := hS.ext hE13
  try simp only [nY]
  refine y_nilf ?_
  refine hK5 _ _ ?_
  refine y_cond (ht := fun hc1 => ?_) (hf := fun hc1 => ?_)
  ·
   try simp only [dY] at hc1
   have hfs : fnd ky (normP l) = some (aval x) := fnd_here hk1 hx hfn hc1
   refine y_seq fun K6 hK6 => ?_
   refine y_region (by kernel_rfl) ?_
   refine s_go (m_load_row U64 (hi := ti64) (hS := hS) (hfit := by (rw [zi_size (by omega)]; rfl))) ?_
   try simp only [nY, gY]
   refine m_store_obj ti64 (hS := hS) (hc := by exact zi_whole (by omega) (by omega)) (hv := by (show (zi _ _).toArray.size = _; rw [zi_size (by omega)]; rfl)) (hfit := by (rw [zi_size (by omega)]; decide)) (h1 := by exact zi_one _ _) (h := fun w14 hS => ?_)
   try simp only [nY, aY] at hS ⊢
   refine m_store_obj ti4 (hS := hS) (hc := by (exact splice_whole (by (simp [opv, Value.cells, *]; done)))) (hv := by rfl) (hfit := by (simp only [ic_size, List.length_map, List.size_toArray]; decide)) (h1 := by simp [opv, Value.cells, Value.oneCell']) (h := fun w15 hS => ?_)
   try simp only [nY, aY] at hS ⊢
   refine y_nilf ?_
   refine hK6 _ _ ?_
   refine y_ret ?_
   exact ⟨_, ⟨_, hfs, hx9, rfl⟩, hS.sel (by repeat (first | exact Sel.self | (refine Sel.cons (by repeat (first | exact Del.head | apply Del.tail)) ?_) | apply Sel.skip))⟩
  try simp only [dY] at hc1
  have hne := hc1
  refine y_skip ?_
  exact ⟨_, ⟨by omega, fnd_step_none hk1 hx hfn hne, rfl⟩, hS.sel (by repeat (first | exact Sel.self | (refine Sel.cons (by repeat (first | exact Del.head | apply Del.tail)) ?_) | apply Sel.skip))⟩
 case rfd1 =>
  obtain ⟨hk0, hfn, rfl⟩ := hC
  simp only [List.cons_append, List.nil_append] at hS
  refine hK2 _ _ ?_
  refine y_seq fun K7 hK7 => ?_
  refine y_region (by kernel_rfl) ?_
  refine s_go (s_build_struct (cells := #[.int .u64 0, .int .u8 0, .int .u8 0, .int .u8 0, .int .u8 0, .int .u8 0, .int .u8 0, .int .u8 0, .int .u8 0]) U64 ti64 bp64 (hc := by simp only [List.map_toArray, List.map_cons, List.map_nil, nY, List.toList_toArray]; (repeat (refine fill_cons rfl rfl (Nat.le_of_ble_eq_true rfl) ?_)); rfl)) ?_
  try simp only [nY]
  rw [show (#[.int .u64 0, .int .u8 0, .int .u8 0, .int .u8 0, .int .u8 0, .int .u8 0, .int .u8 0, .int .u8 0, .int .u8 0] : Array Value) = VA v9 from rfl]
  refine m_store_obj ti64 (hS := hS) (hc := by exact zi_whole (by omega) (by omega)) (hv := by rfl) (hfit := by (rw [zi_size (by omega)]; decide)) (h1 := by exact zi_one _ _) (h := fun w16 hS => ?_)
  try simp only [nY, aY] at hS ⊢
  refine m_store_obj ti4 (hS := hS) (hc := by (exact splice_whole (by (simp [opv, Value.cells, *]; done)))) (hv := by rfl) (hfit := by (simp only [ic_size, List.length_map, List.size_toArray]; decide)) (h1 := by simp [opv, Value.cells, Value.oneCell']) (h := fun w17 hS => ?_)
  try simp only [nY, aY] at hS ⊢
  refine y_nilf ?_
  refine hK7 _ _ ?_
  refine y_ret ?_
  refine rm_mark hS (by repeat (exact Upd.head)) (fun w18 hS => ?_)
  refine rm_nil ?_
  refine r_cell_cell_ao rfl U64 ti64 U4 (hS := hS) (hR := ?_) (hfit := by (rw [zi_size (by omega)]; rfl))
  (rw [List.take_of_length_le (Nat.le_refl _)] at hfn; exact ⟨by rw [hfn]; rfl, hS.ext_of⟩)
 case rft1 =>
  obtain ⟨u, hfs, hu9, rfl⟩ := hX
  simp only [List.cons_append, List.nil_append] at hS
  refine rm_mark hS (by repeat (exact Upd.head)) (fun w19 hS => ?_)
  refine rm_nil ?_
  refine r_cell_cell_ao rfl U64 ti64 U4 (hS := hS) (hR := ?_) (hfit := by (rw [zi_size (by omega)]; rfl))
  exact ⟨by rw [hfs]; rfl, hS.ext_of⟩
 case rfe1 =>
  exact y_ex_nil
theorem c_noteGet (w0 : World) (A : Option Addr) (c : Nat) (l : List (List Int)) (hr : Rd w0 A 21 l.length (arows l)) (hv : AOks l) (hn : l.length ≤ 1000000000) (ct : Nat) (hct : ct < 65536)  :
    CallR Tryz.prog 94 #[.slice A l.length c, .int .u16 (ct : Int)] w0 fun v w' => v = .tuple #[.agg (ic .u8 (noteT l ct)), .int .u32 ((noteN l ct : Nat) : Int), .int .u8 ((noteR l ct : Nat) : Int)] ∧ Ext w0 w' := by
 have hS := St.rd1 (S := NoB) hr
 have hko := noteK_ok hct
 have hkl := hko.len
 have hno := (norm_sta hv).ok
 have hvo : ValOk (noteV l ct) := fndD_ok hno
 have hvl := hvo.len
 have hvb := hvo.b0
 have htl := vtext_len hvl
 have htl2 : (noteT l ct).length = 8 := htl
 have h9l : v9.length = 9 := rfl
 have hn0l : nm0.length = 8 := rfl
 refine c_enter (l := [.slice A l.length c, .int .u16 (ct : Int), undef, undef, undef, undef, undef, undef, undef, undef, undef, undef, undef, undef, undef, undef, undef, undef, undef, undef, undef, undef, undef, undef, undef, undef, undef, undef, undef, undef, undef, undef, undef]) Tryz.func94 rfl (by simp only [Tryz.ntmps94, List.size_toArray, List.length_cons, List.length_nil, Nat.reduceAdd, Nat.reduceSub, Array.replicate_succ, Array.replicate_zero, List.push_toArray, List.append_toArray, List.nil_append, List.cons_append]) ?_
 refine x_seq fun K1 hK1 => x_region ?_
 refine m_alloc ti25 hS (fun w1 g1 hS => ?_)
 try simp only [nY, aY] at hS ⊢
 replace hS : St _ _ w1 (.obj g1 (.cells (ic .u8 nm0) 25 (0, 0)) :: _) := hS
 obtain ⟨gt, hgt⟩ : ∃ z, z = g1 := ⟨_, rfl⟩
 rw [← hgt] at hS ⊢
 refine s_go s_assign ?_
 try simp only [nY]
 refine s_go s_assign ?_
 try simp only [nY]
 refine x_nil (hK1 _ _ ?_)
 refine x_seq fun K2 hK2 => x_region ?_
 refine s_go s_move ?_
 try simp only [nY]
 refine s_go (s_build_struct (cells := #[_, _, .int .u8 0, .int .u8 0, .int .u8 0, .int .u8 0, .int .u8 0, .int .u8 0, .int .u8 0, .int .u8 0, .int .u8 0, .int .u32 0]) U61 ti61 bp61 (hc := by simp only [List.map_toArray, List.map_cons, List.map_nil, nY, List.toList_toArray]; (repeat (refine fill_cons rfl rfl (Nat.le_of_ble_eq_true rfl) ?_)); rfl)) ?_
 try simp only [nY]
 rw [show (#[.int .u8 4, .int .u16 (ct : Int), .int .u8 0, .int .u8 0, .int .u8 0, .int .u8 0, .int .u8 0, .int .u8 0, .int .u8 0, .int .u8 0, .int .u8 0, .int .u32 0] : Array Value) = KA (noteK ct) from rfl]
 refine m_alloc ti61 hS (fun w2 g2 hS => ?_)
 try simp only [nY, aY] at hS ⊢
 have h0l : key0.length = 12 := rfl
 replace hS : St _ _ w2 (.obj g2 (.cells (KA key0) 61 (0, 0)) :: _) := hS
 obtain ⟨kq, hkq⟩ : ∃ z, z = g2 := ⟨_, rfl⟩
 rw [← hkq] at hS ⊢
 refine m_store_obj ti61 (hS := hS) (hc := by exact zi_whole (by omega) (by omega)) (hv := by rfl) (hfit := by (rw [zi_size (by omega)]; decide)) (h1 := by exact zi_one _ _) (h := fun w3 hS => ?_)
 try simp only [nY, aY] at hS ⊢
 replace hS := hS.obj_rd (sz := 12) (n := 1) (by exact zi_size12 hkl) .head
 refine x_nil (hK2 _ _ ?_)
 refine x_seq fun K3 hK3 => x_region ?_
 refine s_go s_move ?_
 try simp only [nY]
 refine s_go s_makeFunc ?_
 try simp only [nY, List.map_toArray, List.map_cons, List.map_nil]
 refine s_call en114 ?_
 try simp only [nY, mY]
 refine CallR.mono (c_noteFind _ A c l (hS.hasA) hv hn kq (noteK ct) hkl (hS.hasRd (by repeat (exact Has.head)))) ?_
 rintro _ w4 ⟨rfl, hE4⟩
 replace hS := hS.ext hE4
 try simp only [nY]
 rw [show (fnd (noteK ct) (normP l)).getD v9 = noteV l ct from rfl]
 refine s_go s_move ?_
 try simp only [nY]
 refine s_go (s_extract (hv := rfl)) ?_
 try simp only [gY]
 try simp only [nY]
 refine s_go (s_extract (hv := rfl)) ?_
 try simp only [gY]
 try simp only [nY]
 refine m_alloc ti64 hS (fun w5 g5 hS => ?_)
 try simp only [nY, aY] at hS ⊢
 replace hS : St _ _ w5 (.obj g5 (.cells (VA v9) 64 (0, 0)) :: _) := hS
 refine m_store_obj ti64 (hS := hS) (hc := by exact zi_whole (by omega) (by omega)) (hv := by (show (zi _ _).toArray.size = _; rw [zi_size (by omega)]; rfl)) (hfit := by (rw [zi_size (by omega)]; decide)) (h1 := by exact zi_one _ _) (h := fun w6 hS => ?_)
 try simp only [nY, aY] at hS ⊢
 refine s_go s_assign ?_
 try simp only [nY]
 refine x_nil (hK3 _ _ ?_)
 refine x_seq fun K4 hK4 => ?_
 refine x_seq fun K5 hK5 => x_region ?_
 refine s_go s_move ?_
 try simp only [nY]
 refine s_go s_not ?_
 try simp only [nY]
 refine x_nil (hK5 _ _ ?_)
 refine x_cond (ht := fun hc1 => ?_) (hf := fun hc1 => ?_)
 ·
  try simp only [dY] at hc1
  have hz : noteV l ct = v9 := by rw [noteV, is_none (o := fnd (noteK ct) (normP l)) (by simpa using hc1)]; rfl
  refine x_seq fun K6 hK6 => x_region ?_
  refine s_go (s_build_arr (cells := #[.int .u8 0, .int .u8 0, .int .u8 0, .int .u8 0, .int .u8 0, .int .u8 0, .int .u8 0, .int .u8 0]) U25 ti25 ti5 (hc := by simp only [List.map_toArray, List.map_cons, List.map_nil, nY, List.toList_toArray]; (repeat (refine fill_cons rfl rfl (Nat.le_of_ble_eq_true rfl) ?_)); rfl)) ?_
  try simp only [nY]
  rw [show (#[.int .u8 0, .int .u8 0, .int .u8 0, .int .u8 0, .int .u8 0, .int .u8 0, .int .u8 0, .int .u8 0] : Array Value) = ic .u8 nm0 from rfl]
  refine m_store_obj ti25 (hS := hS) (hc := by (exact splice_whole (by (simp [opv, Value.cells, *]; done)))) (hv := by rfl) (hfit := by (simp only [ic_size, List.length_map, List.size_toArray]; omega)) (h1 := by exact ic_one _ _) (h := fun w7 hS => ?_)
  try simp only [nY, aY] at hS ⊢
  refine s_go s_assign ?_
  try simp only [nY]
  refine s_go s_assign ?_
  try simp only [nY]
  refine x_nil (hK6 _ _ ?_)
  refine x_ret ?_
  refine r_cell_tmp2_agg rfl U25 ti25 (hS := hS) (hR := ?_) (hfit := by (simp only [ic_size, List.length_map, List.size_toArray]; omega))
  exact ⟨by rw [noteT, noteN, noteR, hz]; rfl, hS.ext_of⟩
 try simp only [dY] at hc1
 refine x_skip ?_
 refine hK4 _ _ ?_
 refine x_seq fun K7 hK7 => x_region ?_
 refine s_go (m_fieldAddr U64 (hi := ti62)) ?_
 try simp only [nY, fY, gY]
 refine s_go (m_load_obj U62 (hS := hS) (hv := by exact zi_get rfl (by omega))) ?_
 try simp only [nY, gY]
 rw [hvo.e0]
 refine s_call en116 ?_
 try simp only [nY, mY]
 refine CallR.mono (c_atomUnstamp (kn (noteV l ct) 0) hvb _) ?_
 rintro _ w8 ⟨rfl, hE8⟩
 replace hS := hS.ext hE8
 try simp only [nY]
 refine s_go s_move ?_
 try simp only [nY]
 refine s_go (s_extract (hv := rfl)) ?_
 try simp only [gY]
 try simp only [nY]
 refine s_go (s_extract (hv := rfl)) ?_
 try simp only [gY]
 try simp only [nY]
 refine s_go s_assign ?_
 try simp only [nY]
 refine s_go s_assign ?_
 try simp only [nY]
 refine x_nil (hK7 _ _ ?_)
 refine x_seq fun K8 hK8 => x_region ?_
 refine s_go (m_fieldAddr U64 (hi := ti25)) ?_
 try simp only [nY, fY, gY]
 refine s_go (m_loada_obj U25 (hi := ti25) (hS := hS) (hfit := by (rw [zi_size (by omega)]; decide))) ?_
 try simp only [nY, gY]
 rw [val_text hvl]
 refine s_go s_move ?_
 try simp only [nY]
 refine s_go s_move ?_
 try simp only [nY]
 refine m_store_obj ti25 (hS := hS) (hc := by (exact splice_whole (by (simp [opv, Value.cells, *]; done)))) (hv := by (simp [opv, Value.cells, *]; done)) (hfit := by (simp only [ic_size, List.length_map, List.size_toArray]; omega)) (h1 := by exact ic_one _ _) (h := fun w9 hS => ?_)
 try simp only [nY, aY] at hS ⊢
 refine s_go s_assign ?_
 try simp only [nY]
 refine s_go s_assign ?_
 try simp only [nY]
 refine x_nil (hK8 _ _ ?_)
 refine x_ret ?_
 refine r_cell_tmp2_agg rfl U25 ti25 (hS := hS) (hR := ?_) (hfit := by (simp only [ic_size, List.length_map, List.size_toArray]; omega))
 exact ⟨rfl, hS.ext_of⟩
theorem c_ref16Get (w0 : World) (A : Option Addr) (c : Nat) (l : List (List Int)) (hr : Rd w0 A 21 l.length (arows l)) (hv : AOks l) (hn : l.length ≤ 1000000000) (ct : Nat) (hct : ct < 65536)  :
    CallR Tryz.prog 23 #[.slice A l.length c, .int .u16 (ct : Int)] w0 fun v w' => v = .tuple #[.agg (ic .u8 (noteT l ct)), .int .u32 ((noteN l ct : Nat) : Int), .int .u8 ((noteR l ct : Nat) : Int)] ∧ Ext w0 w' := by
 have hS := St.rd1 (S := NoB) hr
 have hko := noteK_ok hct
 have hkl := hko.len
 have hno := (norm_sta hv).ok
 have hvo : ValOk (noteV l ct) := fndD_ok hno
 have hvl := hvo.len
 have hvb := hvo.b0
 have htl := vtext_len hvl
 have htl2 : (noteT l ct).length = 8 := htl
 have h9l : v9.length = 9 := rfl
 have hn0l : nm0.length = 8 := rfl
 refine c_enter (l := [.slice A l.length c, .int .u16 (ct : Int), undef, undef, undef, undef, undef, undef, undef, undef, undef, undef, undef, undef, undef, undef, undef, undef, undef, undef, undef, undef, undef, undef, undef, undef]) Tryz.func23 rfl (by simp only [Tryz.ntmps23, List.size_toArray, List.length_cons, List.length_nil, Nat.reduceAdd, Nat.reduceSub, Array.replicate_succ, Array.replicate_zero, List.push_toArray, List.append_toArray, List.nil_append, List.cons_append]) ?_
 refine x_seq fun K1 hK1 => x_region ?_
 refine m_alloc ti25 hS (fun w1 g1 hS => ?_)
 try simp only [nY, aY] at hS ⊢
 replace hS : St _ _ w1 (.obj g1 (.cells (ic .u8 nm0) 25 (0, 0)) :: _) := hS
 obtain ⟨gt, hgt⟩ : ∃ z, z = g1 := ⟨_, rfl⟩
 rw [← hgt] at hS ⊢
 refine s_go s_assign ?_
 try simp only [nY]
 refine s_go s_assign ?_
 try simp only [nY]
 refine x_nil (hK1 _ _ ?_)
 refine x_seq fun K2 hK2 => x_region ?_
 refine s_go s_move ?_
 try simp only [nY]
 refine s_go s_move ?_
 try simp only [nY]
 refine s_go (s_build_struct (cells := #[_, _, .int .u8 0, .int .u8 0, .int .u8 0, .int .u8 0, .int .u8 0, .int .u8 0, .int .u8 0, .int .u8 0, .int .u8 0, .int .u32 0]) U61 ti61 bp61 (hc := by simp only [List.map_toArray, List.map_cons, List.map_nil, nY, List.toList_toArray]; (repeat (refine fill_cons rfl rfl (Nat.le_of_ble_eq_true rfl) ?_)); rfl)) ?_
 try simp only [nY]
 rw [show (#[.int .u8 4, .int .u16 (ct : Int), .int .u8 0, .int .u8 0, .int .u8 0, .int .u8 0, .int .u8 0, .int .u8 0, .int .u8 0, .int .u8 0, .int .u8 0, .int .u32 0] : Array Value) = KA (noteK ct) from rfl]
 refine s_call en47 ?_
 try simp only [nY, mY]
 refine CallR.mono (c_ref10Find _ A c l (hS.hasA) hv hn (noteK ct) hko) ?_
 rintro _ w2 ⟨rfl, hE2⟩
 replace hS := hS.ext hE2
 try simp only [nY]
 rw [show (fnd (noteK ct) (normP l)).getD v9 = noteV l ct from rfl]
 refine s_go s_move ?_
 try simp only [nY]
 refine s_go (s_extract (hv := rfl)) ?_
 try simp only [gY]
 try simp only [nY]
 refine s_go (s_extract (hv := rfl)) ?_
 try simp only [gY]
 try simp only [nY]
 refine m_alloc ti64 hS (fun w3 g3 hS => ?_)
 try simp only [nY, aY] at hS ⊢
 replace hS : St _ _ w3 (.obj g3 (.cells (VA v9) 64 (0, 0)) :: _) := hS
 obtain ⟨gv, hgv⟩ : ∃ z, z = g3 := ⟨_, rfl⟩
 rw [← hgv] at hS ⊢
 refine m_store_obj ti64 (hS := hS) (hc := by exact zi_whole (by omega) (by omega)) (hv := by (show (zi _ _).toArray.size = _; rw [zi_size (by omega)]; rfl)) (hfit := by (rw [zi_size (by omega)]; decide)) (h1 := by exact zi_one _ _) (h := fun w4 hS => ?_)
 try simp only [nY, aY] at hS ⊢
 refine s_go s_assign ?_
 try simp only [nY]
 refine x_nil (hK2 _ _ ?_)
 refine x_seq fun K3 hK3 => ?_
 refine x_mixed_c (Lc := [.obj gv (.cells (VA (noteV l ct)) 64 (0, 0))]) [] 0 [5, 6, 16, 17, 18, 19, 20, 21, 22, 23, 24, 25] (fun f w => f 5 = .int .u32 ((noteN l ct : Nat) : Int) ∧ f 6 = .int .u8 ((noteR l ct : Nat) : Int) ∧ St NoB w0 w [.obj gt (.cells (ic .u8 (noteT l ct)) 25 (0, 0))]) (by kernel_rfl) (by kernel_rfl) (by kernel_rfl) (by decide) hS (fun w5 hS => ?mixpre201) ?mixrest201
 case mixpre201 =>
  refine p_nil ?_
  simp only [List.length_cons, List.length_nil, Nat.reduceAdd, Nat.reduceSub]
  refine any_gn 0 rfl (go_yields w_none (fun w hS => m_fieldAddr U64 (hi := ti25))) ?_
  try simp only [nY, fY, gY]
  refine any_gn 1 rfl (go_yields w_none (fun w hS => m_loada_obj U25 (hi := ti25) (hS := hS) (hfit := by (rw [zi_size (by omega)]; decide)))) ?_
  try simp only [nY, gY]
  rw [val_text hvl]
  refine any_gn 2 rfl (go_yields w_none (fun w hS => m_fieldAddr U64 (hi := ti62))) ?_
  try simp only [nY, fY, gY]
  refine any_gn 3 rfl (go_yields w_none (fun w hS => m_load_obj U62 (hS := hS) (hv := by exact zi_get rfl (by omega)))) ?_
  try simp only [nY, gY]
  rw [hvo.e0]
  refine any_gn 4 rfl (go_yields w_none (fun w hS => s_quo (hc := quo_u64 (p := 256) hvb))) ?_
  try simp only [nY]
  refine any_gn 5 rfl (go_yields w_none (fun w hS => s_conv U62 U51 (hc := cv_u32 rfl))) ?_
  try simp only [nY]
  refine any_gn 6 rfl (go_yields w_none (fun w hS => m_fieldAddr U64 (hi := ti62))) ?_
  try simp only [nY, fY, gY]
  refine any_gn 7 rfl (go_yields w_none (fun w hS => m_load_obj U62 (hS := hS) (hv := by exact zi_get rfl (by omega)))) ?_
  try simp only [nY, gY]
  rw [hvo.e0]
  refine any_gn 8 rfl (go_yields w_none (fun w hS => s_rem (hc := rem_nat (p := 256)))) ?_
  try simp only [nY]
  refine any_gn 9 rfl (go_yields w_none (fun w hS => s_conv U62 U5 (hc := (cv_u8 rfl).trans (congrArg _ (Nat.mod_mod _ _))))) ?_
  try simp only [nY]
  refine any_step [10] (by kernel_rfl) (by decide) (fun w6 hE => ⟨fun _ => (hS.ext hE).sel (by repeat (first | exact Sel.nil | (refine Sel.cons (by repeat (exact Del.head)) ?_))), ?_⟩)
  replace hS := hS.ext hE
  intro i hi
  simp only [List.mem_cons, List.not_mem_nil, or_false] at hi
  subst hi
  refine any_op (by rfl) ?_
  refine m_store_obj ti25 (hS := hS) (hc := by (exact splice_whole (by (simp [opv, Value.cells, *]; done)))) (hv := by (simp [opv, Value.cells, *]; done)) (hfit := by (simp only [ic_size, List.length_map, List.size_toArray]; omega)) (h1 := by exact ic_one _ _) (h := fun w7 hS => ?_)
  try simp only [nY, aY] at hS ⊢
  refine x_nil ?_
  refine any_gn 11 rfl (go_yields w_none (fun w hS => s_assign)) ?_
  try simp only [nY]
  refine any_gn 12 rfl (go_yields w_none (fun w hS => s_assign)) ?_
  try simp only [nY]
  refine any_nil (by kernel_rfl) (fun w8 hE => ?_)
  replace hS := hS.ext hE
  refine ⟨fun _ => hS.sel (by repeat (first | exact Sel.nil | (refine Sel.cons (by repeat (exact Del.head)) ?_))), ?_⟩
  refine mix_leaf (by simp only [clob, List.foldl, nZ]) ?_
  try simp only [n1, n2]
  exact ⟨by trivial, by trivial, hS.selA⟩
 intro fm1 w9 hM
 obtain ⟨h5, h6, hS⟩ := hM
 simp only [clob, List.foldl, n3, n4, h5, h6]
 refine hK3 _ _ ?_
 refine x_ret ?_
 refine r_cell_tmp2_agg rfl U25 ti25 (hS := hS) (hR := ?_) (hfit := by (simp only [ic_size, List.length_map, List.size_toArray]; omega))
 exact ⟨rfl, hS.ext_of⟩
end Go.Proofs.YtpekghaodmeemaaGreat
set_option linter.unusedSimpArgs false
set_option linter.unusedVariables false
set_option maxHeartbeats 1000000
set_option maxRecDepth 100000
namespace Go.Proofs.YtpekghaodmeemaaGreat
open Go.RowKit

theorem akey_k {a : List Int} (h : a.length = 21) : kn (akey a) 0 = kn a 0 ∧ kn (akey a) 1 = kn a 1 := by
  match a, h with
  | _ :: _ :: _, _ => exact ⟨rfl, rfl⟩

theorem c_notePut (w0 : World) (A : Option Addr) (c : Nat) (l : List (List Int)) (hr : Rd w0 A 21 l.length (arows l)) (hv : AOks l) (hn : l.length ≤ 1000000000) (r : Nat) (hr8 : r < 256) (ct : Nat) (hct : ct < 65536) (tx : List Int) (h8 : tx.length = 8) (hbt : Byt tx)  :
    CallR Tryz.prog 63 #[.slice A l.length c, .int .u8 (r : Int), .int .u16 (ct : Int), .agg (ic .u8 tx)] w0 fun v w' => ∃ A c, v = .tuple #[.slice A (noteP l r tx ct).length c, .int .i64 (noteE l r tx ct)] ∧ St NoB w0 w' [.vec A c 66 21 (noteP l r tx ct).length (arows (noteP l r tx ct))] := by
 have hS := St.rd1 (S := NoB) hr
 have hko := noteK_ok hct
 have hkl := hko.len
 have hXo : ValOk (noteX l r tx ct) := noteX_ok hr8 h8 hbt
 have hXl := hXo.len
 have hAl : (noteA l r tx ct).length = 21 := (noteA_ok hr8 hct h8 hbt).len
 have hNl := noteN_lt l ct
 have hn0l : nm0.length = 8 := rfl
 refine c_enter (l := [.slice A l.length c, .int .u8 (r : Int), .int .u16 (ct : Int), .agg (ic .u8 tx), undef, undef, undef, undef, undef, undef, undef, undef, undef, undef, undef, undef, undef, undef, undef, undef, undef, undef, undef, undef, undef, undef, undef, undef, undef, undef, undef, undef, undef, undef, undef, undef, undef, undef, undef, undef, undef, undef, undef, undef, undef]) Tryz.func63 rfl (by simp only [Tryz.ntmps63, List.size_toArray, List.length_cons, List.length_nil, Nat.reduceAdd, Nat.reduceSub, Array.replicate_succ, Array.replicate_zero, List.push_toArray, List.append_toArray, List.nil_append, List.cons_append]) ?_
 refine x_seq fun K1 hK1 => x_region ?_
 refine m_box hS (fun w1 g1 hS => ?_)
 try simp only [nY, aY] at hS ⊢
 obtain ⟨gbx, hgbx⟩ : ∃ z, z = g1 := ⟨_, rfl⟩
 rw [← hgbx] at hS ⊢
 refine s_go s_assign ?_
 try simp only [nY]
 refine s_go s_assign ?_
 try simp only [nY]
 refine x_nil (hK1 _ _ ?_)
 refine x_seq fun K2 hK2 => ?_
 refine x_seq fun K3 hK3 => x_region ?_
 refine s_go s_move ?_
 try simp only [nY]
 refine s_go s_geq ?_
 try simp only [nY]
 refine s_go s_move ?_
 try simp only [nY]
 refine s_part 16 rfl (fun hp1 => ?_) (fun hp1 => ?_)
 ·
  try simp only [n3, n4]
  try simp only [dZ, ne_eq] at hp1
  have hE : noteE l r tx ct = 1 := noteE_1 (.inl (by omega))
  refine g_off (yi (t := 16) rfl rfl) ?_
  try simp only [nY]
  refine g_off (yi (t := 16) rfl rfl) ?_
  try simp only [nY]
  refine g_off (yi (t := 16) rfl rfl) ?_
  try simp only [nY]
  refine g_un (yn (t := 19) rfl rfl) ?_
  try simp only [nY]
  refine g_un (yn (t := 19) rfl rfl) ?_
  try simp only [nY]
  refine g_un (yn (t := 19) rfl rfl) ?_
  try simp only [nY]
  refine g_off (yi (t := 16) rfl rfl) ?_
  try simp only [nY]
  refine s_go s_pick_t ?_
  try simp only [nY]
  refine x_nil (hK3 _ _ ?_)
  refine x_cond_t (h := ?_)
  try have hE : noteE l r tx ct = 1 := noteE_1 (.inr ⟨htn, by simpa using @c⟩)
  refine x_seq fun K4 hK4 => x_region ?_
  refine s_go s_assign ?_
  try simp only [nY]
  refine s_go s_assign ?_
  try simp only [nY]
  refine x_nil (hK4 _ _ ?_)
  refine x_ret (r_tmp2 rfl ?_)
  (rw [noteP_no (by rw [hE]; decide), hE]; replace hS := hS.nil_vec 66 21; exact ⟨none, 0, rfl, hS.sel (by repeat (first | exact Sel.nil | (refine Sel.cons (by repeat (exact Del.head)) ?_)))⟩)
 try simp only [n3, n4]
 try simp only [dZ, ne_eq] at hp1
 refine g_on (yi (t := 16) rfl rfl) ?_
 refine s_go (m_load_row U25 (hi := ti25) (hS := hS) (hfit := by (simp only [ic_size, List.length_map, List.size_toArray]; omega))) ?_
 try simp only [nY, gY]
 refine g_on (yi (t := 16) rfl rfl) ?_
 refine s_call en40 ?_
 try simp only [nY, mY]
 refine CallR.mono (c_nameSome tx h8 hbt _) ?_
 rintro _ w2 ⟨rfl, hE2⟩
 replace hS := hS.ext hE2
 try simp only [nY]
 refine g_on (yi (t := 16) rfl rfl) ?_
 refine s_go s_move ?_
 try simp only [nY]
 refine s_part 19 rfl (fun hp2 => ?_) (fun hp2 => ?_)
 ·
  try simp only [n3, n4]
  try simp only [dZ, ne_eq] at hp2
  have htn : ¬ tx = nm0 := by simpa using hp2
  refine g_on (yi (t := 19) rfl rfl) ?_
  refine s_go (m_load_row U25 (hi := ti25) (hS := hS) (hfit := by (simp only [ic_size, List.length_map, List.size_toArray]; omega))) ?_
  try simp only [nY, gY]
  refine g_on (yi (t := 19) rfl rfl) ?_
  refine s_call en39 ?_
  try simp only [nY, mY]
  refine CallR.mono (c_nameRight tx h8 hbt _) ?_
  rintro _ w3 ⟨rfl, hE3⟩
  replace hS := hS.ext hE3
  try simp only [nY]
  refine g_on (yi (t := 19) rfl rfl) ?_
  refine s_go s_not ?_
  try simp only [nY]
  refine g_on (yi (t := 16) rfl rfl) ?_
  refine s_go s_pick_t ?_
  try simp only [nY]
  refine s_go s_pick_f ?_
  try simp only [nY]
  refine x_nil (hK3 _ _ ?_)
  refine x_cond (ht := fun hc2 => ?_) (hf := fun hc2 => ?_)
  ·
   try simp only [dY] at hc2
   try have hE : noteE l r tx ct = 1 := noteE_1 (.inr ⟨htn, by simpa using hc2⟩)
   refine x_seq fun K5 hK5 => x_region ?_
   refine s_go s_assign ?_
   try simp only [nY]
   refine s_go s_assign ?_
   try simp only [nY]
   refine x_nil (hK5 _ _ ?_)
   refine x_ret (r_tmp2 rfl ?_)
   (rw [noteP_no (by rw [hE]; decide), hE]; replace hS := hS.nil_vec 66 21; exact ⟨none, 0, rfl, hS.sel (by repeat (first | exact Sel.nil | (refine Sel.cons (by repeat (exact Del.head)) ?_)))⟩)
  try simp only [dY] at hc2
  try have hok : ¬ (16 ≤ r ∨ (¬ tx = nm0 ∧ nright tx = false)) := fun h => h.elim (fun h => by omega) (fun h => by have h2 := h.2; simp [h2] at hc2)
  refine x_skip ?_
  refine hK2 _ _ ?_
  refine x_seq fun K6 hK6 => x_region ?_
  refine s_go s_move ?_
  try simp only [nY]
  refine s_go s_move ?_
  try simp only [nY]
  refine s_call en94 ?_
  try simp only [nY, mY]
  refine CallR.mono (c_noteGet _ A c l (hS.hasA) hv hn ct hct) ?_
  rintro _ w4 ⟨rfl, hE4⟩
  replace hS := hS.ext hE4
  try simp only [nY]
  refine s_go s_move ?_
  try simp only [nY]
  refine s_go (s_extract (hv := rfl)) ?_
  try simp only [gY]
  try simp only [nY]
  refine s_go (s_extract (hv := rfl)) ?_
  try simp only [gY]
  try simp only [nY]
  refine s_go (s_extract (hv := rfl)) ?_
  try simp only [gY]
  try simp only [nY]
  have htl : (noteT l ct).length = 8 := vtext_len ((fndD_ok (k := noteK ct) (norm_sta hv).ok).len)
  refine m_alloc ti25 hS (fun w5 g5 hS => ?_)
  try simp only [nY, aY] at hS ⊢
  replace hS : St _ _ w5 (.obj g5 (.cells (ic .u8 nm0) 25 (0, 0)) :: _) := hS
  refine m_store_obj ti25 (hS := hS) (hc := by (exact splice_whole (by (simp [opv, Value.cells, *]; done)))) (hv := by (simp [opv, Value.cells, *]; done)) (hfit := by (simp only [ic_size, List.length_map, List.size_toArray]; omega)) (h1 := by exact ic_one _ _) (h := fun w6 hS => ?_)
  try simp only [nY, aY] at hS ⊢
  refine s_go s_assign ?_
  try simp only [nY]
  refine s_go s_assign ?_
  try simp only [nY]
  refine x_nil (hK6 _ _ ?_)
  refine x_seq fun K7 hK7 => ?_
  refine x_seq fun K8 hK8 => x_region ?_
  refine s_go s_move ?_
  try simp only [nY]
  refine s_go s_eql ?_
  try simp only [nY]
  refine x_nil (hK8 _ _ ?_)
  refine x_cond (ht := fun hc3 => ?_) (hf := fun hc3 => ?_)
  ·
   try simp only [dY] at hc3
   have hE : noteE l r tx ct = 8 := noteE_8 hok (by omega)
   refine x_seq fun K9 hK9 => x_region ?_
   refine s_go s_assign ?_
   try simp only [nY]
   refine s_go s_assign ?_
   try simp only [nY]
   refine x_nil (hK9 _ _ ?_)
   refine x_ret (r_tmp2 rfl ?_)
   (rw [noteP_no (by rw [hE]; decide), hE]; replace hS := hS.nil_vec 66 21; exact ⟨none, 0, rfl, hS.sel (by repeat (first | exact Sel.nil | (refine Sel.cons (by repeat (exact Del.head)) ?_)))⟩)
  try simp only [dY] at hc3
  have hE : noteE l r tx ct = 0 := noteE_0 hok (by omega)
  refine x_skip ?_
  refine hK7 _ _ ?_
  refine x_seq fun K10 hK10 => x_region ?_
  refine s_go s_move ?_
  try simp only [nY]
  refine s_go (s_build_struct (cells := #[_, _, .int .u8 0, .int .u8 0, .int .u8 0, .int .u8 0, .int .u8 0, .int .u8 0, .int .u8 0, .int .u8 0, .int .u8 0, .int .u32 0]) U61 ti61 bp61 (hc := by simp only [List.map_toArray, List.map_cons, List.map_nil, nY, List.toList_toArray]; (repeat (refine fill_cons rfl rfl (Nat.le_of_ble_eq_true rfl) ?_)); rfl)) ?_
  try simp only [nY]
  rw [show (#[.int .u8 4, .int .u16 (ct : Int), .int .u8 0, .int .u8 0, .int .u8 0, .int .u8 0, .int .u8 0, .int .u8 0, .int .u8 0, .int .u8 0, .int .u8 0, .int .u32 0] : Array Value) = KA (noteK ct) from rfl]
  refine m_alloc ti61 hS (fun w7 g7 hS => ?_)
  try simp only [nY, aY] at hS ⊢
  have h0l : key0.length = 12 := rfl
  replace hS : St _ _ w7 (.obj g7 (.cells (KA key0) 61 (0, 0)) :: _) := hS
  obtain ⟨gkk, hgkk⟩ : ∃ z, z = g7 := ⟨_, rfl⟩
  rw [← hgkk] at hS ⊢
  refine m_store_obj ti61 (hS := hS) (hc := by exact zi_whole (by omega) (by omega)) (hv := by rfl) (hfit := by (rw [zi_size (by omega)]; decide)) (h1 := by exact zi_one _ _) (h := fun w8 hS => ?_)
  try simp only [nY, aY] at hS ⊢
  refine x_nil (hK10 _ _ ?_)
  refine x_seq fun K11 hK11 => ?_
  refine x_mixed_c (Lc := [.obj gkk (.cells (KA (noteK ct)) 61 (0, 0)), .obj gbx (.cells (ic .u8 tx) 25 (0, 0))]) [] 0 [8, 9, 36, 37, 38, 39, 40, 41, 42, 43, 44] (fun f w => ∃ gz : Nat, f 8 = .slice (some ⟨gz, 0, none⟩) 1 1 ∧ f 9 = .int .i64 0 ∧ St NoB w0 w [.vec (some ⟨gz, 0, none⟩) 1 66 21 1 (arows [(noteA l r tx ct)])]) (by kernel_rfl) (by kernel_rfl) (by kernel_rfl) (by decide) hS (fun w9 hS => ?mixpre701) ?mixrest701
  case mixpre701 =>
   refine p_nil ?_
   simp only [List.length_cons, List.length_nil, Nat.reduceAdd, Nat.reduceSub]
   refine any_gn 0 rfl (go_yields w_none (fun w hS => m_load_row U61 (hi := ti61) (hS := hS) (hfit := by (rw [zi_size (by omega)]; rfl)))) ?_
   try simp only [nY, gY]
   refine any_gn 1 rfl (go_yields w_none (fun w hS => s_move)) ?_
   try simp only [nY]
   refine any_gn 2 rfl (go_yields w_none (fun w hS => s_add (hc := wr_u32 (by omega) (by omega)))) ?_
   try simp only [nY]
   rw [show ((noteN l ct : Nat) : Int) + 1 = ((noteN l ct + 1 : Nat) : Int) by omega]
   refine any_gn 3 rfl (go_yields w_none (fun w hS => s_move)) ?_
   try simp only [nY]
   apply any_gn 4 rfl (call_yields w_none en95 ?H1) ?K1
   case H1 =>
     intro w hS
     try simp only [nY, mY]
     refine CallR.mono (c_atomStamp (noteN l ct + 1) r (by omega) hr8 _) ?_
     rintro _ w1 ⟨rfl, hE⟩; exact ⟨rfl, hE⟩
   try simp only [nY]
   refine any_gn 5 rfl (go_yields w_none (fun w hS => m_load_row U25 (hi := ti25) (hS := hS) (hfit := by (simp only [ic_size, List.length_map, List.size_toArray]; omega)))) ?_
   try simp only [nY, gY]
   refine any_gn 6 rfl (go_yields w_none (fun w hS => s_build_struct (cells := (VA (noteX l r tx ct))) U64 ti64 bp64 (hc := by simp only [List.map_toArray, List.map_cons, List.map_nil, nY, List.toList_toArray]; exact fill_val (by rfl) (by rfl) (by rfl) h8))) ?_
   try simp only [nY]
   refine any_gn 7 rfl (go_yields w_none (fun w hS => s_build_struct (cells := (AA (noteA l r tx ct))) U66 ti66 bp66 (hc := by simp only [List.map_toArray, List.map_cons, List.map_nil, nY, List.toList_toArray]; exact fill_atom (by rfl) (by rfl) (by rfl) hkl hXl))) ?_
   try simp only [nY]
   refine any_step [8] (by kernel_rfl) (by decide) (fun w10 hE => ⟨fun _ => (hS.ext hE).sel (by repeat (first | exact Sel.nil | (refine Sel.cons (by repeat (first | exact Del.head | apply Del.tail)) ?_))), ?_⟩)
   replace hS := hS.ext hE
   intro i hi
   simp only [List.mem_cons, List.not_mem_nil, or_false] at hi
   subst hi
   refine any_op (by rfl) ?_
   refine m_buildRow (cells := (AA (noteA l r tx ct))) U22 ti66 (hc := by simp only [List.map_toArray, List.map_cons, List.map_nil, nY, List.toList_toArray]; exact fill_one (by rfl) (zi_size21 hAl) (by rfl)) (hS := hS) (h := fun w11 g11 hS => ?_)
   try simp only [nY, aY] at hS ⊢
   replace hS := hS.obj_vec (sz := 21) (n := 1) (by exact zi_size21 hAl) (by decide) .head
   rw [arow_one hAl] at hS
   refine x_nil ?_
   refine any_gn 9 rfl (go_yields w_none (fun w hS => s_assign)) ?_
   try simp only [nY]
   refine any_gn 10 rfl (go_yields w_none (fun w hS => s_assign)) ?_
   try simp only [nY]
   refine any_nil (by kernel_rfl) (fun w12 hE => ?_)
   replace hS := hS.ext hE
   refine ⟨fun _ => hS.selA, ?_⟩
   refine mix_leaf (by simp only [clob, List.foldl, nZ]) ?_
   try simp only [n1, n2]
   exact ⟨_, by trivial, by trivial, hS.sel (by repeat (first | exact Sel.nil | (refine Sel.cons (by repeat (exact Del.head)) ?_)))⟩
  intro fm1 w13 hM
  obtain ⟨gz, h8, h9, hS⟩ := hM
  simp only [clob, List.foldl, n3, n4, h8, h9]
  refine hK11 _ _ ?_
  refine x_ret (r_tmp2 rfl ?_)
  (rw [noteP_yes hE, hE]; exact ⟨_, _, rfl, hS.sel (by repeat (first | exact Sel.nil | (refine Sel.cons (by repeat (exact Del.head)) ?_)))⟩)
 try simp only [n3, n4]
 try simp only [dZ, ne_eq] at hp2
 have htn : tx = nm0 := by simpa using hp2
 have hok : ¬ (16 ≤ r ∨ (¬ tx = nm0 ∧ nright tx = false)) := fun h => h.elim (fun h => by omega) (fun h => h.1 htn)
 refine g_off (yi (t := 19) rfl rfl) ?_
 try simp only [nY]
 refine g_off (yi (t := 19) rfl rfl) ?_
 try simp only [nY]
 refine g_off (yi (t := 19) rfl rfl) ?_
 try simp only [nY]
 refine g_on (yi (t := 16) rfl rfl) ?_
 refine s_go s_pick_f ?_
 try simp only [nY]
 refine s_go s_pick_f ?_
 try simp only [nY]
 refine x_nil (hK3 _ _ ?_)
 refine x_cond_f (h := ?_)
 try have hok : ¬ (16 ≤ r ∨ (¬ tx = nm0 ∧ nright tx = false)) := fun h => h.elim (fun h => by omega) (fun h => by have h2 := h.2; simp [h2] at @c)
 refine x_skip ?_
 refine hK2 _ _ ?_
 refine x_seq fun K12 hK12 => x_region ?_
 refine s_go s_move ?_
 try simp only [nY]
 refine s_go s_move ?_
 try simp only [nY]
 refine s_call en94 ?_
 try simp only [nY, mY]
 refine CallR.mono (c_noteGet _ A c l (hS.hasA) hv hn ct hct) ?_
 rintro _ w14 ⟨rfl, hE14⟩
 replace hS := hS.ext hE14
 try simp only [nY]
 refine s_go s_move ?_
 try simp only [nY]
 refine s_go (s_extract (hv := rfl)) ?_
 try simp only [gY]
 try simp only [nY]
 refine s_go (s_extract (hv := rfl)) ?_
 try simp only [gY]
 try simp only [nY]
 refine s_go (s_extract (hv := rfl)) ?_
 try simp only [gY]
 try simp only [nY]
 have htl : (noteT l ct).length = 8 := vtext_len ((fndD_ok (k := noteK ct) (norm_sta hv).ok).len)
 refine m_alloc ti25 hS (fun w15 g15 hS => ?_)
 try simp only [nY, aY] at hS ⊢
 replace hS : St _ _ w15 (.obj g15 (.cells (ic .u8 nm0) 25 (0, 0)) :: _) := hS
 refine m_store_obj ti25 (hS := hS) (hc := by (exact splice_whole (by (simp [opv, Value.cells, *]; done)))) (hv := by (simp [opv, Value.cells, *]; done)) (hfit := by (simp only [ic_size, List.length_map, List.size_toArray]; omega)) (h1 := by exact ic_one _ _) (h := fun w16 hS => ?_)
 try simp only [nY, aY] at hS ⊢
 refine s_go s_assign ?_
 try simp only [nY]
 refine s_go s_assign ?_
 try simp only [nY]
 refine x_nil (hK12 _ _ ?_)
 refine x_seq fun K13 hK13 => ?_
 refine x_seq fun K14 hK14 => x_region ?_
 refine s_go s_move ?_
 try simp only [nY]
 refine s_go s_eql ?_
 try simp only [nY]
 refine x_nil (hK14 _ _ ?_)
 refine x_cond (ht := fun hc5 => ?_) (hf := fun hc5 => ?_)
 ·
  try simp only [dY] at hc5
  have hE : noteE l r tx ct = 8 := noteE_8 hok (by omega)
  refine x_seq fun K15 hK15 => x_region ?_
  refine s_go s_assign ?_
  try simp only [nY]
  refine s_go s_assign ?_
  try simp only [nY]
  refine x_nil (hK15 _ _ ?_)
  refine x_ret (r_tmp2 rfl ?_)
  (rw [noteP_no (by rw [hE]; decide), hE]; replace hS := hS.nil_vec 66 21; exact ⟨none, 0, rfl, hS.sel (by repeat (first | exact Sel.nil | (refine Sel.cons (by repeat (exact Del.head)) ?_)))⟩)
 try simp only [dY] at hc5
 have hE : noteE l r tx ct = 0 := noteE_0 hok (by omega)
 refine x_skip ?_
 refine hK13 _ _ ?_
 refine x_seq fun K16 hK16 => x_region ?_
 refine s_go s_move ?_
 try simp only [nY]
 refine s_go (s_build_struct (cells := #[_, _, .int .u8 0, .int .u8 0, .int .u8 0, .int .u8 0, .int .u8 0, .int .u8 0, .int .u8 0, .int .u8 0, .int .u8 0, .int .u32 0]) U61 ti61 bp61 (hc := by simp only [List.map_toArray, List.map_cons, List.map_nil, nY, List.toList_toArray]; (repeat (refine fill_cons rfl rfl (Nat.le_of_ble_eq_true rfl) ?_)); rfl)) ?_
 try simp only [nY]
 rw [show (#[.int .u8 4, .int .u16 (ct : Int), .int .u8 0, .int .u8 0, .int .u8 0, .int .u8 0, .int .u8 0, .int .u8 0, .int .u8 0, .int .u8 0, .int .u8 0, .int .u32 0] : Array Value) = KA (noteK ct) from rfl]
 refine m_alloc ti61 hS (fun w17 g17 hS => ?_)
 try simp only [nY, aY] at hS ⊢
 have h0l : key0.length = 12 := rfl
 replace hS : St _ _ w17 (.obj g17 (.cells (KA key0) 61 (0, 0)) :: _) := hS
 obtain ⟨gkk, hgkk⟩ : ∃ z, z = g17 := ⟨_, rfl⟩
 rw [← hgkk] at hS ⊢
 refine m_store_obj ti61 (hS := hS) (hc := by exact zi_whole (by omega) (by omega)) (hv := by rfl) (hfit := by (rw [zi_size (by omega)]; decide)) (h1 := by exact zi_one _ _) (h := fun w18 hS => ?_)
 try simp only [nY, aY] at hS ⊢
 refine x_nil (hK16 _ _ ?_)
 refine x_seq fun K17 hK17 => ?_
 refine x_mixed_c (Lc := [.obj gkk (.cells (KA (noteK ct)) 61 (0, 0)), .obj gbx (.cells (ic .u8 tx) 25 (0, 0))]) [] 0 [8, 9, 36, 37, 38, 39, 40, 41, 42, 43, 44] (fun f w => ∃ gz : Nat, f 8 = .slice (some ⟨gz, 0, none⟩) 1 1 ∧ f 9 = .int .i64 0 ∧ St NoB w0 w [.vec (some ⟨gz, 0, none⟩) 1 66 21 1 (arows [(noteA l r tx ct)])]) (by kernel_rfl) (by kernel_rfl) (by kernel_rfl) (by decide) hS (fun w19 hS => ?mixpre702) ?mixrest702
 case mixpre702 =>
  refine p_nil ?_
  simp only [List.length_cons, List.length_nil, Nat.reduceAdd, Nat.reduceSub]
  refine any_gn 0 rfl (go_yields w_none (fun w hS => m_load_row U61 (hi := ti61) (hS := hS) (hfit := by (rw [zi_size (by omega)]; rfl)))) ?_
  try simp only [nY, gY]
  refine any_gn 1 rfl (go_yields w_none (fun w hS => s_move)) ?_
  try simp only [nY]
  refine any_gn 2 rfl (go_yields w_none (fun w hS => s_add (hc := wr_u32 (by omega) (by omega)))) ?_
  try simp only [nY]
  rw [show ((noteN l ct : Nat) : Int) + 1 = ((noteN l ct + 1 : Nat) : Int) by omega]
  refine any_gn 3 rfl (go_yields w_none (fun w hS => s_move)) ?_
  try simp only [nY]
  apply any_gn 4 rfl (call_yields w_none en95 ?H2) ?K2
  case H2 =>
    intro w hS
    try simp only [nY, mY]
    refine CallR.mono (c_atomStamp (noteN l ct + 1) r (by omega) hr8 _) ?_
    rintro _ w1 ⟨rfl, hE⟩; exact ⟨rfl, hE⟩
  try simp only [nY]
  refine any_gn 5 rfl (go_yields w_none (fun w hS => m_load_row U25 (hi := ti25) (hS := hS) (hfit := by (simp only [ic_size, List.length_map, List.size_toArray]; omega)))) ?_
  try simp only [nY, gY]
  refine any_gn 6 rfl (go_yields w_none (fun w hS => s_build_struct (cells := (VA (noteX l r tx ct))) U64 ti64 bp64 (hc := by simp only [List.map_toArray, List.map_cons, List.map_nil, nY, List.toList_toArray]; exact fill_val (by rfl) (by rfl) (by rfl) h8))) ?_
  try simp only [nY]
  refine any_gn 7 rfl (go_yields w_none (fun w hS => s_build_struct (cells := (AA (noteA l r tx ct))) U66 ti66 bp66 (hc := by simp only [List.map_toArray, List.map_cons, List.map_nil, nY, List.toList_toArray]; exact fill_atom (by rfl) (by rfl) (by rfl) hkl hXl))) ?_
  try simp only [nY]
  refine any_step [8] (by kernel_rfl) (by decide) (fun w20 hE => ⟨fun _ => (hS.ext hE).sel (by repeat (first | exact Sel.nil | (refine Sel.cons (by repeat (first | exact Del.head | apply Del.tail)) ?_))), ?_⟩)
  replace hS := hS.ext hE
  intro i hi
  simp only [List.mem_cons, List.not_mem_nil, or_false] at hi
  subst hi
  refine any_op (by rfl) ?_
  refine m_buildRow (cells := (AA (noteA l r tx ct))) U22 ti66 (hc := by simp only [List.map_toArray, List.map_cons, List.map_nil, nY, List.toList_toArray]; exact fill_one (by rfl) (zi_size21 hAl) (by rfl)) (hS := hS) (h := fun w21 g21 hS => ?_)
  try simp only [nY, aY] at hS ⊢
  replace hS := hS.obj_vec (sz := 21) (n := 1) (by exact zi_size21 hAl) (by decide) .head
  rw [arow_one hAl] at hS
  refine x_nil ?_
  refine any_gn 9 rfl (go_yields w_none (fun w hS => s_assign)) ?_
  try simp only [nY]
  refine any_gn 10 rfl (go_yields w_none (fun w hS => s_assign)) ?_
  try simp only [nY]
  refine any_nil (by kernel_rfl) (fun w22 hE => ?_)
  replace hS := hS.ext hE
  refine ⟨fun _ => hS.selA, ?_⟩
  refine mix_leaf (by simp only [clob, List.foldl, nZ]) ?_
  try simp only [n1, n2]
  exact ⟨_, by trivial, by trivial, hS.sel (by repeat (first | exact Sel.nil | (refine Sel.cons (by repeat (exact Del.head)) ?_)))⟩
 intro fm2 w23 hM
 obtain ⟨gz, h8, h9, hS⟩ := hM
 simp only [clob, List.foldl, n3, n4, h8, h9]
 refine hK17 _ _ ?_
 refine x_ret (r_tmp2 rfl ?_)
 (rw [noteP_yes hE, hE]; exact ⟨_, _, rfl, hS.sel (by repeat (first | exact Sel.nil | (refine Sel.cons (by repeat (exact Del.head)) ?_)))⟩)
end Go.Proofs.YtpekghaodmeemaaGreat
set_option linter.unusedSimpArgs false
set_option linter.unusedVariables false
set_option maxHeartbeats 1000000
set_option maxRecDepth 100000
namespace Go.Proofs.YtpekghaodmeemaaGreat
open Go.RowKit
def hi8 : List Int := [104, 105, 0, 0, 0, 0, 0, 0]
end Go.Proofs.YtpekghaodmeemaaGreat
set_option linter.unusedSimpArgs false
set_option linter.unusedVariables false
set_option maxHeartbeats 1000000
set_option maxRecDepth 100000
namespace Go.Proofs.YtpekghaodmeemaaGreat
open Go.RowKit

theorem noteE_iff {l : List (List Int)} {r c : Nat} {tx : List Int} (h : noteE l r tx c = 0) : r < 16 ∧ (tx = nm0 ∨ nright tx = true) ∧ ¬ noteN l c = 4294967295 := by
  unfold noteE at h
  split at h
  · cases h
  · next h1 =>
    split at h
    · cases h
    · next h2 =>
      refine ⟨by omega, ?_, h2⟩
      by_cases e : tx = nm0
      · exact .inl e
      · refine .inr ?_
        cases hn : nright tx
        · exact absurd (.inr ⟨e, hn⟩) h1
        · rfl
theorem noteX_n (l : List (List Int)) (r : Nat) (tx : List Int) (c : Nat) : kn (noteX l r tx c) 0 = 256 * (noteN l c + 1) + r := by show ((256 * (noteN l c + 1) + r : Nat) : Int).toNat = _; omega
theorem noteA_r {l : List (List Int)} {r c : Nat} {tx : List Int} (hc : c < 65536) (h8 : tx.length = 8) (h : noteE l r tx c = 0) : atomR (noteA l r tx c) = true := by
  obtain ⟨h1, h2, h3⟩ := noteE_iff h
  have hlt := noteN_lt l c
  have hk : (noteK c).length = 12 := rfl
  rw [atomR, noteA, akey_kv hk, aval_kv hk, Bool.and_eq_true]
  refine ⟨by rw [keyR, if_pos (show kn (noteK c) 0 = 4 from rfl)]; exact decide_eq_true rfl, ?_⟩
  show valR 4 (noteX l r tx c) = true
  have e1 : kn (noteX l r tx c) 0 = 256 * (noteN l c + 1) + r := by show ((256 * (noteN l c + 1) + r : Nat) : Int).toNat = _; omega
  have e2 : vtext (noteX l r tx c) = tx := rfl
  rw [valR, if_neg (by decide), if_neg (by decide), if_pos rfl, e1, e2, Bool.and_eq_true]
  refine ⟨decide_eq_true (stampE_0.2 (by omega)), ?_⟩
  rcases h2 with h2 | h2
  · rw [bareV, e2, decide_eq_true h2]; rfl
  · rw [h2, Bool.or_true]
theorem one_sta {a : List Int} (h : AtomOk a) (hr : atomR a = true) : StaR [a] := ⟨fun b hb => by rw [List.mem_singleton] at hb; rw [hb]; exact h, fun b hb => by rw [List.mem_singleton] at hb; rw [hb]; exact hr, List.pairwise_singleton _ _⟩
theorem rank_n {v w : List Int} (hv : ValOk v) (h : kn v 0 < kn w 0) : rankV v ≤ rankV w := by
  have h1 := rank_lt hv
  unfold rankV
  omega
theorem max_r {v w : List Int} (h : rankV v ≤ rankV w) : max (rnk (some v)) (rnk (some w)) = rnk (some w) := Nat.max_eq_right (by simp only [rnk]; exact Nat.succ_le_succ h)
theorem fnd_join {a b : List (List Int)} (ha : AOks a) (hb : AOks b) {k X : List Int} (hX : ValOk X) (h : max (rnk (fnd k (normP a))) (rnk (fnd k (normP b))) = rnk (some X)) : fnd k (normP (a ++ b)) = some X :=
  okO_inj (fnd_okO (norm_sta (ha.app hb)).ok k) (someOk hX) (by rw [val_join ha hb, h])
theorem fnd_join_l {a b : List (List Int)} (ha : AOks a) (hb : AOks b) {k : List Int} (h : fnd k (normP b) = none) : fnd k (normP (a ++ b)) = fnd k (normP a) :=
  okO_inj (fnd_okO (norm_sta (ha.app hb)).ok k) (fnd_okO (norm_sta ha).ok k) (by rw [val_join ha hb, h]; simp [rnk])
theorem noteV_n {l : List (List Int)} (hv : AOks l) (c : Nat) {v : List Int} (h : fnd (noteK c) (normP l) = some v) : noteN l c = kn v 0 / 256 ∧ kn v 0 < 256 * (noteN l c + 1) := by
  have e : noteV l c = v := by rw [noteV, h]; rfl
  obtain ⟨a, ha, hk, rfl⟩ := fnd_mem h
  have hr := (norm_sta hv).right a ha
  have hao := (norm_sta hv).ok a ha
  rw [atomR, Bool.and_eq_true] at hr
  have hv2 := hr.2
  have e4 : kn a 0 = 4 := by rw [← (akey_k hao.len).1, hk]; rfl
  unfold valR at hv2
  rw [if_neg (by omega), if_neg (by omega), if_pos e4, Bool.and_eq_true] at hv2
  have hs := stampE_0.1 (of_decide_eq_true hv2.1)
  rw [noteN, e]
  omega
section
variable {l : List (List Int)} {r c : Nat} {tx : List Int} (hv : AOks l) (hr8 : r < 256) (hc : c < 65536) (h8 : tx.length = 8) (hb : Byt tx) (h : noteE l r tx c = 0)
include hv hr8 hc h8 hb h
theorem nl_fnd : fnd (noteK c) (normP (l ++ [noteA l r tx c])) = some (noteX l r tx c) := by
  have hA := noteA_ok (l := l) hr8 hc h8 hb
  have hX := noteX_ok (l := l) (c := c) hr8 h8 hb
  have hk : (noteK c).length = 12 := rfl
  have hs := one_sta hA (noteA_r hc h8 h)
  refine fnd_join hv hs.ok hX ?_
  have e1 : fnd (noteK c) (normP [noteA l r tx c]) = some (noteX l r tx c) := by rw [norm_id hs, fnd, noteA, akey_kv hk, if_pos rfl, aval_kv hk]
  rw [e1]
  cases hf : fnd (noteK c) (normP l) with
  | none => simp [rnk]
  | some v =>
    obtain ⟨_, h2⟩ := noteV_n hv c hf
    have hvo := fnd_ok (norm_sta hv).ok hf
    exact max_r (rank_n hvo (by rw [noteX_n]; omega))
theorem nl_st : StaR (normP (l ++ [noteA l r tx c])) := norm_sta (hv.app (one_sta (noteA_ok hr8 hc h8 hb) (noteA_r hc h8 h)).ok)
theorem nl_v : noteV (normP (l ++ [noteA l r tx c])) c = noteX l r tx c := by
  rw [noteV, norm_id (nl_st hv hr8 hc h8 hb h), nl_fnd hv hr8 hc h8 hb h]; rfl
theorem nl_t : noteT (normP (l ++ [noteA l r tx c])) c = tx := by rw [noteT, nl_v hv hr8 hc h8 hb h]; rfl
theorem nl_r : noteR (normP (l ++ [noteA l r tx c])) c = r := by
  have e2 : kn (noteX l r tx c) 0 = 256 * (noteN l c + 1) + r := by show ((256 * (noteN l c + 1) + r : Nat) : Int).toNat = _; omega
  rw [noteR, nl_v hv hr8 hc h8 hb h, e2]; omega
end
end Go.Proofs.YtpekghaodmeemaaGreat
set_option linter.unusedSimpArgs false
set_option linter.unusedVariables false
set_option maxHeartbeats 1000000
set_option maxRecDepth 100000
namespace Go.Proofs.YtpekghaodmeemaaGreat
open Go.RowKit

theorem akey_kk {a : List Int} (h : a.length = 21) : kn (akey a) 10 = kn a 10 ∧ kn (akey a) 11 = kn a 11 := by
  match a, h with
  | [_, _, _, _, _, _, _, _, _, _, _, _, _, _, _, _, _, _, _, _, _], _ => exact ⟨rfl, rfl⟩
/-- a state's vector -/
def ofStep (v a : List Int) : List Int := if kn a 0 = 1 then v.set (kn a 10) (max (v.getD (kn a 10) 0) (kn a 11 : Int)) else v
def ofV (s : List (List Int)) : List Int := s.foldl ofStep (List.replicate 16 0)
structure VOk (v : List Int) : Prop where
  len : v.length = 16
  nat : ∀ i, 0 ≤ v.getD i 0 ∧ v.getD i 0 ≤ 4294967295
theorem VOk.zero : VOk (List.replicate 16 0) := ⟨rfl, fun i => by
  rw [List.getD_eq_getElem?_getD, List.getElem?_replicate]
  split <;> simp⟩
theorem VOk.set {v : List Int} (h : VOk v) {r : Nat} {n : Int} (h0 : 0 ≤ n) (h1 : n ≤ 4294967295) : VOk (v.set r n) := ⟨by rw [List.length_set]; exact h.len, fun i => by
  by_cases e : r = i
  · subst e
    by_cases hr : r < v.length
    · rw [List.getD_eq_getElem?_getD, List.getElem?_set_self hr]; exact ⟨h0, h1⟩
    · rw [List.set_eq_of_length_le (by omega)]; exact h.nat r
  · rw [List.getD_eq_getElem?_getD, List.getElem?_set_ne e, ← List.getD_eq_getElem?_getD]; exact h.nat i⟩
theorem VOk.step {v a : List Int} (h : VOk v) (ha : AtomOk a) : VOk (ofStep v a) := by
  unfold ofStep
  split
  · have h1 := h.nat (kn a 10)
    have h2 := ha.key.b11
    rw [(akey_kk ha.len).2] at h2
    exact h.set (by omega) (by omega)
  · exact h
theorem ofV_ok : ∀ {s : List (List Int)} {v : List Int}, AOks s → VOk v → VOk (s.foldl ofStep v)
  | [], _, _, h => h
  | a :: s, v, hs, h => ofV_ok (s := s) (v := ofStep v a) (fun b hb => hs b (by simp [hb])) (h.step (hs a (by simp)))
theorem ofV_take {s : List (List Int)} {k : Nat} {x : List Int} (hk : k < s.length) (hx : s.getD k [] = x) : ofV (s.take (k + 1)) = ofStep (ofV (s.take k)) x := by
  rw [take_snoc hk, hx, ofV, List.foldl_append]; rfl
theorem right_rep {x : List Int} (h : atomR x = true) (ha : AtomOk x) (h1 : kn x 0 = 1) : kn x 10 < 16 := by
  rw [atomR, Bool.and_eq_true] at h
  have hk := h.1
  have e := (akey_k ha.len).1
  have e2 := (akey_kk ha.len).1
  rw [keyR, if_neg (by omega), if_pos (by omega), Bool.and_eq_true, decide_eq_true_eq, e2] at hk
  exact hk.2
theorem ofS_no {v x : List Int} (h : ¬ kn x 0 = 1) : ofStep v x = v := if_neg h
def bumpE (v : List Int) (r : Nat) : Int := if 16 ≤ r then 1 else if v.getD r 0 = 4294967295 then 8 else 0
def bumpV (v : List Int) (r : Nat) : List Int := if bumpE v r = 0 then v.set r (v.getD r 0 + 1) else List.replicate 16 0
end Go.Proofs.YtpekghaodmeemaaGreat
set_option linter.unusedSimpArgs false
set_option linter.unusedVariables false
set_option maxHeartbeats 2000000
set_option maxRecDepth 100000
namespace Go.Proofs.YtpekghaodmeemaaGreat
open Go.RowKit
theorem c_vecBump (x : List Int) (hv : VOk x) (r : Nat) (h8 : r < 256)  (w0 : World) :
    CallR Tryz.prog 110 #[.agg (ic .u32 x), .int .u8 (r : Int)] w0 fun v w' => v = .tuple #[.agg (ic .u32 (bumpV x r)), .int .i64 (bumpE x r)] ∧ Ext w0 w' := by
 have hS : St NoB w0 w0 [] := St.start w0
 refine c_enter (l := [.agg (ic .u32 x), .int .u8 (r : Int), undef, undef, undef, undef, undef, undef, undef, undef, undef, undef, undef, undef, undef, undef, undef, undef, undef, undef, undef, undef, undef]) Tryz.func110 rfl (by simp only [Tryz.ntmps110, List.size_toArray, List.length_cons, List.length_nil, Nat.reduceAdd, Nat.reduceSub, Array.replicate_succ, Array.replicate_zero, List.push_toArray, List.append_toArray, List.nil_append, List.cons_append]) ?_
 refine x_seq fun K1 hK1 => x_region ?_
 have hxl := hv.len
 have hxr := hv.nat r
 refine m_box hS (fun w1 g1 hS => ?_)
 try simp only [nY, aY] at hS ⊢
 refine m_alloc ti134 hS (fun w2 g2 hS => ?_)
 try simp only [nY, aY] at hS ⊢
 replace hS : St NoB w0 w2 (.obj g2 (.cells (ic .u32 (List.replicate 16 0)) 134 (0, 0)) :: _) := hS
 obtain ⟨gr, hgr⟩ : ∃ z, z = g2 := ⟨_, rfl⟩
 rw [← hgr] at hS ⊢
 refine s_go s_assign ?_
 try simp only [nY]
 refine x_nil (hK1 _ _ ?_)
 refine x_seq fun K2 hK2 => ?_
 refine x_block ?_
 refine x_seq fun K3 hK3 => x_region ?_
 refine s_go s_move ?_
 try simp only [nY]
 refine s_go (s_conv U5 U3 (hc := cv_i64 (by omega))) ?_
 try simp only [nY]
 refine s_go s_geq ?_
 try simp only [nY]
 refine s_go s_assign ?_
 try simp only [nY]
 refine x_nil (hK3 _ _ ?_)
 refine x_cond (ht := fun hc1 => ?_) (hf := fun hc1 => ?_)
 ·
  try simp only [dY] at hc1
  have hE : bumpE x r = 1 := if_pos (by omega)
  refine x_seq fun K4 hK4 => x_region ?_
  refine s_go (s_build_arr (cells := #[.int .u32 0, .int .u32 0, .int .u32 0, .int .u32 0, .int .u32 0, .int .u32 0, .int .u32 0, .int .u32 0, .int .u32 0, .int .u32 0, .int .u32 0, .int .u32 0, .int .u32 0, .int .u32 0, .int .u32 0, .int .u32 0]) U134 ti134 ti51 (hc := by simp only [List.map_toArray, List.map_cons, List.map_nil, nY, List.toList_toArray]; (repeat (refine fill_cons rfl rfl (Nat.le_of_ble_eq_true rfl) ?_)); rfl)) ?_
  try simp only [nY]
  refine m_store_obj ti134 (hS := hS) (hc := by (exact splice_whole (by (simp [opv, Value.cells, *]; done)))) (hv := by rfl) (hfit := by (simp only [ic_size, List.length_map, List.size_toArray]; decide)) (h1 := by simp [opv, Value.cells, Value.oneCell']) (h := fun w3 hS => ?_)
  try simp only [nY, aY] at hS ⊢
  refine s_go s_assign ?_
  try simp only [nY]
  refine x_nil (hK4 _ _ ?_)
  refine x_ret ?_
  refine r_cell_tmp_agg rfl U134 ti134 (hS := hS) (hfit := by (simp only [ic_size, List.length_map, List.size_toArray]; decide)) (hR := ?_)
  exact ⟨by rw [bumpV, hE]; rfl, hS.ext_of⟩
 try simp only [dY] at hc1
 have hr16 : r < 16 := by omega
 refine x_seq fun K5 hK5 => x_region ?_
 refine s_go s_move ?_
 try simp only [nY]
 refine s_go (m_indexAddr_arr U134 ti51) ?_
 try simp only [nY, Nat.mul_one, Nat.zero_add, Int.toNat_natCast, Int.reduceToNat]
 refine s_go (m_load_obj U51 (hS := hS) (hv := ic_get (by omega))) ?_
 try simp only [nY, gY]
 refine s_go s_eql ?_
 try simp only [nY]
 refine s_go s_assign ?_
 try simp only [nY]
 refine x_nil (hK5 _ _ ?_)
 refine x_cond (ht := fun hc2 => ?_) (hf := fun hc2 => ?_)
 ·
  try simp only [dY] at hc2
  have hE : bumpE x r = 8 := by rw [bumpE, if_neg (by omega), if_pos (by omega)]
  refine x_seq fun K6 hK6 => x_region ?_
  refine s_go (s_build_arr (cells := #[.int .u32 0, .int .u32 0, .int .u32 0, .int .u32 0, .int .u32 0, .int .u32 0, .int .u32 0, .int .u32 0, .int .u32 0, .int .u32 0, .int .u32 0, .int .u32 0, .int .u32 0, .int .u32 0, .int .u32 0, .int .u32 0]) U134 ti134 ti51 (hc := by simp only [List.map_toArray, List.map_cons, List.map_nil, nY, List.toList_toArray]; (repeat (refine fill_cons rfl rfl (Nat.le_of_ble_eq_true rfl) ?_)); rfl)) ?_
  try simp only [nY]
  refine m_store_obj ti134 (hS := hS) (hc := by (exact splice_whole (by (simp [opv, Value.cells, *]; done)))) (hv := by rfl) (hfit := by (simp only [ic_size, List.length_map, List.size_toArray]; decide)) (h1 := by simp [opv, Value.cells, Value.oneCell']) (h := fun w4 hS => ?_)
  try simp only [nY, aY] at hS ⊢
  refine s_go s_assign ?_
  try simp only [nY]
  refine x_nil (hK6 _ _ ?_)
  refine x_ret ?_
  refine r_cell_tmp_agg rfl U134 ti134 (hS := hS) (hfit := by (simp only [ic_size, List.length_map, List.size_toArray]; decide)) (hR := ?_)
  exact ⟨by rw [bumpV, hE]; rfl, hS.ext_of⟩
 try simp only [dY] at hc2
 have hE : bumpE x r = 0 := by rw [bumpE, if_neg (by omega), if_neg (by omega)]
 refine x_skip ?_
 refine hK2 _ _ ?_
 refine x_seq fun K7 hK7 => x_region ?_
 refine s_go s_move ?_
 try simp only [nY]
 refine s_go (m_indexAddr_arr U134 ti51) ?_
 try simp only [nY, Nat.mul_one, Nat.zero_add, Int.toNat_natCast, Int.reduceToNat]
 refine s_go (m_load_obj U51 (hS := hS) (hv := ic_get (by omega))) ?_
 try simp only [nY, gY]
 refine s_go (s_add (hc := wr_u32 (by omega) (by omega))) ?_
 try simp only [nY]
 refine s_go (m_indexAddr_arr U134 ti51) ?_
 try simp only [nY, Nat.mul_one, Nat.zero_add, Int.toNat_natCast, Int.reduceToNat]
 refine m_store_obj ti51 (hS := hS) (hc := by (exact splice_ic (by omega))) (hv := by rfl) (hfit := by (simp only [ic_size, List.length_map, List.size_toArray]; omega)) (h1 := by simp [opv, Value.cells, Value.oneCell']) (h := fun w5 hS => ?_)
 try simp only [nY, aY] at hS ⊢
 refine x_nil (hK7 _ _ ?_)
 refine x_seq fun K8 hK8 => x_region ?_
 refine s_go (m_load_row U134 (hi := ti134) (hS := hS) (hfit := by (simp [*]; done))) ?_
 try simp only [nY, gY]
 refine m_store_obj ti134 (hS := hS) (hc := by (exact splice_whole (by (simp [opv, Value.cells, *]; done)))) (hv := by (simp [opv, Value.cells, *]; done)) (hfit := by (simp only [ic_size, List.length_map, List.size_toArray]; decide)) (h1 := by exact ic_one _ _) (h := fun w6 hS => ?_)
 try simp only [nY, aY] at hS ⊢
 refine s_go s_assign ?_
 try simp only [nY]
 refine x_nil (hK8 _ _ ?_)
 refine x_ret ?_
 refine r_cell_tmp_agg rfl U134 ti134 (hS := hS) (hfit := by (simp [*]; done)) (hR := ?_)
 exact ⟨by rw [bumpV, hE]; rfl, hS.ext_of⟩
theorem c_vecOf (w0 : World) (A : Option Addr) (c : Nat) (l : List (List Int)) (hr : Rd w0 A 21 l.length (arows l)) (hv : AOks l) (hn : l.length ≤ 1000000000)  :
    CallR Tryz.prog 111 #[.slice A l.length c] w0 fun v w' => v = .agg (ic .u32 (ofV (normP l))) ∧ Ext w0 w' := by
 have hS := St.rd1 (S := NoB) hr
 have hno := (norm_sta hv).ok
 have hkn := (norm_sta hv).knd
 have hnl := arows_len (normP l)
 have hnb := norm_len l
 have hsn := norm_sta hv
 refine y_enter (l := [.slice A l.length c, undef, undef, undef, undef, undef, undef, undef, undef, undef, undef, undef, undef, undef, undef, undef, undef, undef, undef, undef, undef, undef]) Tryz.func111 rfl (by simp only [Tryz.ntmps111, List.size_toArray, List.length_cons, List.length_nil, Nat.reduceAdd, Nat.reduceSub, Array.replicate_succ, Array.replicate_zero, List.push_toArray, List.append_toArray, List.nil_append, List.cons_append]) ?_
 refine y_seq fun K1 hK1 => ?_
 refine y_region (by kernel_rfl) ?_
 refine m_alloc ti134 hS (fun w1 g1 hS => ?_)
 try simp only [nY, aY] at hS ⊢
 replace hS : St NoB w0 w1 (.obj g1 (.cells (ic .u32 (List.replicate 16 0)) 134 (0, 0)) :: _) := hS
 obtain ⟨gv, hgv⟩ : ∃ z, z = g1 := ⟨_, rfl⟩
 rw [← hgv] at hS ⊢
 refine y_nilf ?_
 refine hK1 _ _ ?_
 refine y_seq fun K2 hK2 => ?_
 refine y_seq fun K3 hK3 => ?_
 refine y_region (by kernel_rfl) ?_
 refine s_go s_move ?_
 try simp only [nY]
 refine s_call en81 ?_
 try simp only [nY, mY]
 refine CallR.mono (c_latEach A c l _) ?_
 rintro _ w2 ⟨b, rfl, hC2⟩
 replace hS := hS.call hC2
 simp only [List.cons_append, List.nil_append] at hS
 try simp only [nY]
 refine y_nilf ?_
 refine hK3 _ _ ?_
 refine y_block ?_
 refine y_range rfl en103 (i_latEach b A c l hv hn) (fun _ => rfl) hS (by repeat (first | exact Spl.nil | (apply Spl.cons (by repeat (first | exact Del.head | apply Del.tail))))) (fun k L => k ≤ (normP l).length ∧ L = [.obj gv (.cells (ic .u32 (ofV ((normP l).take k))) 134 (0, 0))]) (fun L => False) [] ?rfh1 ?rfr1 (fun D1 T1 w3 R1 hC hS => ?rfd1) (fun D1 T1 w4 R1 hX hS => ?rft1) ?rfe1
 case rfh1 =>
  exact ⟨Nat.zero_le _, rfl⟩
 case rfr1 =>
  intro k1 w5 R1 T1 lr1 hk1 hC hS
  obtain ⟨hk0, rfl⟩ := hC
  simp only [List.cons_append, List.nil_append] at hS
  simp only [List.toList_toArray, entL, List.zip_cons_cons, List.zip_nil_left, List.foldl_cons, List.foldl_nil, n3, n4]
  obtain ⟨x, hx⟩ : ∃ x, (normP l).getD k1 [] = x := ⟨_, rfl⟩
  have ha : AtomOk x := by rw [← hx]; exact hno.get (by omega)
  have hal := ha.len
  have hk12 := ha.key.len
  have hvx := ha.val
  have hx9 := hvx.len
  simp only [hx]
  have hkx := ha.key
  have hk01 := akey_k hal
  have hkk := akey_kk hal
  have hRx : atomR x = true := hsn.right x (by rw [← hx]; exact getD_mem' hk1)
  have hot := ofV_take hk1 hx
  have hvk : VOk (ofV ((normP l).take k1)) := ofV_ok (hno.take _) VOk.zero
  have hvkl := hvk.len
  have hvkr := hvk.nat (kn x 10)
  refine y_region (by kernel_rfl) ?_
  refine m_alloc ti61 hS (fun w6 g6 hS => ?_)
  try simp only [nY, aY] at hS ⊢
  have h0l : key0.length = 12 := rfl
  replace hS : St _ _ w6 (.obj g6 (.cells (KA key0) 61 (0, 0)) :: _) := hS
  obtain ⟨gk, hgk⟩ : ∃ z, z = g6 := ⟨_, rfl⟩
  rw [← hgk] at hS ⊢
  refine m_store_obj ti61 (hS := hS) (hc := by exact zi_whole (by omega) (by omega)) (hv := by (show (zi _ _).toArray.size = _; rw [zi_size (by omega)]; rfl)) (hfit := by (rw [zi_size (by omega)]; decide)) (h1 := by exact zi_one _ _) (h := fun w7 hS => ?_)
  try simp only [nY, aY] at hS ⊢
  refine y_nilf ?_
  refine round_open hS (by repeat (first | exact App.nil | apply App.cons)) (fun w8 T2 hS => ?_)
  simp only [List.cons_append, List.nil_append] at hS
  refine y_block ?_
  refine y_seq fun K4 hK4 => ?_
  refine y_region (by kernel_rfl) ?_
  refine s_go (m_fieldAddr U61 (hi := ti5)) ?_
  try simp only [nY, fY, gY]
  refine s_go (m_load_obj U5 (hS := hS) (hv := by exact zi_get rfl (by omega))) ?_
  try simp only [nY, gY]
  rw [hkx.e0, hk01.1]
  refine s_go s_eql ?_
  try simp only [nY]
  refine y_nilf ?_
  refine hK4 _ _ ?_
  refine y_cond (ht := fun hc1 => ?_) (hf := fun hc1 => ?_)
  ·
   try simp only [dY] at hc1
   have h1 : kn x 0 = 1 := by omega
   have hr16 := right_rep hRx ha h1
   have hst := hot.trans (if_pos h1)
   refine y_mixed_c (Lc := [.obj gk (.cells (KA (akey x)) 61 (0, 0)), .obj gv (.cells (ic .u32 (ofV ((normP l).take k1))) 134 (0, 0))]) [10] 0 [11, 12, 13, 14, 15, 16, 17, 18, 19, 20] (fun f w => St NoB w0 w (.obj gv (.cells (ic .u32 (ofV ((normP l).take (k1 + 1)))) 134 (0, 0)) :: T2)) (by kernel_rfl) (by kernel_rfl) (by kernel_rfl) (by decide) (by kernel_rfl) hS (fun w9 hS => ?mixpre401) ?mixrest401
   case mixpre401 =>
    refine p_nil ?_
    simp only [List.length_cons, List.length_nil, Nat.reduceAdd, Nat.reduceSub]
    refine any_go (i := 0) (by rfl) (by decide +kernel) (by decide +kernel) (by unfold noLate; decide) (go_yields w_none (fun w hS => m_fieldAddr U61 (hi := ti5))) ?_
    try simp only [nY, fY, gY]
    refine any_go (i := 1) (by rfl) (by decide +kernel) (by decide +kernel) (by unfold noLate; decide) (go_yields w_none (fun w hS => m_load_obj U5 (hS := hS) (hv := by exact zi_get rfl (by omega)))) ?_
    try simp only [nY, gY]
    rw [hkx.e10, hkk.1]
    refine any_go (i := 2) (by rfl) (by decide +kernel) (by decide +kernel) (by unfold noLate; decide) (go_yields w_none (fun w hS => m_fieldAddr U61 (hi := ti5))) ?_
    try simp only [nY, fY, gY]
    refine any_go (i := 3) (by rfl) (by decide +kernel) (by decide +kernel) (by unfold noLate; decide) (go_yields w_none (fun w hS => m_load_obj U5 (hS := hS) (hv := by exact zi_get rfl (by omega)))) ?_
    try simp only [nY, gY]
    rw [hkx.e10, hkk.1]
    refine any_go (i := 4) (by rfl) (by decide +kernel) (by decide +kernel) (by unfold noLate; decide) (go_yields w_none (fun w hS => m_indexAddr_arr U134 ti51)) ?_
    try simp only [nY, Nat.mul_one, Nat.zero_add, Int.toNat_natCast, Int.reduceToNat]
    refine any_go (i := 5) (by rfl) (by decide +kernel) (by decide +kernel) (by unfold noLate; decide) (go_yields w_none (fun w hS => m_load_obj U51 (hS := hS) (hv := ic_get (by omega)))) ?_
    try simp only [nY, gY]
    refine any_go (i := 6) (by rfl) (by decide +kernel) (by decide +kernel) (by unfold noLate; decide) (go_yields w_none (fun w hS => m_fieldAddr U61 (hi := ti51))) ?_
    try simp only [nY, fY, gY]
    refine any_go (i := 7) (by rfl) (by decide +kernel) (by decide +kernel) (by unfold noLate; decide) (go_yields w_none (fun w hS => m_load_obj U51 (hS := hS) (hv := by exact zi_get rfl (by omega)))) ?_
    try simp only [nY, gY]
    rw [hkx.e11, hkk.2]
    refine any_go (i := 8) (by rfl) (by decide +kernel) (by decide +kernel) (by unfold noLate; decide) (go_yields w_none (fun w hS => s_max)) ?_
    try simp only [nY]
    refine any_go (i := 9) (by rfl) (by decide +kernel) (by decide +kernel) (by unfold noLate; decide) (go_yields w_none (fun w hS => m_indexAddr_arr U134 ti51)) ?_
    try simp only [nY, Nat.mul_one, Nat.zero_add, Int.toNat_natCast, Int.reduceToNat]
    refine any_step [10] (by kernel_rfl) (by decide) (fun w10 hE => ⟨fun _ => (hS.ext hE).sel (by repeat (first | exact Sel.nil | (refine Sel.cons (by repeat (exact Del.head)) ?_))), ?_⟩)
    replace hS := hS.ext hE
    intro i hi
    simp only [List.mem_cons, List.not_mem_nil, or_false] at hi
    subst hi
    refine any_op (by rfl) ?_
    refine m_store_obj ti51 (hS := hS) (hc := by (exact splice_ic (by omega))) (hv := by rfl) (hfit := by (simp only [ic_size, List.length_map, List.size_toArray]; omega)) (h1 := by simp [opv, Value.cells, Value.oneCell']) (h := fun w11 hS => ?_)
    try simp only [nY, aY] at hS ⊢
    refine x_nil ?_
    refine any_nil (by kernel_rfl) (fun w12 hE => ?_)
    replace hS := hS.ext hE
    refine ⟨fun hl => absurd (hl 10 (by decide)) (by decide +kernel), ?_⟩
    refine mix_leaf (by simp only [clob, List.foldl, nZ]) ?_
    try simp only [n1, n2]
    rw [hst]; exact hS.sel (by repeat (first | exact Sel.self | (refine Sel.cons (by repeat (first | exact Del.head | apply Del.tail)) ?_) | apply Sel.skip))
   intro fm1 w13 hM
   replace hS := hM
   simp only [clob, List.foldl, n3, n4]
   exact ⟨_, ⟨by omega, rfl⟩, hS.sel (by repeat (exact Sel.self))⟩
  try simp only [dY] at hc1
  have hst := hot.trans (ofS_no (by omega))
  refine y_skip ?_
  (rw [← hst] at hS; exact ⟨_, ⟨by omega, rfl⟩, hS.sel (by repeat (first | exact Sel.self | (refine Sel.cons (by repeat (first | exact Del.head | apply Del.tail)) ?_) | apply Sel.skip))⟩)
 case rfd1 =>
  obtain ⟨hk0, rfl⟩ := hC
  simp only [List.cons_append, List.nil_append] at hS
  have hvf : VOk (ofV (normP l)) := ofV_ok hno VOk.zero
  have hvfl := hvf.len
  rw [List.take_of_length_le (Nat.le_refl _)] at hS
  refine hK2 _ _ ?_
  refine y_seq fun K5 hK5 => ?_
  refine y_region (by kernel_rfl) ?_
  refine s_go (m_load_row U134 (hi := ti134) (hS := hS) (hfit := by (simp only [ic_size, List.length_map, List.size_toArray]; omega))) ?_
  try simp only [nY, gY]
  refine m_store_obj ti134 (hS := hS) (hc := by (exact splice_whole (by (simp [opv, Value.cells, *]; done)))) (hv := by (simp [opv, Value.cells, *]; done)) (hfit := by (simp only [ic_size, List.length_map, List.size_toArray]; omega)) (h1 := by exact ic_one _ _) (h := fun w14 hS => ?_)
  try simp only [nY, aY] at hS ⊢
  refine y_nilf ?_
  refine hK5 _ _ ?_
  refine y_ret ?_
  refine rm_mark hS (by repeat (exact Upd.head)) (fun w15 hS => ?_)
  refine rm_nil ?_
  refine r_cell_agg rfl U134 ti134 (hS := hS) (hfit := by (simp only [ic_size, List.length_map, List.size_toArray]; omega)) (hR := ?_)
  exact ⟨rfl, hS.ext_of⟩
 case rft1 =>
  exact hX.elim
 case rfe1 =>
  exact y_ex_nil
end Go.Proofs.YtpekghaodmeemaaGreat
set_option linter.unusedSimpArgs false
set_option linter.unusedVariables false
set_option maxHeartbeats 2000000
set_option maxRecDepth 100000
namespace Go.Proofs.YtpekghaodmeemaaGreat
open Go.RowKit

def nextN (l : List (List Int)) (r : Nat) : Int := if bumpE (ofV (normP l)) r = 0 then (ofV (normP l)).getD r 0 + 1 else 0
theorem bump_len {v : List Int} (h : VOk v) (r : Nat) : (bumpV v r).length = 16 := by
  unfold bumpV; split
  · rw [List.length_set]; exact h.len
  · rfl
theorem bump_16 {v : List Int} {r : Nat} (h : bumpE v r = 0) : r < 16 ∧ ¬ v.getD r 0 = 4294967295 := by
  unfold bumpE at h
  split at h
  · cases h
  · split at h
    · cases h
    · exact ⟨by omega, by assumption⟩
theorem bump_get {v : List Int} (hv : VOk v) {r : Nat} (h : bumpE v r = 0) : (bumpV v r).getD r 0 = v.getD r 0 + 1 := by
  have h1 := (bump_16 h).1
  have h2 := hv.len
  rw [bumpV, if_pos h, List.getD_eq_getElem?_getD, List.getElem?_set_self (by omega)]; rfl

theorem c_tagsNext (w0 : World) (A : Option Addr) (c : Nat) (l : List (List Int)) (hr : Rd w0 A 21 l.length (arows l)) (hv : AOks l) (hn : l.length ≤ 1000000000) (r : Nat) (h8 : r < 256)  :
    CallR Tryz.prog 90 #[.slice A l.length c, .int .u8 (r : Int)] w0 fun v w' => v = .tuple #[.int .u32 (nextN l r), .int .i64 (bumpE (ofV (normP l)) r)] ∧ Ext w0 w' := by
 have hS := St.rd1 (S := NoB) hr
 have hvo : VOk (ofV (normP l)) := ofV_ok (norm_sta hv).ok VOk.zero
 have hvol := hvo.len
 have hvor := hvo.nat r
 have hbl := bump_len hvo r
 refine c_enter (l := [.slice A l.length c, .int .u8 (r : Int), undef, undef, undef, undef, undef, undef, undef, undef, undef, undef, undef, undef, undef, undef, undef, undef, undef, undef, undef]) Tryz.func90 rfl (by simp only [Tryz.ntmps90, List.size_toArray, List.length_cons, List.length_nil, Nat.reduceAdd, Nat.reduceSub, Array.replicate_succ, Array.replicate_zero, List.push_toArray, List.append_toArray, List.nil_append, List.cons_append]) ?_
 refine x_seq fun K1 hK1 => x_region ?_
 refine s_go s_assign ?_
 try simp only [nY]
 refine s_go s_assign ?_
 try simp only [nY]
 refine x_nil (hK1 _ _ ?_)
 refine x_seq fun K2 hK2 => x_region ?_
 refine s_go s_move ?_
 try simp only [nY]
 refine s_call en111 ?_
 try simp only [nY, mY]
 refine CallR.mono (c_vecOf _ A c l (hS.hasRd (by repeat (exact Has.head))) hv hn) ?_
 rintro _ w1 ⟨rfl, hE1⟩
 replace hS := hS.ext hE1
 try simp only [nY]
 refine s_go s_move ?_
 try simp only [nY]
 refine s_call en110 ?_
 try simp only [nY, mY]
 refine CallR.mono (c_vecBump (ofV (normP l)) hvo r h8 _) ?_
 rintro _ w2 ⟨rfl, hE2⟩
 replace hS := hS.ext hE2
 try simp only [nY]
 refine s_go s_move ?_
 try simp only [nY]
 refine s_go (s_extract (hv := rfl)) ?_
 try simp only [gY]
 try simp only [nY]
 refine s_go (s_extract (hv := rfl)) ?_
 try simp only [gY]
 try simp only [nY]
 refine m_alloc ti134 hS (fun w3 g3 hS => ?_)
 try simp only [nY, aY] at hS ⊢
 replace hS : St NoB w0 w3 (.obj g3 (.cells (ic .u32 (List.replicate 16 0)) 134 (0, 0)) :: _) := hS
 refine m_store_obj ti134 (hS := hS) (hc := by (exact splice_whole (by (simp [opv, Value.cells, *]; done)))) (hv := by (simp [opv, Value.cells, *]; done)) (hfit := by (simp only [ic_size, List.length_map, List.size_toArray]; decide)) (h1 := by exact ic_one _ _) (h := fun w4 hS => ?_)
 try simp only [nY, aY] at hS ⊢
 refine s_go s_assign ?_
 try simp only [nY]
 refine x_nil (hK2 _ _ ?_)
 refine x_seq fun K3 hK3 => ?_
 refine x_seq fun K4 hK4 => x_region ?_
 refine s_go s_move ?_
 try simp only [nY]
 refine s_go s_neq ?_
 try simp only [nY]
 refine x_nil (hK4 _ _ ?_)
 refine x_cond (ht := fun hc1 => ?_) (hf := fun hc1 => ?_)
 ·
  try simp only [dY] at hc1
  have hE : ¬ bumpE (ofV (normP l)) r = 0 := hc1
  refine x_seq fun K5 hK5 => x_region ?_
  refine s_go s_move ?_
  try simp only [nY]
  refine s_go s_assign ?_
  try simp only [nY]
  refine s_go s_assign ?_
  try simp only [nY]
  refine x_nil (hK5 _ _ ?_)
  refine x_ret (r_tmp2 rfl ?_)
  exact ⟨by rw [nextN, if_neg hE]; rfl, hS.ext_of⟩
 try simp only [dY] at hc1
 have hE : bumpE (ofV (normP l)) r = 0 := by simpa using hc1
 have hr16 := (bump_16 hE).1
 have hbg := bump_get hvo hE
 refine x_skip ?_
 refine hK3 _ _ ?_
 refine x_seq fun K6 hK6 => x_region ?_
 refine s_go s_move ?_
 try simp only [nY]
 refine s_go (m_indexAddr_arr U134 ti51) ?_
 try simp only [nY, Nat.mul_one, Nat.zero_add, Int.toNat_natCast, Int.reduceToNat]
 refine s_go (m_load_obj U51 (hS := hS) (hv := ic_get (by omega))) ?_
 try simp only [nY, gY]
 rw [hbg]
 refine s_go s_assign ?_
 try simp only [nY]
 refine s_go s_assign ?_
 try simp only [nY]
 refine x_nil (hK6 _ _ ?_)
 refine x_ret (r_tmp2 rfl ?_)
 exact ⟨by rw [nextN, if_pos hE, hE]; rfl, hS.ext_of⟩
end Go.Proofs.YtpekghaodmeemaaGreat
set_option linter.unusedSimpArgs false
set_option linter.unusedVariables false
set_option maxHeartbeats 2000000
set_option maxRecDepth 100000
namespace Go.Proofs.YtpekghaodmeemaaGreat
open Go.RowKit

def addE (l : List (List Int)) (r : Nat) (it : List Int) : Int := if 16 ≤ r ∨ nright it = false then 1 else bumpE (ofV (normP l)) r
def addA (l : List (List Int)) (r c : Nat) (it : List Int) : List Int := mkKey 1 c it r (nextN l r).toNat ++ mkV 1 nm0
def addP (l : List (List Int)) (r c : Nat) (it : List Int) : List (List Int) := if addE l r it = 0 then [addA l r c it] else []
theorem next_le {l : List (List Int)} (hv : AOks l) (r : Nat) : 0 ≤ nextN l r ∧ nextN l r ≤ 4294967295 := by
  have h := (ofV_ok (norm_sta hv).ok VOk.zero).nat r
  have h : 0 ≤ (ofV (normP l)).getD r 0 ∧ (ofV (normP l)).getD r 0 ≤ 4294967295 := h
  unfold nextN
  split
  · next he => have := (bump_16 he).2; omega
  · omega
theorem addA_ok {l : List (List Int)} (hv : AOks l) {r c : Nat} {it : List Int} (hr : r < 256) (hc : c < 65536) (h8 : it.length = 8) (hb : Byt it) : AtomOk (addA l r c it) := by
  have := next_le hv r
  exact kv_ok (mkKey_ok h8 hb (by decide) hc hr (by omega)) ⟨rfl, by decide, by decide, nm0_byt⟩
theorem addP_no {l : List (List Int)} {r c : Nat} {it : List Int} (h : ¬ addE l r it = 0) : addP l r c it = [] := if_neg h
theorem addP_yes {l : List (List Int)} {r c : Nat} {it : List Int} (h : addE l r it = 0) : addP l r c it = [addA l r c it] := if_pos h
theorem addE_1 {l : List (List Int)} {r : Nat} {it : List Int} (h : 16 ≤ r ∨ nright it = false) : addE l r it = 1 := if_pos h
theorem addE_b {l : List (List Int)} {r : Nat} {it : List Int} (h : ¬ (16 ≤ r ∨ nright it = false)) : addE l r it = bumpE (ofV (normP l)) r := if_neg h
theorem fill_key5 {pl : Nat → Option (Nat × Nat)} {it : List Int} {s c r q : Int} (h0 : pl 0 = some (0, 1)) (h1 : pl 1 = some (1, 1)) (h2 : pl 2 = some (2, 8)) (h3 : pl 3 = some (10, 1)) (h4 : pl 4 = some (11, 1)) (hl : it.length = 8) :
    Instr.fill pl #[.int .u8 0, .int .u16 0, .int .u8 0, .int .u8 0, .int .u8 0, .int .u8 0, .int .u8 0, .int .u8 0, .int .u8 0, .int .u8 0, .int .u8 0, .int .u32 0] [(0, .int .u8 s), (1, .int .u16 c), (2, .agg (ic .u8 it)), (3, .int .u8 r), (4, .int .u32 q)] = some (KA ([s, c] ++ it ++ [r, q])) := by
  match it, hl with
  | [_, _, _, _, _, _, _, _], _ =>
    refine fill_cons h0 rfl (Nat.le_of_ble_eq_true rfl) ?_
    refine fill_cons h1 rfl (Nat.le_of_ble_eq_true rfl) ?_
    refine fill_cons h2 rfl (Nat.le_of_ble_eq_true rfl) ?_
    refine fill_cons h3 rfl (Nat.le_of_ble_eq_true rfl) ?_
    refine fill_cons h4 rfl (Nat.le_of_ble_eq_true rfl) ?_
    rfl

theorem c_tagsAdd (w0 : World) (A : Option Addr) (c : Nat) (l : List (List Int)) (hr : Rd w0 A 21 l.length (arows l)) (hv : AOks l) (hn : l.length ≤ 1000000000) (r : Nat) (hr8 : r < 256) (ct : Nat) (hct : ct < 65536) (it : List Int) (h8 : it.length = 8) (hbt : Byt it)  :
    CallR Tryz.prog 56 #[.slice A l.length c, .int .u8 (r : Int), .int .u16 (ct : Int), .agg (ic .u8 it)] w0 fun v w' => ∃ A c, v = .tuple #[.slice A (addP l r ct it).length c, .int .i64 (addE l r it)] ∧ St NoB w0 w' [.vec A c 66 21 (addP l r ct it).length (arows (addP l r ct it))] := by
 have hS := St.rd1 (S := NoB) hr
 obtain ⟨q, hq⟩ : ∃ q : Nat, nextN l r = (q : Int) := ⟨(nextN l r).toNat, by have := next_le hv r; omega⟩
 have hAl : (addA l r ct it).length = 21 := (addA_ok hv hr8 hct h8 hbt).len
 have hAe : addA l r ct it = mkKey 1 ct it r q ++ mkV 1 nm0 := by rw [addA, hq]; rfl
 have hkl : (mkKey 1 ct it r q).length = 12 := mkKey_len h8
 have hn0l : nm0.length = 8 := rfl
 refine c_enter (l := [.slice A l.length c, .int .u8 (r : Int), .int .u16 (ct : Int), .agg (ic .u8 it), undef, undef, undef, undef, undef, undef, undef, undef, undef, undef, undef, undef, undef, undef, undef, undef, undef, undef, undef, undef, undef, undef, undef, undef, undef, undef, undef, undef, undef, undef, undef, undef, undef, undef, undef, undef]) Tryz.func56 rfl (by simp only [Tryz.ntmps56, List.size_toArray, List.length_cons, List.length_nil, Nat.reduceAdd, Nat.reduceSub, Array.replicate_succ, Array.replicate_zero, List.push_toArray, List.append_toArray, List.nil_append, List.cons_append]) ?_
 refine x_seq fun K1 hK1 => x_region ?_
 refine m_box hS (fun w1 g1 hS => ?_)
 try simp only [nY, aY] at hS ⊢
 refine s_go s_assign ?_
 try simp only [nY]
 refine s_go s_assign ?_
 try simp only [nY]
 refine x_nil (hK1 _ _ ?_)
 refine x_seq fun K2 hK2 => x_region ?_
 refine s_go s_move ?_
 try simp only [nY]
 refine s_go s_move ?_
 try simp only [nY]
 refine s_call en90 ?_
 try simp only [nY, mY]
 refine CallR.mono (c_tagsNext _ A c l (hS.hasA) hv hn r hr8) ?_
 rintro _ w2 ⟨rfl, hE2⟩
 replace hS := hS.ext hE2
 try simp only [nY]
 rw [hq]
 refine s_go s_move ?_
 try simp only [nY]
 refine s_go (s_extract (hv := rfl)) ?_
 try simp only [gY]
 try simp only [nY]
 refine s_go (s_extract (hv := rfl)) ?_
 try simp only [gY]
 try simp only [nY]
 refine s_go s_assign ?_
 try simp only [nY]
 refine s_go s_assign ?_
 try simp only [nY]
 refine x_nil (hK2 _ _ ?_)
 refine x_seq fun K3 hK3 => ?_
 refine x_block ?_
 refine x_seq fun K4 hK4 => x_region ?_
 refine s_go s_move ?_
 try simp only [nY]
 refine s_go s_geq ?_
 try simp only [nY]
 refine s_go s_move ?_
 try simp only [nY]
 refine s_part 22 rfl (fun hp1 => ?_) (fun hp1 => ?_)
 ·
  try simp only [n3, n4]
  try simp only [dZ, ne_eq] at hp1
  have hE : addE l r it = 1 := addE_1 (.inl (by omega))
  refine g_off (yi (t := 22) rfl rfl) ?_
  try simp only [nY]
  refine g_off (yi (t := 22) rfl rfl) ?_
  try simp only [nY]
  refine g_off (yi (t := 22) rfl rfl) ?_
  try simp only [nY]
  refine s_go s_pick_t ?_
  try simp only [nY]
  refine s_go s_assign ?_
  try simp only [nY]
  refine x_nil (hK4 _ _ ?_)
  refine x_cond_t (h := ?_)
  try have hE : addE l r it = 1 := addE_1 (.inr (by simpa using @c))
  refine x_seq fun K5 hK5 => x_region ?_
  refine s_go s_assign ?_
  try simp only [nY]
  refine s_go s_assign ?_
  try simp only [nY]
  refine x_nil (hK5 _ _ ?_)
  refine x_ret (r_tmp2 rfl ?_)
  (rw [addP_no (by rw [hE]; decide), hE]; replace hS := hS.nil_vec 66 21; exact ⟨none, 0, rfl, hS.sel (by repeat (first | exact Sel.nil | (refine Sel.cons (by repeat (exact Del.head)) ?_)))⟩)
 try simp only [n3, n4]
 try simp only [dZ, ne_eq] at hp1
 refine g_on (yi (t := 22) rfl rfl) ?_
 refine s_go (m_load_row U25 (hi := ti25) (hS := hS) (hfit := by (simp only [ic_size, List.length_map, List.size_toArray]; omega))) ?_
 try simp only [nY, gY]
 refine g_on (yi (t := 22) rfl rfl) ?_
 refine s_call en39 ?_
 try simp only [nY, mY]
 refine CallR.mono (c_nameRight it h8 hbt _) ?_
 rintro _ w3 ⟨rfl, hE3⟩
 replace hS := hS.ext hE3
 try simp only [nY]
 refine g_on (yi (t := 22) rfl rfl) ?_
 refine s_go s_not ?_
 try simp only [nY]
 refine s_go s_pick_f ?_
 try simp only [nY]
 refine s_go s_assign ?_
 try simp only [nY]
 refine x_nil (hK4 _ _ ?_)
 refine x_cond (ht := fun hc2 => ?_) (hf := fun hc2 => ?_)
 ·
  try simp only [dY] at hc2
  try have hE : addE l r it = 1 := addE_1 (.inr (by simpa using hc2))
  refine x_seq fun K6 hK6 => x_region ?_
  refine s_go s_assign ?_
  try simp only [nY]
  refine s_go s_assign ?_
  try simp only [nY]
  refine x_nil (hK6 _ _ ?_)
  refine x_ret (r_tmp2 rfl ?_)
  (rw [addP_no (by rw [hE]; decide), hE]; replace hS := hS.nil_vec 66 21; exact ⟨none, 0, rfl, hS.sel (by repeat (first | exact Sel.nil | (refine Sel.cons (by repeat (exact Del.head)) ?_)))⟩)
 try simp only [dY] at hc2
 have hok := addE_b (l := l) (r := r) (it := it) (fun z => z.elim (fun z => by omega) (fun z => by simp [z] at hc2))
 refine x_seq fun K7 hK7 => x_region ?_
 refine s_go s_move ?_
 try simp only [nY]
 refine s_go s_neq ?_
 try simp only [nY]
 refine s_go s_assign ?_
 try simp only [nY]
 refine x_nil (hK7 _ _ ?_)
 refine x_cond (ht := fun hc3 => ?_) (hf := fun hc3 => ?_)
 ·
  try simp only [dY] at hc3
  have hB : ¬ bumpE (ofV (normP l)) r = 0 := by simpa using hc3
  have hE := hok
  refine x_seq fun K8 hK8 => x_region ?_
  refine s_go s_move ?_
  try simp only [nY]
  refine s_go s_assign ?_
  try simp only [nY]
  refine s_go s_assign ?_
  try simp only [nY]
  refine x_nil (hK8 _ _ ?_)
  refine x_ret (r_tmp2 rfl ?_)
  (rw [addP_no (by rw [hE]; exact hB), hE]; replace hS := hS.nil_vec 66 21; exact ⟨none, 0, rfl, hS.sel (by repeat (first | exact Sel.nil | (refine Sel.cons (by repeat (exact Del.head)) ?_)))⟩)
 try simp only [dY] at hc3
 have hE : addE l r it = 0 := by rw [hok]; simpa using hc3
 refine x_skip ?_
 refine hK3 _ _ ?_
 refine x_seq fun K9 hK9 => x_region ?_
 refine s_go s_move ?_
 try simp only [nY]
 refine s_go (m_load_row U25 (hi := ti25) (hS := hS) (hfit := by (simp only [ic_size, List.length_map, List.size_toArray]; omega))) ?_
 try simp only [nY, gY]
 refine s_go s_move ?_
 try simp only [nY]
 refine s_go s_move ?_
 try simp only [nY]
 refine s_go (s_build_struct (cells := (KA (mkKey 1 ct it r q))) U61 ti61 bp61 (hc := by simp only [List.map_toArray, List.map_cons, List.map_nil, nY, List.toList_toArray]; exact fill_key5 (by rfl) (by rfl) (by rfl) (by rfl) (by rfl) h8)) ?_
 try simp only [nY]
 refine m_alloc ti61 hS (fun w4 g4 hS => ?_)
 try simp only [nY, aY] at hS ⊢
 have h0l : key0.length = 12 := rfl
 replace hS : St _ _ w4 (.obj g4 (.cells (KA key0) 61 (0, 0)) :: _) := hS
 refine m_store_obj ti61 (hS := hS) (hc := by exact zi_whole (by omega) (by omega)) (hv := by (show (zi _ _).toArray.size = _; rw [zi_size (by omega)]; rfl)) (hfit := by (rw [zi_size (by omega)]; decide)) (h1 := by exact zi_one _ _) (h := fun w5 hS => ?_)
 try simp only [nY, aY] at hS ⊢
 refine x_nil (hK9 _ _ ?_)
 refine x_seq fun K10 hK10 => x_region ?_
 refine s_go (m_load_row U61 (hi := ti61) (hS := hS) (hfit := by (rw [zi_size (by omega)]; rfl))) ?_
 try simp only [nY, gY]
 refine s_go (s_build_struct (cells := (VA (mkV 1 nm0))) U64 ti64 bp64 (hc := by simp only [List.map_toArray, List.map_cons, List.map_nil, nY, List.toList_toArray]; (repeat (refine fill_cons rfl rfl (Nat.le_of_ble_eq_true rfl) ?_)); rfl)) ?_
 try simp only [nY]
 refine s_go (s_build_struct (cells := (AA (addA l r ct it))) U66 ti66 bp66 (hc := by simp only [List.map_toArray, List.map_cons, List.map_nil, nY, List.toList_toArray]; rw [hAe]; exact fill_atom (by rfl) (by rfl) (by rfl) hkl (mkV_len hn0l))) ?_
 try simp only [nY]
 refine m_buildRow (cells := (AA (addA l r ct it))) U22 ti66 (hc := by simp only [List.map_toArray, List.map_cons, List.map_nil, nY, List.toList_toArray]; exact fill_one (by rfl) (zi_size21 hAl) (by rfl)) (hS := hS) (h := fun w6 g6 hS => ?_)
 try simp only [nY, aY] at hS ⊢
 replace hS := hS.obj_vec (sz := 21) (n := 1) (by exact zi_size21 hAl) (by decide) .head
 rw [arow_one hAl] at hS
 refine s_go s_assign ?_
 try simp only [nY]
 refine s_go s_assign ?_
 try simp only [nY]
 refine x_nil (hK10 _ _ ?_)
 refine x_ret (r_tmp2 rfl ?_)
 (rw [addP_yes hE, hE]; exact ⟨_, _, rfl, hS.sel (by repeat (first | exact Sel.nil | (refine Sel.cons (by repeat (exact Del.head)) ?_)))⟩)
end Go.Proofs.YtpekghaodmeemaaGreat
