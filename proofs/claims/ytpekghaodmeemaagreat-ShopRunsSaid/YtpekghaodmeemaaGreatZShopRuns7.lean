/- Rules, plain words and walks that the claim leans on: Sr, Pt, Ss, Sv, Sc, Sx, Sw, Sy. -/
import Derived.Test.YtpekghaodmeemaaGreatZShopRuns6
set_option linter.unusedSimpArgs false
set_option linter.unusedVariables false
set_option linter.unusedSimpArgs false
set_option linter.unusedVariables false
set_option maxHeartbeats 400000
set_option maxRecDepth 100000
namespace Go.Proofs.YtpekghaodmeemaaGreat
open Go.RowKit

theorem ad_0 {l : List (List Int)} {r : Nat} {x : List Int} (h : addE l r (kitem x) = 0) : adE l r x = turnE l 2 r (kn x 1) (kitem x) (opN x) := by rw [adE, if_neg (fun q => q h)]
theorem ad_1 {l : List (List Int)} {r : Nat} {x : List Int} (h : ¬ addE l r (kitem x) = 0) : adE l r x = addE l r (kitem x) := by rw [adE, if_pos h]
theorem addP_len (l : List (List Int)) (r c : Nat) (it : List Int) : (addP l r c it).length ≤ 1 := by unfold addP; split <;> simp
theorem addP_aok {l : List (List Int)} {r c : Nat} {it : List Int} (hv : AOks l) (hr : r < 256) (hc : c < 65536) (h8 : it.length = 8) (hb : Byt it) : AOks (addP l r c it) := addP_ok hv hr hc h8 hb

theorem c_kinds2 (w0 : World) (A : Option Addr) (c : Nat) (l : List (List Int)) (hr : Rd w0 A 21 l.length (arows l)) (hv : AOks l) (hn : l.length ≤ 40000000) (r : Nat) (hr8 : r < 256) (x : List Int) (hx : OpOk x) (g1 g3 : Nat) (hb1 : Rd w0 (some ⟨g1, 0, none⟩) 21 1 (MA (.slice A l.length c) r x).toList) (hb3 : Rd w0 (some ⟨g3, 0, none⟩) 19 1 (OA x).toList)  :
    CallP Tryz.prog 54 #[.pointer (some ⟨g1, 0, none⟩), .pointer (some ⟨g3, 0, none⟩)] w0 (fun v w' => adE l r x = 0 ∧ ∃ (O : Option Addr) (oc : Nat), v = .slice O (adP l r x).length oc ∧ St NoB w0 w' [.vec O oc 66 21 (adP l r x).length (arows (adP l r x))]) (fun v w' => ¬ adE l r x = 0 ∧ v = rfs (adE l r x) ∧ Ext w0 w') := by
 have hS := St.rd3 (S := NoB) hr hb1 hb3
 have hxl := hx.len
 have hil := op_il hxl
 have htl := op_tl hxl
 have hk1 := hx.k1
 have hk2 := hx.k2
 have hm1 := hx.m1
 have hm2 := hx.m2
 have hbi := hx.item
 have hbt := hx.text
 have hcx := hx.b1
 have hml := ma_len (s := .slice A l.length c) (r := r) hxl
 have hol := op_llen hxl
 have hqb := qty_b hv (by omega) (kn x 1) (kitem x)
 have htb := tot_b hv (by omega) (kn x 1) (kitem x)
 have hpo := addP_aok hv hr8 hcx hil hbi
 have hpl := addP_len l r (kn x 1) (kitem x)
 have hto := turnP_ok (n := opN x) hv (.inl rfl) hr8 hcx hil hbi hm2
 have htl2 := turnP_len l 2 r (kn x 1) (kitem x) (opN x)
 refine z_enter (l := [.pointer (some ⟨g1, 0, none⟩), .pointer (some ⟨g3, 0, none⟩), undef, undef, undef, undef, undef, undef, undef, undef, undef, undef, undef, undef, undef, undef, undef, undef, undef, undef, undef, undef, undef, undef, undef, undef, undef, undef, undef, undef, undef, undef]) Tryz.func54 rfl (by simp only [Tryz.ntmps54, List.size_toArray, List.length_cons, List.length_nil, Nat.reduceAdd, Nat.reduceSub, Array.replicate_succ, Array.replicate_zero, List.push_toArray, List.append_toArray, List.nil_append, List.cons_append]) ?_
 refine z_seq fun K1 hK1 => ?_
 refine z_region ?_
 refine s_go s_assign ?_
 try simp only [nY]
 refine z_nilf ?_
 refine hK1 _ _ ?_
 refine z_seq fun K2 hK2 => ?_
 refine z_region ?_
 refine s_go (m_fieldAddr U78 (hi := ti22)) ?_
 try simp only [nY, fY, gY]
 refine s_go (m_load_bx U22 (hS := hS) (hv := ma_l0)) ?_
 try simp only [nY, gY]
 refine s_go (m_fieldAddr U78 (hi := ti5)) ?_
 try simp only [nY, fY, gY]
 refine s_go (m_load_bx U5 (hS := hS) (hv := ma_l1)) ?_
 try simp only [nY, gY]
 refine s_go (m_fieldAddr U27 (hi := ti23)) ?_
 try simp only [nY, fY, gY]
 refine s_go (m_load_bx U23 (hS := hS) (hv := op_c hx)) ?_
 try simp only [nY, gY]
 refine s_go (m_fieldAddr U27 (hi := ti25)) ?_
 try simp only [nY, fY, gY]
 refine s_go (m_loada_bx U25 (hi := ti25) (hS := hS) (hfit := by (simp only [List.toList_toArray]; omega))) ?_
 try simp only [nY, gY]
 try simp only [Nat.sub_zero]
 rw [op_item hxl]
 refine s_call en56 ?_
 try simp only [nY, mY]
 refine CallR.mono (c_tagsAdd _ A c l (hS.hasRd (by repeat (exact Has.head))) hv (by omega) r hr8 (kn x 1) hcx (kitem x) hil hbi) ?_
 rintro _ w1 ⟨Da, da, rfl, hC1⟩
 replace hS := hS.call hC1
 simp only [List.cons_append, List.nil_append] at hS
 try simp only [nY]
 refine s_go (s_extract (hv := rfl)) ?_
 try simp only [gY]
 try simp only [nY]
 refine s_go (s_extract (hv := rfl)) ?_
 try simp only [gY]
 try simp only [nY]
 refine zp_call en55 ?_
 try simp only [nY, mY]
 refine CallP.mono (c_got (.slice Da (addP l r (kn x 1) (kitem x)).length da) (addE l r (kitem x)) _) ?zr2 ?zp2
 case zp2 =>
  rintro _ w2 ⟨hg2, rfl, hE2⟩
  exact ⟨rfl, by rw [ad_1 hg2]; exact hg2, by rw [ad_1 hg2], (hS.ext hE2).ext_of⟩
 rintro _ w2 ⟨hg2, rfl, hE2⟩
 replace hS := hS.ext hE2
 try simp only [nY]
 have had := ad_0 hg2
 refine s_go s_assign ?_
 try simp only [nY]
 refine z_nilf ?_
 refine hK2 _ _ ?_
 refine z_seq fun K3 hK3 => ?_
 refine z_region ?_
 refine s_go s_move ?_
 try simp only [nY]
 refine s_go (m_fieldAddr U78 (hi := ti22)) ?_
 try simp only [nY, fY, gY]
 refine s_go (m_load_bx U22 (hS := hS) (hv := ma_l0)) ?_
 try simp only [nY, gY]
 refine s_go (m_fieldAddr U78 (hi := ti5)) ?_
 try simp only [nY, fY, gY]
 refine s_go (m_load_bx U5 (hS := hS) (hv := ma_l1)) ?_
 try simp only [nY, gY]
 refine s_go (m_fieldAddr U27 (hi := ti23)) ?_
 try simp only [nY, fY, gY]
 refine s_go (m_load_bx U23 (hS := hS) (hv := op_c hx)) ?_
 try simp only [nY, gY]
 refine s_go (m_fieldAddr U27 (hi := ti25)) ?_
 try simp only [nY, fY, gY]
 refine s_go (m_loada_bx U25 (hi := ti25) (hS := hS) (hfit := by omega)) ?_
 try simp only [nY, gY]
 try simp only [Nat.sub_zero]
 rw [op_item hxl]
 refine s_go (m_fieldAddr U27 (hi := ti3)) ?_
 try simp only [nY, fY, gY]
 refine s_go (m_load_bx U3 (hS := hS) (hv := op_n hx)) ?_
 try simp only [nY, gY]
 refine s_call en57 ?_
 try simp only [nY, mY]
 refine CallR.mono (c_countRaise _ A c l (hS.hasA) hv (by omega) r hr8 (kn x 1) hcx (kitem x) hil hbi (opN x) hm1 hm2) ?_
 rintro _ w3 ⟨Dt, dt, rfl, hC3⟩
 replace hS := hS.call hC3
 simp only [List.cons_append, List.nil_append] at hS
 try simp only [nY]
 refine s_go (s_extract (hv := rfl)) ?_
 try simp only [gY]
 try simp only [nY]
 refine s_go (s_extract (hv := rfl)) ?_
 try simp only [gY]
 try simp only [nY]
 refine zp_call en55 ?_
 try simp only [nY, mY]
 refine CallP.mono (c_got (.slice Dt (turnP l 2 r (kn x 1) (kitem x) (opN x)).length dt) (turnE l 2 r (kn x 1) (kitem x) (opN x)) _) ?zr4 ?zp4
 case zp4 =>
  rintro _ w4 ⟨hg4, rfl, hE4⟩
  exact ⟨rfl, by rw [had]; exact hg4, by rw [had], (hS.ext hE4).ext_of⟩
 rintro _ w4 ⟨hg4, rfl, hE4⟩
 replace hS := hS.ext hE4
 try simp only [nY]
 have had2 := had.trans hg4
 refine s_call en28 ?_
 try simp only [nY, mY]
 refine CallR.mono (c_latJoin _ Da da (addP l r (kn x 1) (kitem x)) (hS.vecA) hpo Dt dt (turnP l 2 r (kn x 1) (kitem x) (opN x)) (hS.vecRd (by repeat (exact Has.head))) hto (by omega)) ?_
 rintro _ w5 ⟨Dj, dj, rfl, hC5⟩
 replace hS := hS.call hC5
 simp only [List.cons_append, List.nil_append] at hS
 try simp only [nY]
 refine s_go s_assign ?_
 try simp only [nY]
 refine z_nilf ?_
 refine hK3 _ _ ?_
 refine z_ret ?_
 refine rz ?_
 refine r_tmp rfl ?_
 exact ⟨had2, _, _, rfl, hS.sel (by repeat (first | exact Sel.nil | (refine Sel.cons (by repeat (exact Del.head)) ?_)))⟩
theorem c_kinds3 (w0 : World) (A : Option Addr) (c : Nat) (l : List (List Int)) (hr : Rd w0 A 21 l.length (arows l)) (hv : AOks l) (hn : l.length ≤ 40000000) (r : Nat) (hr8 : r < 256) (x : List Int) (hx : OpOk x) (g1 g3 : Nat) (hb1 : Rd w0 (some ⟨g1, 0, none⟩) 21 1 (MA (.slice A l.length c) r x).toList) (hb3 : Rd w0 (some ⟨g3, 0, none⟩) 19 1 (OA x).toList)  :
    CallP Tryz.prog 58 #[.pointer (some ⟨g1, 0, none⟩), .pointer (some ⟨g3, 0, none⟩)] w0 (fun v w' => rmE l r (kn x 1) (kitem x) = 0 ∧ ∃ (O : Option Addr) (oc : Nat), v = .slice O (rmP l r (kn x 1) (kitem x)).length oc ∧ St NoB w0 w' [.vec O oc 66 21 (rmP l r (kn x 1) (kitem x)).length (arows (rmP l r (kn x 1) (kitem x)))]) (fun v w' => ¬ rmE l r (kn x 1) (kitem x) = 0 ∧ v = rfs (rmE l r (kn x 1) (kitem x)) ∧ Ext w0 w') := by
 have hS := St.rd3 (S := NoB) hr hb1 hb3
 have hxl := hx.len
 have hil := op_il hxl
 have htl := op_tl hxl
 have hk1 := hx.k1
 have hk2 := hx.k2
 have hm1 := hx.m1
 have hm2 := hx.m2
 have hbi := hx.item
 have hbt := hx.text
 have hcx := hx.b1
 have hml := ma_len (s := .slice A l.length c) (r := r) hxl
 have hol := op_llen hxl
 have hqb := qty_b hv (by omega) (kn x 1) (kitem x)
 have htb := tot_b hv (by omega) (kn x 1) (kitem x)
 refine z_enter (l := [.pointer (some ⟨g1, 0, none⟩), .pointer (some ⟨g3, 0, none⟩), undef, undef, undef, undef, undef]) Tryz.func58 rfl (by simp only [Tryz.ntmps58, List.size_toArray, List.length_cons, List.length_nil, Nat.reduceAdd, Nat.reduceSub, Array.replicate_succ, Array.replicate_zero, List.push_toArray, List.append_toArray, List.nil_append, List.cons_append]) ?_
 refine z_seq fun K1 hK1 => ?_
 refine z_region ?_
 refine s_go s_assign ?_
 try simp only [nY]
 refine z_nilf ?_
 refine hK1 _ _ ?_
 refine z_seq fun K2 hK2 => ?_
 refine z_region ?_
 refine s_go (m_loada_bx U78 (hi := ti78) (hS := hS) (hfit := by omega)) ?_
 try simp only [nY, gY]
 try simp only [Nat.sub_zero]
 rw [ma_all hxl]
 refine s_go (m_fieldAddr U27 (hi := ti25)) ?_
 try simp only [nY, fY, gY]
 refine s_go (m_loada_bx U25 (hi := ti25) (hS := hS) (hfit := by (simp only [List.toList_toArray]; omega))) ?_
 try simp only [nY, gY]
 try simp only [Nat.sub_zero]
 rw [op_item hxl]
 refine zp_call en59 ?_
 try simp only [nY, mY]
 refine CallP.mono (c_without _ A c l (hS.hasRd (by repeat (exact Has.head))) hv hn r hr8 x hx (kitem x) hil hbi) ?zr1 ?zp1
 case zp1 =>
  rintro _ w1 ⟨hg1, rfl, hE1⟩
  exact ⟨rfl, hg1, rfl, (hS.ext hE1).ext_of⟩
 rintro _ w1 ⟨hg1, O1, oc1, rfl, hC1⟩
 replace hS := hS.call hC1
 simp only [List.cons_append, List.nil_append] at hS
 try simp only [nY]
 refine s_go s_assign ?_
 try simp only [nY]
 refine z_nilf ?_
 refine hK2 _ _ ?_
 refine z_ret ?_
 refine rz ?_
 refine r_tmp rfl ?_
 exact ⟨by assumption, _, _, rfl, hS.sel (by repeat (first | exact Sel.nil | (refine Sel.cons (by repeat (exact Del.head)) ?_)))⟩
theorem c_kinds4 (w0 : World) (A : Option Addr) (c : Nat) (l : List (List Int)) (hr : Rd w0 A 21 l.length (arows l)) (hv : AOks l) (hn : l.length ≤ 40000000) (r : Nat) (hr8 : r < 256) (x : List Int) (hx : OpOk x) (g1 g3 : Nat) (hb1 : Rd w0 (some ⟨g1, 0, none⟩) 21 1 (MA (.slice A l.length c) r x).toList) (hb3 : Rd w0 (some ⟨g3, 0, none⟩) 19 1 (OA x).toList) (hON : 0 ≤ opN x ∧ opN x ≤ 4294967295)  :
    CallP Tryz.prog 60 #[.pointer (some ⟨g3, 0, none⟩), .pointer (some ⟨g1, 0, none⟩)] w0 (fun v w' => stE l r x = 0 ∧ ∃ (O : Option Addr) (oc : Nat), v = .slice O (stP l r x).length oc ∧ St NoB w0 w' [.vec O oc 66 21 (stP l r x).length (arows (stP l r x))]) (fun v w' => ¬ stE l r x = 0 ∧ v = rfs (stE l r x) ∧ Ext w0 w') := by
 have hS := St.rd3 (S := NoB) hr hb1 hb3
 have hxl := hx.len
 have hil := op_il hxl
 have htl := op_tl hxl
 have hk1 := hx.k1
 have hk2 := hx.k2
 have hm1 := hx.m1
 have hm2 := hx.m2
 have hbi := hx.item
 have hbt := hx.text
 have hcx := hx.b1
 have hml := ma_len (s := .slice A l.length c) (r := r) hxl
 have hol := op_llen hxl
 have hqb := qty_b hv (by omega) (kn x 1) (kitem x)
 have htb := tot_b hv (by omega) (kn x 1) (kitem x)
 refine z_enter (l := [.pointer (some ⟨g3, 0, none⟩), .pointer (some ⟨g1, 0, none⟩), undef, undef, undef, undef, undef, undef, undef, undef, undef, undef, undef, undef, undef, undef, undef, undef, undef, undef, undef, undef, undef, undef, undef, undef, undef]) Tryz.func60 rfl (by simp only [Tryz.ntmps60, List.size_toArray, List.length_cons, List.length_nil, Nat.reduceAdd, Nat.reduceSub, Array.replicate_succ, Array.replicate_zero, List.push_toArray, List.append_toArray, List.nil_append, List.cons_append]) ?_
 refine z_seq fun K1 hK1 => ?_
 refine z_region ?_
 refine s_go s_assign ?_
 try simp only [nY]
 refine z_nilf ?_
 refine hK1 _ _ ?_
 refine z_seq fun K2 hK2 => ?_
 refine z_quiet (by kernel_rfl) (by kernel_rfl) hS ?_
 refine q_go (fun w hS => m_fieldAddr U27 (hi := ti3)) ?_
 try simp only [nY, fY, gY]
 refine q_go (fun w hS => m_load_bx U3 (hS := hS) (hv := op_n hx)) ?_
 try simp only [nY, gY]
 refine q_go (fun w hS => m_fieldAddr U78 (hi := ti22)) ?_
 try simp only [nY, fY, gY]
 refine q_go (fun w hS => m_load_bx U22 (hS := hS) (hv := ma_l0)) ?_
 try simp only [nY, gY]
 refine q_go (fun w hS => m_fieldAddr U27 (hi := ti23)) ?_
 try simp only [nY, fY, gY]
 refine q_go (fun w hS => m_load_bx U23 (hS := hS) (hv := op_c hx)) ?_
 try simp only [nY, gY]
 refine q_go (fun w hS => m_fieldAddr U27 (hi := ti25)) ?_
 try simp only [nY, fY, gY]
 refine q_go (fun w hS => m_loada_bx U25 (hi := ti25) (hS := hS) (hfit := by omega)) ?_
 try simp only [nY, gY]
 try simp only [Nat.sub_zero]
 rw [op_item hxl]
 apply q_call en43
 case H =>
   intro w hS
   try simp only [nY, mY]
   refine CallR.mono (c_countTotal _ A c l (hS.hasRd (by repeat (exact Has.head))) hv (by omega) _ hcx _ hil) ?_
   rintro _ w1 ⟨rfl, hE⟩; exact ⟨rfl, hS.ext hE⟩
 try simp only [nY]
 refine q_go (fun w hS => s_sub (hc := by exact wr_i64 (by omega) (by omega))) ?_
 try simp only [nY]
 rw [show opN x - totL (normP l) (kn x 1) (kitem x) = stN l x from rfl]
 refine q_go (fun w hS => s_assign) ?_
 try simp only [nY]
 clear hS
 refine y_q_nil fun w1 hS => ?_
 refine hK2 _ _ ?_
 refine z_seq fun K3 hK3 => ?_
 refine z_region ?_
 refine s_go (m_fieldAddr U78 (hi := ti22)) ?_
 try simp only [nY, fY, gY]
 refine s_go (m_load_bx U22 (hS := hS) (hv := ma_l0)) ?_
 try simp only [nY, gY]
 refine s_go (m_fieldAddr U78 (hi := ti5)) ?_
 try simp only [nY, fY, gY]
 refine s_go (m_load_bx U5 (hS := hS) (hv := ma_l1)) ?_
 try simp only [nY, gY]
 refine s_go (m_fieldAddr U27 (hi := ti23)) ?_
 try simp only [nY, fY, gY]
 refine s_go (m_load_bx U23 (hS := hS) (hv := op_c hx)) ?_
 try simp only [nY, gY]
 refine s_go (m_fieldAddr U27 (hi := ti25)) ?_
 try simp only [nY, fY, gY]
 refine s_go (m_loada_bx U25 (hi := ti25) (hS := hS) (hfit := by omega)) ?_
 try simp only [nY, gY]
 try simp only [Nat.sub_zero]
 rw [op_item hxl]
 refine s_go s_move ?_
 try simp only [nY]
 refine s_call en61 ?_
 try simp only [nY, mY]
 refine CallR.mono (c_countShift _ A c l (hS.hasRd (by repeat (exact Has.head))) hv (by omega) r hr8 (kn x 1) hcx (kitem x) hil hbi (stN l x) (by unfold stN; omega) (by unfold stN; omega)) ?_
 rintro _ w2 ⟨Dt, dt, rfl, hC2⟩
 replace hS := hS.call hC2
 simp only [List.cons_append, List.nil_append] at hS
 try simp only [nY]
 refine s_go (s_extract (hv := rfl)) ?_
 try simp only [gY]
 try simp only [nY]
 refine s_go (s_extract (hv := rfl)) ?_
 try simp only [gY]
 try simp only [nY]
 refine zp_call en55 ?_
 try simp only [nY, mY]
 refine CallP.mono (c_got (.slice Dt (stP l r x).length dt) (stE l r x) _) ?zr3 ?zp3
 case zp3 =>
  rintro _ w3 ⟨hg3, rfl, hE3⟩
  exact ⟨rfl, hg3, rfl, (hS.ext hE3).ext_of⟩
 rintro _ w3 ⟨hg3, rfl, hE3⟩
 replace hS := hS.ext hE3
 try simp only [nY]
 refine s_go s_assign ?_
 try simp only [nY]
 refine z_nilf ?_
 refine hK3 _ _ ?_
 refine z_ret ?_
 refine rz ?_
 refine r_tmp rfl ?_
 exact ⟨by assumption, _, _, rfl, hS.sel (by repeat (first | exact Sel.nil | (refine Sel.cons (by repeat (exact Del.head)) ?_)))⟩
theorem c_kinds5 (w0 : World) (A : Option Addr) (c : Nat) (l : List (List Int)) (hr : Rd w0 A 21 l.length (arows l)) (hv : AOks l) (hn : l.length ≤ 40000000) (r : Nat) (hr8 : r < 256) (x : List Int) (hx : OpOk x) (g1 g3 : Nat) (hb1 : Rd w0 (some ⟨g1, 0, none⟩) 21 1 (MA (.slice A l.length c) r x).toList) (hb3 : Rd w0 (some ⟨g3, 0, none⟩) 19 1 (OA x).toList)  :
    CallP Tryz.prog 62 #[.pointer (some ⟨g1, 0, none⟩), .pointer (some ⟨g3, 0, none⟩)] w0 (fun v w' => noteE l r (opT x) (kn x 1) = 0 ∧ ∃ (O : Option Addr) (oc : Nat), v = .slice O (noteP l r (opT x) (kn x 1)).length oc ∧ St NoB w0 w' [.vec O oc 66 21 (noteP l r (opT x) (kn x 1)).length (arows (noteP l r (opT x) (kn x 1)))]) (fun v w' => ¬ noteE l r (opT x) (kn x 1) = 0 ∧ v = rfs (noteE l r (opT x) (kn x 1)) ∧ Ext w0 w') := by
 have hS := St.rd3 (S := NoB) hr hb1 hb3
 have hxl := hx.len
 have hil := op_il hxl
 have htl := op_tl hxl
 have hk1 := hx.k1
 have hk2 := hx.k2
 have hm1 := hx.m1
 have hm2 := hx.m2
 have hbi := hx.item
 have hbt := hx.text
 have hcx := hx.b1
 have hml := ma_len (s := .slice A l.length c) (r := r) hxl
 have hol := op_llen hxl
 have hqb := qty_b hv (by omega) (kn x 1) (kitem x)
 have htb := tot_b hv (by omega) (kn x 1) (kitem x)
 refine z_enter (l := [.pointer (some ⟨g1, 0, none⟩), .pointer (some ⟨g3, 0, none⟩), undef, undef, undef, undef, undef, undef, undef, undef, undef, undef, undef, undef, undef]) Tryz.func62 rfl (by simp only [Tryz.ntmps62, List.size_toArray, List.length_cons, List.length_nil, Nat.reduceAdd, Nat.reduceSub, Array.replicate_succ, Array.replicate_zero, List.push_toArray, List.append_toArray, List.nil_append, List.cons_append]) ?_
 refine z_seq fun K1 hK1 => ?_
 refine z_region ?_
 refine s_go s_assign ?_
 try simp only [nY]
 refine z_nilf ?_
 refine hK1 _ _ ?_
 refine z_seq fun K2 hK2 => ?_
 refine z_region ?_
 refine s_go (m_fieldAddr U78 (hi := ti22)) ?_
 try simp only [nY, fY, gY]
 refine s_go (m_load_bx U22 (hS := hS) (hv := ma_l0)) ?_
 try simp only [nY, gY]
 refine s_go (m_fieldAddr U78 (hi := ti5)) ?_
 try simp only [nY, fY, gY]
 refine s_go (m_load_bx U5 (hS := hS) (hv := ma_l1)) ?_
 try simp only [nY, gY]
 refine s_go (m_fieldAddr U27 (hi := ti23)) ?_
 try simp only [nY, fY, gY]
 refine s_go (m_load_bx U23 (hS := hS) (hv := op_c hx)) ?_
 try simp only [nY, gY]
 refine s_go (m_fieldAddr U27 (hi := ti25)) ?_
 try simp only [nY, fY, gY]
 refine s_go (m_loada_bx U25 (hi := ti25) (hS := hS) (hfit := by (simp only [List.toList_toArray]; omega))) ?_
 try simp only [nY, gY]
 try simp only [Nat.sub_zero]
 rw [op_text hxl]
 refine s_call en63 ?_
 try simp only [nY, mY]
 refine CallR.mono (c_notePut _ A c l (hS.hasRd (by repeat (exact Has.head))) hv (by omega) r hr8 (kn x 1) hcx (opT x) htl hbt) ?_
 rintro _ w1 ⟨Dt, dt, rfl, hC1⟩
 replace hS := hS.call hC1
 simp only [List.cons_append, List.nil_append] at hS
 try simp only [nY]
 refine s_go (s_extract (hv := rfl)) ?_
 try simp only [gY]
 try simp only [nY]
 refine s_go (s_extract (hv := rfl)) ?_
 try simp only [gY]
 try simp only [nY]
 refine zp_call en55 ?_
 try simp only [nY, mY]
 refine CallP.mono (c_got (.slice Dt (noteP l r (opT x) (kn x 1)).length dt) (noteE l r (opT x) (kn x 1)) _) ?zr2 ?zp2
 case zp2 =>
  rintro _ w2 ⟨hg2, rfl, hE2⟩
  exact ⟨rfl, hg2, rfl, (hS.ext hE2).ext_of⟩
 rintro _ w2 ⟨hg2, rfl, hE2⟩
 replace hS := hS.ext hE2
 try simp only [nY]
 refine s_go s_assign ?_
 try simp only [nY]
 refine z_nilf ?_
 refine hK2 _ _ ?_
 refine z_ret ?_
 refine rz ?_
 refine r_tmp rfl ?_
 exact ⟨by assumption, _, _, rfl, hS.sel (by repeat (first | exact Sel.nil | (refine Sel.cons (by repeat (exact Del.head)) ?_)))⟩
theorem c_kinds6 (w0 : World) (A : Option Addr) (c : Nat) (l : List (List Int)) (hr : Rd w0 A 21 l.length (arows l)) (hv : AOks l) (hn : l.length ≤ 40000000) (r : Nat) (hr8 : r < 256) (x : List Int) (hx : OpOk x) (g1 g3 : Nat) (hb1 : Rd w0 (some ⟨g1, 0, none⟩) 21 1 (MA (.slice A l.length c) r x).toList) (hb3 : Rd w0 (some ⟨g3, 0, none⟩) 19 1 (OA x).toList)  :
    CallP Tryz.prog 64 #[.pointer (some ⟨g1, 0, none⟩), .pointer (some ⟨g3, 0, none⟩)] w0 (fun v w' => clE l r (kn x 1) (itmS (normP l) (kn x 1)) = 0 ∧ ∃ (O : Option Addr) (oc : Nat), v = .slice O (clP l r (kn x 1) (itmS (normP l) (kn x 1))).length oc ∧ St NoB w0 w' [.vec O oc 66 21 (clP l r (kn x 1) (itmS (normP l) (kn x 1))).length (arows (clP l r (kn x 1) (itmS (normP l) (kn x 1))))]) (fun v w' => ¬ clE l r (kn x 1) (itmS (normP l) (kn x 1)) = 0 ∧ v = rfs (clE l r (kn x 1) (itmS (normP l) (kn x 1))) ∧ Ext w0 w') := by
 have hS := St.rd3 (S := NoB) hr hb1 hb3
 have hxl := hx.len
 have hil := op_il hxl
 have htl := op_tl hxl
 have hk1 := hx.k1
 have hk2 := hx.k2
 have hm1 := hx.m1
 have hm2 := hx.m2
 have hbi := hx.item
 have hbt := hx.text
 have hcx := hx.b1
 have hml := ma_len (s := .slice A l.length c) (r := r) hxl
 have hol := op_llen hxl
 have hqb := qty_b hv (by omega) (kn x 1) (kitem x)
 have htb := tot_b hv (by omega) (kn x 1) (kitem x)
 have hno := (norm_sta hv).ok
 refine z_enter (l := [.pointer (some ⟨g1, 0, none⟩), .pointer (some ⟨g3, 0, none⟩), undef, undef, undef, undef, undef, undef, undef, undef, undef, undef, undef, undef, undef, undef, undef, undef, undef, undef, undef, undef]) Tryz.func64 rfl (by simp only [Tryz.ntmps64, List.size_toArray, List.length_cons, List.length_nil, Nat.reduceAdd, Nat.reduceSub, Array.replicate_succ, Array.replicate_zero, List.push_toArray, List.append_toArray, List.nil_append, List.cons_append]) ?_
 refine z_seq fun K1 hK1 => ?_
 refine z_region ?_
 refine s_go s_assign ?_
 try simp only [nY]
 refine z_nilf ?_
 refine hK1 _ _ ?_
 refine z_seq fun K2 hK2 => ?_
 refine z_seq fun K3 hK3 => ?_
 refine z_region ?_
 refine s_go (m_fieldAddr U78 (hi := ti22)) ?_
 try simp only [nY, fY, gY]
 refine s_go (m_load_bx U22 (hS := hS) (hv := ma_l0)) ?_
 try simp only [nY, gY]
 refine s_go (m_fieldAddr U27 (hi := ti23)) ?_
 try simp only [nY, fY, gY]
 refine s_go (m_load_bx U23 (hS := hS) (hv := op_c hx)) ?_
 try simp only [nY, gY]
 refine s_call en65 ?_
 try simp only [nY, mY]
 refine CallR.mono (c_tagsItems _ A c l (hS.hasRd (by repeat (exact Has.head))) hv (by omega) (kn x 1) hcx) ?_
 rintro _ w1 ⟨Ot, ot, rfl, hC1⟩
 replace hS := hS.call hC1
 simp only [List.cons_append, List.nil_append] at hS
 replace hS := hS.vec_rd (by exact Upd.head)
 have hio := itm_ok hno (kn x 1)
 have hilen := itm_len (normP l) (kn x 1)
 have hnb := norm_len l
 obtain ⟨t, ht⟩ : ∃ t, itmS (normP l) (kn x 1) = t := ⟨_, rfl⟩
 rw [ht] at hS hio hilen ⊢
 have hn8 := nrows_len t
 have hi8 : ∀ y ∈ t, y.length = 8 := fun y hy => (hio y hy).1
 try simp only [nY]
 refine s_go (s_len_sl U89) ?_
 try simp only [nY]
 refine s_go s_move ?_
 try simp only [nY]
 refine z_nilf ?_
 refine hK3 _ _ ?_
 refine z_block ?_
 refine z_loop [2, 4, 11, 12, 13, 14, 15, 16, 17, 18, 19, 20] (fun m f w => ∃ (k : Nat) (O : Option Addr) (oc : Nat), k ≤ t.length ∧ m = t.length - k ∧ f 11 = .int .i64 (k : Int) ∧ f 2 = .slice O (clP l r (kn x 1) (t.take k)).length oc ∧ clE l r (kn x 1) (t.take k) = 0 ∧ St NoB w0 w [.vec O oc 66 21 (clP l r (kn x 1) (t.take k)).length (arows (clP l r (kn x 1) (t.take k))), .rd Ot 8 t.length (nrows t), .rd A 21 (l).length (arows (l)), .rd (some ⟨g1, 0, none⟩) 21 1 (MA (.slice A l.length c) r x).toList, .rd (some ⟨g3, 0, none⟩) 19 1 (OA x).toList]) (t.length) ?init1 (fun m1 f1 wl1 hI => ?_)
 case init1 =>
  try simp only [nY]
  replace hS := hS.nil_vec 66 21
  exact ⟨0, none, 0, by omega, rfl, rfl, rfl, rfl, hS.sel (by repeat (first | exact Sel.nil | (refine Sel.cons (by repeat (exact Del.head)) ?_)))⟩
 obtain ⟨k, O, oc, hk0, hmk, hf11, hf2, hcl, hS⟩ := hI
 simp only [clob, List.foldl, n3, n4, hf11, hf2]
 obtain ⟨y, hy⟩ : ∃ y, t.getD k [] = y := ⟨_, rfl⟩
 have hcall := clP_all (ns := t.take k) hv hn hr8 hcx (fun y hy => hio y (List.mem_of_mem_take hy))
 have htk : (t.take k).length = k := by rw [List.length_take]; omega
 rw [htk] at hcall
 refine z_seq fun K4 hK4 => ?_
 refine z_region ?_
 refine s_go s_lss ?_
 try simp only [nY]
 refine z_nilf ?_
 refine hK4 _ _ ?_
 refine z_seq fun K5 hK5 => ?_
 refine z_cond (ht := fun hc1 => ?_) (hf := fun hc1 => ?_)
 ·
  try simp only [dY] at hc1
  have hyo : y.length = 8 ∧ Byt y := by rw [← hy]; exact hio _ (getD_mem' (by omega))
  have hst : clP l r (kn x 1) (t.take (k + 1)) = normP (clP l r (kn x 1) (t.take k) ++ rmP l r (kn x 1) y) := by rw [take_snoc (by omega), hy, clP_snoc]
  refine z_skip ?_
  refine hK5 _ _ ?_
  refine z_seq fun K6 hK6 => ?_
  refine z_block ?_
  refine z_seq fun K7 hK7 => ?_
  refine z_region ?_
  refine s_go (m_indexAddr_rd U89 ti25 (hS := hS)) ?_
  try simp only [nY, Nat.mul_one, Nat.zero_add, Int.toNat_natCast, Int.reduceToNat]
  refine s_go (m_loada_rd U25 (hi := ti25) (hS := hS) (hfit := by rw [nrows_len]; omega)) ?_
  try simp only [nY, gY]
  rw [nrow_get (by omega) hi8, hy]
  refine m_alloc ti25 hS (fun w2 g2 hS => ?_)
  try simp only [nY, aY] at hS ⊢
  obtain ⟨gy, hgy⟩ : ∃ z, z = g2 := ⟨_, rfl⟩
  rw [← hgy] at hS ⊢
  refine m_store_obj ti25 (hS := hS) (hc := by exact splice_whole (by exact (ic_size _ _).trans hyo.1)) (h := fun w3 hS => ?_)
  try simp only [nY, aY] at hS ⊢
  refine z_nilf ?_
  refine hK7 _ _ ?_
  refine z_region ?_
  refine s_go s_move ?_
  try simp only [nY]
  refine s_go (m_loada_bx U78 (hi := ti78) (hS := hS) (hfit := by omega)) ?_
  try simp only [nY, gY]
  try simp only [Nat.sub_zero]
  rw [ma_all hxl]
  refine s_go (m_load_row U25 (hi := ti25) (hS := hS) (hfit := by rw [ic_size, hyo.1])) ?_
  try simp only [nY, gY]
  refine zp_call en59 ?_
  try simp only [nY, mY]
  refine CallP.mono (c_without _ A c l (hS.hasA) hv hn r hr8 x hx y hyo.1 hyo.2) ?zr4 ?zp4
  case zp4 =>
   rintro _ w4 ⟨hg4, rfl, hE4⟩
   have hca := clE_at (by omega) hy hcl hg4
   exact ⟨rfl, by rw [ht, hca]; exact hg4, by rw [ht, hca], (hS.ext hE4).ext_of⟩
  rintro _ w4 ⟨hg4, O4, oc4, rfl, hC4⟩
  replace hS := hS.call hC4
  simp only [List.cons_append, List.nil_append] at hS
  have hcl2 := clE_step (by omega) hy hcl hg4
  have hrl := rmP_len l r (kn x 1) y
  have hro := rmP_ok hv hn hr8 hcx hyo.1 hyo.2
  try simp only [nY]
  refine s_call en28 ?_
  try simp only [nY, mY]
  refine CallR.mono (c_latJoin _ O oc (clP l r (kn x 1) (t.take k)) (hS.vecA) hcall.1 _ _ (rmP l r (kn x 1) y) (hS.vecRd (by repeat (exact Has.head))) hro (by omega)) ?_
  rintro _ w5 ⟨Dj, dj, rfl, hC5⟩
  replace hS := hS.call hC5
  simp only [List.cons_append, List.nil_append] at hS
  try simp only [nY]
  refine s_go s_assign ?_
  try simp only [nY]
  refine z_nilf ?_
  refine hK6 _ _ ?_
  refine z_region ?_
  refine s_go (s_add (hc := by exact wr_i64 (by omega) (by omega))) ?_
  try simp only [nY]
  refine s_go s_move ?_
  try simp only [nY]
  refine z_nilf ?_
  refine loop_back_y (m' := t.length - (k + 1)) (by simp only [clob, List.foldl, nZ]) ?_ ?_
  · try simp only [nY]
    exact ⟨k + 1, _, _, by omega, by omega, by rfl, by rw [hst], hcl2, by rw [hst]; exact hS.selA⟩
  · omega
 try simp only [dY] at hc1
 obtain rfl : k = t.length := by omega
 rw [List.take_of_length_le (Nat.le_refl _)] at hS hcl ⊢
 refine z_exit (look_here ?_)
 refine hK2 _ _ ?_
 refine z_seq fun K8 hK8 => ?_
 refine z_region ?_
 refine s_go s_move ?_
 try simp only [nY]
 refine s_go s_assign ?_
 try simp only [nY]
 refine z_nilf ?_
 refine hK8 _ _ ?_
 refine z_ret ?_
 refine rz ?_
 refine r_tmp rfl ?_
 rw [ht]
 exact ⟨hcl, _, _, rfl, hS.sel (by repeat (first | exact Sel.nil | (refine Sel.cons (by repeat (exact Del.head)) ?_)))⟩
theorem c_kinds (s : Value) (r : Nat) (x : List Int) (hx : OpOk x)  (w0 : World) :
    CallR Tryz.prog 35 #[.agg (MA s r x)] w0 fun v w' => ∃ g1 g3 : Nat, v = .agg #[.func (.func 53) #[] #[], .func (.func 54) #[] #[.pointer (some ⟨g1, 0, none⟩), .pointer (some ⟨g3, 0, none⟩)], .func (.func 58) #[] #[.pointer (some ⟨g1, 0, none⟩), .pointer (some ⟨g3, 0, none⟩)], .func (.func 60) #[] #[.pointer (some ⟨g3, 0, none⟩), .pointer (some ⟨g1, 0, none⟩)], .func (.func 62) #[] #[.pointer (some ⟨g1, 0, none⟩), .pointer (some ⟨g3, 0, none⟩)], .func (.func 64) #[] #[.pointer (some ⟨g1, 0, none⟩), .pointer (some ⟨g3, 0, none⟩)]] ∧ St NoB w0 w' [.obj g1 (.cells (MA s r x) 78 (0, 0)), .obj g3 (.cells (OA x) 27 (0, 0))] := by
 have hS : St NoB w0 w0 [] := St.start w0
 have hxl := hx.len
 have hil := op_il hxl
 have htl := op_tl hxl
 have hk1 := hx.k1
 have hk2 := hx.k2
 have hm1 := hx.m1
 have hm2 := hx.m2
 have hbi := hx.item
 have hbt := hx.text
 have hcx := hx.b1
 have hms := ma_size (s := s) (r := r) hxl
 have hos := op_size hxl
 refine c_enter (l := [.agg (MA s r x), undef, undef, undef, undef, undef, undef, undef, undef, undef, undef, undef]) Tryz.func35 rfl (by simp only [Tryz.ntmps35, List.size_toArray, List.length_cons, List.length_nil, Nat.reduceAdd, Nat.reduceSub, Array.replicate_succ, Array.replicate_zero, List.push_toArray, List.append_toArray, List.nil_append, List.cons_append]) ?_
 refine x_seq fun K1 hK1 => x_region ?_
 refine m_box hS (fun w1 g1 hS => ?_)
 try simp only [nY, aY] at hS ⊢
 obtain ⟨ga, hga⟩ : ∃ z, z = g1 := ⟨_, rfl⟩
 rw [← hga] at hS ⊢
 refine m_alloc ti76 hS (fun w2 g2 hS => ?_)
 try simp only [nY, aY] at hS ⊢
 refine x_nil (hK1 _ _ ?_)
 refine x_seq fun K2 hK2 => x_region ?_
 refine s_go (m_fieldAddr U78 (hi := ti27)) ?_
 try simp only [nY, fY, gY]
 refine s_go (m_loada_obj U27 (hi := ti27) (hS := hS) (hfit := by omega)) ?_
 try simp only [nY, gY]
 rw [ma_op hxl]
 refine m_alloc ti27 hS (fun w3 g3 hS => ?_)
 try simp only [nY, aY] at hS ⊢
 replace hS : St NoB w0 w3 (.obj g3 (.cells (OA (List.replicate 19 0)) 27 (0, 0)) :: _) := hS
 obtain ⟨gb, hgb⟩ : ∃ z, z = g3 := ⟨_, rfl⟩
 rw [← hgb] at hS ⊢
 refine m_store_obj ti27 (hS := hS) (hc := by exact zi_whole (by rfl) (by exact hxl)) (hv := by (show (zi _ _).toArray.size = _; rw [zi_size (by omega)]; rfl)) (hfit := by (simp only [ic_size, List.length_map, List.size_toArray]; decide)) (h1 := by exact zi_one _ _) (h := fun w4 hS => ?_)
 try simp only [nY, aY] at hS ⊢
 refine x_nil (hK2 _ _ ?_)
 refine x_seq fun K3 hK3 => x_region ?_
 refine s_go s_makeFunc ?_
 try simp only [nY, List.map_toArray, List.map_cons, List.map_nil]
 refine s_go s_makeFunc ?_
 try simp only [nY, List.map_toArray, List.map_cons, List.map_nil]
 refine s_go s_makeFunc ?_
 try simp only [nY, List.map_toArray, List.map_cons, List.map_nil]
 refine s_go s_makeFunc ?_
 try simp only [nY, List.map_toArray, List.map_cons, List.map_nil]
 refine s_go s_makeFunc ?_
 try simp only [nY, List.map_toArray, List.map_cons, List.map_nil]
 refine s_go (s_build_arr (cells := #[_, _, _, _, _, _]) U76 ti76 ti75 (hc := by simp only [List.map_toArray, List.map_cons, List.map_nil, nY, List.toList_toArray]; (repeat (refine fill_cons rfl rfl (Nat.le_of_ble_eq_true rfl) ?_)); rfl)) ?_
 try simp only [nY]
 refine m_store_obj ti76 (hS := hS) (hc := by (exact splice_whole (by (simp [opv, Value.cells, *]; done)))) (hv := by rfl) (hfit := by (simp only [ic_size, List.length_map, List.size_toArray]; decide)) (h1 := by simp [opv, Value.cells, Value.oneCell']) (h := fun w5 hS => ?_)
 try simp only [nY, aY] at hS ⊢
 refine x_nil (hK3 _ _ ?_)
 refine x_ret ?_
 refine r_cell_agg rfl U76 ti76 (hS := hS) (hfit := by rfl) (hR := ?_)
 exact ⟨_, _, rfl, hS.selA⟩
end Go.Proofs.YtpekghaodmeemaaGreat
set_option linter.unusedSimpArgs false
set_option linter.unusedVariables false
set_option maxHeartbeats 1000000
set_option maxRecDepth 100000
namespace Go.Proofs.YtpekghaodmeemaaGreat
open Go.RowKit

section
variable {P : Program} {fn : Func} {t u : Nat} {T U : TypeId} {l : List Value} {w w0 : World} {S : Nat → Prop} {L : List Res} {R : Value → World → Prop} {dsc dsc2 : TypeDesc} {g g2 : Nat} {cs cs2 : Array Value} {ct ct2 : TypeId} {f f2 : Nat × Nat} {x y : Value}
theorem r_cell_cell_oo (h : fn.results = #[.cell t T, .cell u U]) (hu : P.underlying T = some dsc) (hu2 : P.underlying U = some dsc2) (hd : isAggD dsc = false := by rfl) (hd2 : isAggD dsc2 = false := by rfl) (hp : l.getD t undef = .pointer (some ⟨g, 0, none⟩) := by rfl) (hp2 : l.getD u undef = .pointer (some ⟨g2, 0, none⟩) := by rfl) (hS : St S w0 w L) (hm : Has L (.obj g (.cells cs ct f)) := by repeat (first | exact Has.head | apply Has.tail)) (hm2 : Has L (.obj g2 (.cells cs2 ct2 f2)) := by repeat (first | exact Has.head | apply Has.tail)) (hv : cs[0]? = some x := by rfl) (hv2 : cs2[0]? = some y := by rfl) (hR : R (.tuple #[x, y]) w) : Rt P fn R (fr l) w :=
  r_cell_cell h hp (obj_loads_one hu hd hS hm hv) hp2 (obj_loads_one hu2 hd2 hS hm2 hv2) hR
end
theorem ok_one {a : List Int} (h : AtomOk a) : AOks [a] := fun b hb => by rw [List.mem_singleton] at hb; rw [hb]; exact h
end Go.Proofs.YtpekghaodmeemaaGreat
set_option linter.unusedSimpArgs false
set_option linter.unusedVariables false
set_option maxHeartbeats 400000
set_option maxRecDepth 100000
namespace Go.Proofs.YtpekghaodmeemaaGreat
open Go.RowKit

theorem meth20 : Tryz.prog.underlying 20 = some (.interface (Tryz.prog.methodsAt 20)) := U20.trans (by kernel_rfl)
abbrev pdd (g : Nat) : Value := .pointer (some ⟨g, 0, none⟩)
abbrev ddD (gd ge : Nat) : Deferred := { target := .fn (.func 32) #[pdd gd, pdd ge], args := #[] }
abbrev DM (gd ge : Nat) (cd : Value) (ce : Int) : List Res := [.obj gd (.cells #[cd] 22 (0, 0)), .obj ge (.cells #[.int .i64 ce] 39 (0, 0))]
theorem modeEq {c : Frame} {u : FrameMode} (h : c.mode = u) : c = { c with mode := u } := by cases c; simp_all

theorem do1_ret (gd ge : Nat) (w0 : World) : CallsD Tryz.prog 32 #[pdd gd, pdd ge] .returning w0 fun e u' w' => u' = .returning ∧ ∃ v, e = .returned v ∧ (v = .tuple #[] ∧ Ext w0 w') := by
 have hS : St NoB w0 w0 [] := St.start w0
 refine callsD_of_wpS Tryz.func32 rfl fun c₀ cs hu => ?_
 rw [show ({ tmps := #[pdd gd, pdd ge] ++ Array.replicate (Tryz.f32.ntmps - (#[pdd gd, pdd ge] : Array Value).size) undef, defers := [] } : Act) = frd [] [pdd gd, pdd ge, undef, undef, undef, undef, undef, undef, undef, undef, undef, undef, undef, undef, undef, undef, undef, undef] from by simp only [Tryz.ntmps32, List.size_toArray, List.length_cons, List.length_nil, Nat.reduceAdd, Nat.reduceSub, Array.replicate_succ, Array.replicate_zero, List.push_toArray, List.append_toArray, List.nil_append, List.cons_append, frd]]
 refine wpS_seq ?_
 refine rec_none (by simp [recoverD, hu]) (Nat.le_of_ble_eq_true rfl) ?_
 simp only [n3, n4]
 rw [modeEq hu]
 refine s_body (R := fun v w' => v = .tuple #[] ∧ Ext w0 w') ?_
 refine z_seq fun K1 hK1 => ?_
 refine z_region ?_
 refine s_go s_move ?_
 try simp only [nY]
 refine s_go (s_neq_nils meth20) ?_
 try simp only [n3, n4]
 refine z_nilf ?_
 refine hK1 _ _ ?_
 refine z_cond_f (h := ?_)
 refine z_skip ?_
 refine rz ?_
 refine r_none rfl ?_
 exact ⟨rfl, hS.ext_of⟩
theorem do1_pan (gd ge : Nat) (w0 : World) (cd : Value) (ce e : Int) (hM : St (OwnB (DM gd ge cd ce)) w0 w0 (DM gd ge cd ce)) : CallsD Tryz.prog 32 #[pdd gd, pdd ge] (.panicking [{ v := rfs e, recovered := false }]) w0 fun en u' w' => u' = .panicking [{ v := rfs e, recovered := true }] ∧ ∃ v, en = .returned v ∧ (v = .tuple #[] ∧ St (OwnB (DM gd ge cd ce)) w0 w' (DM gd ge (.slice none 0 0) e)) := by
 have hS := hM
 refine callsD_of_wpS Tryz.func32 rfl fun c₀ cs hu => ?_
 rw [show ({ tmps := #[pdd gd, pdd ge] ++ Array.replicate (Tryz.f32.ntmps - (#[pdd gd, pdd ge] : Array Value).size) undef, defers := [] } : Act) = frd [] [pdd gd, pdd ge, undef, undef, undef, undef, undef, undef, undef, undef, undef, undef, undef, undef, undef, undef, undef, undef] from by simp only [Tryz.ntmps32, List.size_toArray, List.length_cons, List.length_nil, Nat.reduceAdd, Nat.reduceSub, Array.replicate_succ, Array.replicate_zero, List.push_toArray, List.append_toArray, List.nil_append, List.cons_append, frd]]
 refine wpS_seq ?_
 refine rec_some (v := rfs e) (cs' := { c₀ with mode := .panicking [{ v := rfs e, recovered := true }] } :: cs) (by simp [recoverD, hu]) (Nat.le_of_ble_eq_true rfl) ?_
 simp only [n3, n4]
 refine s_body (R := fun v w' => v = .tuple #[] ∧ St (OwnB (DM gd ge cd ce)) w0 w' (DM gd ge (.slice none 0 0) e)) ?_
 refine z_seq fun K1 hK1 => ?_
 refine z_region ?_
 refine s_go s_move ?_
 try simp only [nY]
 refine s_go (s_neq_held meth20 (by rfl)) ?_
 try simp only [n3, n4]
 refine z_nilf ?_
 refine hK1 _ _ ?_
 refine z_cond_t (h := ?_)
 refine z_seq fun K2 hK2 => ?_
 refine z_region ?_
 refine s_go s_move ?_
 try simp only [nY]
 refine s_go (s_assert_ok U71) ?_
 try simp only [nY]
 refine s_go s_move ?_
 try simp only [nY]
 refine s_go (s_extract (hv := rfl)) ?_
 try simp only [gY]
 try simp only [nY]
 refine s_go (s_extract (hv := rfl)) ?_
 try simp only [gY]
 try simp only [nY]
 refine m_alloc ti71 hS (fun w1 g1 hS => ?_)
 try simp only [nY, aY] at hS ⊢
 obtain ⟨gr, hgr⟩ : ∃ z, z = g1 := ⟨_, rfl⟩
 rw [← hgr] at hS ⊢
 refine m_store_obj ti71 (hS := hS) (h := fun w2 hS => ?_)
 try simp only [nY, aY] at hS ⊢
 refine s_go s_assign ?_
 try simp only [nY]
 refine z_nilf ?_
 refine hK2 _ _ ?_
 refine z_seq fun K3 hK3 => ?_
 refine z_seq fun K4 hK4 => ?_
 refine z_region ?_
 refine s_go s_move ?_
 try simp only [nY]
 refine s_go s_not ?_
 try simp only [nY]
 refine z_nilf ?_
 refine hK4 _ _ ?_
 refine z_cond_f (h := ?_)
 refine z_skip ?_
 refine hK3 _ _ ?_
 refine z_mixed_c (Lc := [.obj gr (.cells #[.int .i64 e] 71 (0, 0))]) [3] [16, 17] (fun f w => St (OwnB (DM gd ge cd ce)) w0 w (DM gd ge (.slice none 0 0) e)) (by kernel_rfl) hS (fun w3 hS => ?mixpre501) ?mixrest501
 case mixpre501 =>
  simp only [List.length_cons, List.length_nil, Nat.reduceAdd, Nat.reduceSub]
  refine zny_go (lo := 0) (i := 0) (PnOK.no) (by rfl) (by decide) (by decide +kernel) (by decide +kernel) (by unfold noLate; decide) (go_yields w_none (fun w hS => m_fieldAddr U71 (hi := ti39))) ?_
  try simp only [nY, fY, gY]
  refine zny_go (lo := 0) (i := 1) (PnOK.no) (by rfl) (by decide) (by decide +kernel) (by decide +kernel) (by unfold noLate; decide) (go_yields w_none (fun w hS => m_load_obj U39 (hS := hS))) ?_
  try simp only [nY, gY]
  refine zny_step [2] (by kernel_rfl) (by decide) (fun w4 hE => ⟨fun _ => (hS.ext hE).sel (by repeat (first | exact Sel.nil | (refine Sel.cons (by repeat (exact Del.head)) ?_))), ?_⟩)
  replace hS := hS.ext hE
  intro i hi
  simp only [List.mem_cons, List.not_mem_nil, or_false] at hi
  subst hi
  refine zny_op (by rfl) ?_
  refine m_store_obj ti22 (hS := hS) (h := fun w5 hS => ?_)
  try simp only [nY, aY] at hS ⊢
  refine z_nil ?_
  refine zny_step [3] (by kernel_rfl) (by decide) (fun w6 hE => ⟨fun _ => (hS.ext hE).sel (by repeat (first | exact Sel.nil | (refine Sel.cons (by repeat (exact Del.head)) ?_))), ?_⟩)
  replace hS := hS.ext hE
  intro i hi
  simp only [List.mem_cons, List.not_mem_nil, or_false] at hi
  subst hi
  refine zny_op (by rfl) ?_
  refine m_store_obj ti39 (hS := hS) (h := fun w7 hS => ?_)
  try simp only [nY, aY] at hS ⊢
  refine z_nil ?_
  refine zny_nil (by kernel_rfl) (fun w8 hE => ?_)
  replace hS := hS.ext hE
  refine ⟨fun hl => absurd (hl 3 (by decide)) (by decide +kernel), ?_⟩
  refine mix_leaf (by simp only [clob, List.foldl, nZ]) ?_
  try simp only [n1, n2]
  exact hS.selA
 intro fm1 w9 hM
 replace hS := hM
 simp only [clob, List.foldl, n3, n4]
 refine rz ?_
 refine r_none rfl ?_
 exact ⟨rfl, hS.sel (by repeat (first | exact Sel.nil | (refine Sel.cons (by repeat (exact Del.head)) ?_)))⟩
end Go.Proofs.YtpekghaodmeemaaGreat
set_option linter.unusedSimpArgs false
set_option linter.unusedVariables false
set_option maxHeartbeats 400000
set_option maxRecDepth 100000
namespace Go.Proofs.YtpekghaodmeemaaGreat
open Go.RowKit

/-- which closure makes a kind, and what it holds -/
def kid (k : Int) : Nat := if k = 1 then 54 else if k = 2 then 58 else if k = 3 then 60 else if k = 4 then 62 else 64
def kcap (k : Int) (a b : Nat) : Array Value := if k = 3 then #[pdd b, pdd a] else #[pdd a, pdd b]
def kfs (a b : Nat) : Array Value := #[.func (.func 53) #[] #[], .func (.func 54) #[] #[.pointer (some ⟨a, 0, none⟩), .pointer (some ⟨b, 0, none⟩)], .func (.func 58) #[] #[.pointer (some ⟨a, 0, none⟩), .pointer (some ⟨b, 0, none⟩)], .func (.func 60) #[] #[.pointer (some ⟨b, 0, none⟩), .pointer (some ⟨a, 0, none⟩)], .func (.func 62) #[] #[.pointer (some ⟨a, 0, none⟩), .pointer (some ⟨b, 0, none⟩)], .func (.func 64) #[] #[.pointer (some ⟨a, 0, none⟩), .pointer (some ⟨b, 0, none⟩)]]
theorem five {k : Int} (h : 1 ≤ k ∧ k ≤ 5) : k = 1 ∨ k = 2 ∨ k = 3 ∨ k = 4 ∨ k = 5 := by omega
theorem kf_en {k : Int} (h : 1 ≤ k ∧ k ≤ 5) : Enters Tryz.prog (kid k) := by
  rcases five h with rfl | rfl | rfl | rfl | rfl
  · exact en54
  · exact en58
  · exact en60
  · exact en62
  · exact en64
theorem kf_get {k : Int} (h : 1 ≤ k ∧ k ≤ 5) {a b : Nat} : (kfs a b)[k.toNat * 1]? = some (.func (.func (kid k)) #[] (kcap k a b)) := by
  rcases five h with rfl | rfl | rfl | rfl | rfl <;> rfl
theorem c_kindAny (w0 : World) (A : Option Addr) (c : Nat) (l : List (List Int)) (hr : Rd w0 A 21 l.length (arows l)) (hv : AOks l) (hn : l.length ≤ 40000000) (r : Nat) (hr8 : r < 256) (x : List Int) (hx : OpOk x) (hK : 1 ≤ opK x ∧ opK x ≤ 5) (hON : (opK x = 1 ∨ opK x = 3) → 0 ≤ opN x ∧ opN x ≤ 4294967295)
    (g1 g3 : Nat) (hb1 : Rd w0 (some ⟨g1, 0, none⟩) 21 1 (MA (.slice A l.length c) r x).toList) (hb3 : Rd w0 (some ⟨g3, 0, none⟩) 19 1 (OA x).toList) :
    CallP Tryz.prog (kid (opK x)) (kcap (opK x) g1 g3) w0 (fun v w' => mkE l r x = 0 ∧ ∃ (O : Option Addr) (oc : Nat), v = .slice O (mkP l r x).length oc ∧ St NoB w0 w' [.vec O oc 66 21 (mkP l r x).length (arows (mkP l r x))]) (fun v w' => ¬ mkE l r x = 0 ∧ v = rfs (mkE l r x) ∧ Ext w0 w') := by
  rcases five hK with h | h | h | h | h
  · rw [show mkE l r x = adE l r x by rw [mkE, if_pos h], show mkP l r x = adP l r x by rw [mkP, if_pos h], h]
    exact c_kinds2 w0 A c l hr hv hn r hr8 x hx g1 g3 hb1 hb3
  · rw [show mkE l r x = rmE l r (kn x 1) (kitem x) by rw [mkE, if_neg (by omega), if_pos h], show mkP l r x = rmP l r (kn x 1) (kitem x) by rw [mkP, if_neg (by omega), if_pos h], h]
    exact c_kinds3 w0 A c l hr hv hn r hr8 x hx g1 g3 hb1 hb3
  · rw [show mkE l r x = stE l r x by rw [mkE, if_neg (by omega), if_neg (by omega), if_pos h], show mkP l r x = stP l r x by rw [mkP, if_neg (by omega), if_neg (by omega), if_pos h], h]
    exact c_kinds4 w0 A c l hr hv hn r hr8 x hx g1 g3 hb1 hb3 (hON (.inr h))
  · rw [show mkE l r x = noteE l r (opT x) (kn x 1) by rw [mkE, if_neg (by omega), if_neg (by omega), if_neg (by omega), if_pos h], show mkP l r x = noteP l r (opT x) (kn x 1) by rw [mkP, if_neg (by omega), if_neg (by omega), if_neg (by omega), if_pos h], h]
    exact c_kinds5 w0 A c l hr hv hn r hr8 x hx g1 g3 hb1 hb3
  · rw [show mkE l r x = clE l r (kn x 1) (itmS (normP l) (kn x 1)) by rw [mkE, if_neg (by omega), if_neg (by omega), if_neg (by omega), if_neg (by omega)], show mkP l r x = clP l r (kn x 1) (itmS (normP l) (kn x 1)) by rw [mkP, if_neg (by omega), if_neg (by omega), if_neg (by omega), if_neg (by omega)], h]
    exact c_kinds6 w0 A c l hr hv hn r hr8 x hx g1 g3 hb1 hb3
def dE (s : List (List Int)) (m : Int) (r : Nat) (x : List Int) : Int :=
  if ¬ opE x = 0 then opE x else if 16 ≤ r then 1 else if (opK x = 2 ∨ opK x = 3) ∧ qtyB s (kn x 1) (kitem x) = false then 6 else
  if ¬ mkE s r x = 0 then mkE s r x else if max m (s.length : Int) < ((normP (s ++ mkP s r x)).length : Int) then 7 else 0
def dP (s : List (List Int)) (m : Int) (r : Nat) (x : List Int) : List (List Int) := if dE s m r x = 0 then mkP s r x else []
section
variable {s : List (List Int)} {m : Int} {r : Nat} {x : List Int}
theorem dE_e (h : ¬ opE x = 0) : dE s m r x = opE x := by rw [dE, if_pos h]
theorem dE_r (h : opE x = 0) (hr : 16 ≤ r) : dE s m r x = 1 := by rw [dE, if_neg (fun q => q h), if_pos hr]
theorem dE_n (h : opE x = 0) (hr : ¬ 16 ≤ r) (hp : (opK x = 2 ∨ opK x = 3) ∧ qtyB s (kn x 1) (kitem x) = false) : dE s m r x = 6 := by rw [dE, if_neg (fun q => q h), if_neg hr, if_pos hp]
theorem dE_m (h : opE x = 0) (hr : ¬ 16 ≤ r) (hp : ¬ ((opK x = 2 ∨ opK x = 3) ∧ qtyB s (kn x 1) (kitem x) = false)) (hm : ¬ mkE s r x = 0) : dE s m r x = mkE s r x := by rw [dE, if_neg (fun q => q h), if_neg hr, if_neg hp, if_pos hm]
theorem dE_f (h : opE x = 0) (hr : ¬ 16 ≤ r) (hp : ¬ ((opK x = 2 ∨ opK x = 3) ∧ qtyB s (kn x 1) (kitem x) = false)) (hm : mkE s r x = 0) (hf : max m (s.length : Int) < ((normP (s ++ mkP s r x)).length : Int)) : dE s m r x = 7 := by rw [dE, if_neg (fun q => q h), if_neg hr, if_neg hp, if_neg (fun q => q hm), if_pos hf]
theorem dE_0 (h : opE x = 0) (hr : ¬ 16 ≤ r) (hp : ¬ ((opK x = 2 ∨ opK x = 3) ∧ qtyB s (kn x 1) (kitem x) = false)) (hm : mkE s r x = 0) (hf : ¬ max m (s.length : Int) < ((normP (s ++ mkP s r x)).length : Int)) : dE s m r x = 0 := by rw [dE, if_neg (fun q => q h), if_neg hr, if_neg hp, if_neg (fun q => q hm), if_neg hf]
theorem dP_no (h : ¬ dE s m r x = 0) : dP s m r x = [] := by rw [dP, if_neg h]
theorem dP_yes (h : dE s m r x = 0) : dP s m r x = mkP s r x := by rw [dP, if_pos h]
theorem noteP_le1 (l : List (List Int)) (r : Nat) (tx : List Int) (c : Nat) : (noteP l r tx c).length ≤ 1 := by unfold noteP; split <;> simp
theorem noteP_aok {l : List (List Int)} {r : Nat} {tx : List Int} {c : Nat} (hr : r < 256) (hc : c < 65536) (h8 : tx.length = 8) (hb : Byt tx) : AOks (noteP l r tx c) := by
  unfold noteP; split
  · intro a ha; rw [List.mem_singleton] at ha; rw [ha]; exact noteA_ok hr hc h8 hb
  · exact AOks.nil
theorem mkP_all (hv : AOks s) (hn : s.length ≤ 40000000) (hr : r < 256) (hx : OpOk x) (hON : (opK x = 1 ∨ opK x = 3) → 0 ≤ opN x ∧ opN x ≤ 4294967295) : AOks (mkP s r x) ∧ (mkP s r x).length ≤ 2 * s.length + 2 := by
  have hil := op_il hx.len
  have htl := op_tl hx.len
  have hb := hx.item
  have hc := hx.b1
  have hm2 := hx.m2
  have htb := tot_b hv (by omega) (kn x 1) (kitem x)
  unfold mkP
  split
  · have h1 := addP_aok (c := kn x 1) hv hr hc hil hb
    have h2 := turnP_ok (n := opN x) hv (.inl rfl) hr hc hil hb hm2
    refine ⟨(norm_sta (h1.app h2)).ok, ?_⟩
    have h3 := norm_len (addP s r (kn x 1) (kitem x) ++ turnP s 2 r (kn x 1) (kitem x) (opN x))
    rw [List.length_append] at h3
    have h4 := addP_len s r (kn x 1) (kitem x)
    have h5 := turnP_len s 2 r (kn x 1) (kitem x) (opN x)
    unfold adP; omega
  · split
    · have h1 := rmP_len s r (kn x 1) (kitem x)
      exact ⟨rmP_ok hv hn hr hc hil hb, by omega⟩
    · split
      · next h => 
        have h3 := hON (.inr h)
        have h1 := turnP_len s (shiftS (stN s x)) r (kn x 1) (kitem x) (shiftN (stN s x))
        have h2 := shiftN_le (n := stN s x) (by unfold stN; omega)
        exact ⟨turnP_ok hv (shiftS_or _) hr hc hil hb h2.1, by unfold stP; omega⟩
      · split
        · have h1 := noteP_le1 s r (opT x) (kn x 1)
          exact ⟨noteP_aok hr hc htl hx.text, by omega⟩
        · have h1 := clP_all (r := r) (c := kn x 1) hv hn hr hc (itm_ok (norm_sta hv).ok (kn x 1))
          have h2 := itm_len (normP s) (kn x 1)
          have h3 := norm_len s
          exact ⟨h1.1, by omega⟩
end
/-- what is known where it is refused -/
def DPN (s : List (List Int)) (m : Int) (r : Nat) (x : List Int) (w0 : World) (a : Act) (v : Value) (w : World) : Prop :=
  ∃ (gd ge : Nat) (cd : Value) (ce : Int), a.defers = [ddD gd ge] ∧ a.tmps[8]? = some (pdd gd) ∧ a.tmps[9]? = some (pdd ge) ∧ ¬ dE s m r x = 0 ∧ v = rfs (dE s m r x) ∧ St NoB w0 w (DM gd ge cd ce)
theorem dpn_ok {s : List (List Int)} {m : Int} {r : Nat} {x : List Int} {w0 : World} : PnOK 10 (DPN s m r x w0) := by
  rintro d u a v w hd ⟨gd, ge, cd, ce, h1, h2, h3, h4⟩
  refine ⟨gd, ge, cd, ce, h1, ?_, ?_, h4⟩
  · simpa [Act.put, Array.getElem?_setIfInBounds, show ¬ d = 8 by omega] using h2
  · simpa [Act.put, Array.getElem?_setIfInBounds, show ¬ d = 9 by omega] using h3
theorem inv_dd (gd ge : Nat) (w : World) : (invoke (.fn (.func 32) #[pdd gd, pdd ge]) #[]).run Tryz.prog w = .ok (.enter 32 #[pdd gd, pdd ge]) w := by
  have := en32 (#[] ++ #[pdd gd, pdd ge]) w
  rw [Array.empty_append] at this
  exact this
theorem do_ret {R : Value → World → Prop} {l : List Value} {w : World} {gd ge : Nat} (h : ∀ w', Ext w w' → Rt Tryz.prog Tryz.f13 R (fr l) w') : RtD Tryz.prog Tryz.f13 R (frd [ddD gd ge] l) w := by
  refine leaves_cons (by simp) (inv_dd gd ge w) ((do1_ret gd ge w).mono ?_)
  rintro e u' w' ⟨rfl, v, rfl, _, hE⟩
  obtain ⟨_, v, h1, h2⟩ := h w' hE
  exact ⟨v, h1, v, rfl, h2⟩

theorem do_pan {s : List (List Int)} {m : Int} {r : Nat} {x : List Int} {w0 : World} (a : Act) (v : Value) (w : World) (h : DPN s m r x w0 a v w) : PnD Tryz.prog Tryz.f13 (fun v w' => ∃ (O : Option Addr) (oc : Nat), v = .tuple #[.slice O (dP (s) m r x).length oc, .int .i64 (dE (s) m r x)] ∧ St NoB w0 w' [.vec O oc 66 21 (dP (s) m r x).length (arows (dP (s) m r x))]) a v w := by
  obtain ⟨gd, ge, cd, ce, h1, h2, h3, h4, rfl, hS⟩ := h
  unfold PnD
  rw [h1]
  refine leaves_cons (by simp) (inv_dd gd ge w) ((do1_pan gd ge w cd ce _ (hS.owns (by repeat (first | exact Spl.nil | (apply Spl.cons (by repeat (exact Del.head))))))).mono ?_)
  rintro e u' w' ⟨rfl, v, rfl, _, hC⟩
  have hS2 := hS.frame (R := []) (by repeat (first | exact Spl.nil | (apply Spl.cons (by repeat (exact Del.head))))) hC (by intro r hr g hg; simp only [List.mem_cons, List.not_mem_nil, or_false] at hr; rcases hr with rfl | rfl <;> simp [Res.reads] at hg)
  simp only [List.cons_append, List.nil_append] at hS2
  have q1 := obj_loads_one (P := Tryz.prog) U22 rfl hS2 (g := gd) (cs := #[.slice none 0 0]) (t := 22) (f := (0, 0)) (v := .slice none 0 0) (by repeat (exact Has.head)) rfl
  have q2 := obj_loads_one (P := Tryz.prog) U39 rfl hS2 (g := ge) (cs := #[.int .i64 (dE s m r x)]) (t := 39) (f := (0, 0)) (v := .int .i64 (dE s m r x)) (by repeat (first | exact Has.head | apply Has.tail)) rfl
  refine ⟨.tuple #[.slice none 0 0, .int .i64 (dE s m r x)], ?_, _, rfl, none, 0, ?_, ?_⟩
  · have h2' : (a.tmps[8]?.getD undef) = pdd gd := by rw [h2]; rfl
    have h3' : (a.tmps[9]?.getD undef) = pdd ge := by rw [h3]; rfl
    simp [results, show Tryz.f13.results = #[.cell 8 22, .cell 9 39] from rfl, h2', h3', asAddr, q1, q2]
  · rw [dP_no h4]; rfl
  · rw [dP_no h4]
    exact (hS2.nil_vec 66 21).sel (by repeat (first | exact Sel.nil | (refine Sel.cons (by repeat (exact Del.head)) ?_)))
end Go.Proofs.YtpekghaodmeemaaGreat
set_option linter.unusedSimpArgs false
set_option linter.unusedVariables false
set_option maxHeartbeats 2000000
set_option maxRecDepth 100000
namespace Go.Proofs.YtpekghaodmeemaaGreat
open Go.RowKit
theorem c_ref14Items (w0 : World) (A : Option Addr) (c : Nat) (l : List (List Int)) (hr : Rd w0 A 21 l.length (arows l)) (hv : AOks l) (hn : l.length ≤ 1000000000) (ct : Nat) (hct : ct < 65536)  :
    CallR Tryz.prog 48 #[.slice A l.length c, .int .u16 (ct : Int)] w0 fun v w' => ∃ (O : Option Addr) (oc : Nat), v = .slice O (itmS (normP l) ct).length oc ∧ St NoB w0 w' [.vec O oc 25 8 (itmS (normP l) ct).length (nrows (itmS (normP l) ct))] := by
 have hS := St.rd1 (S := NoB) hr
 have hsn := norm_sta hv
 have hno := hsn.ok
 have hnb := norm_len l
 have hnl := arows_len (normP l)
 refine c_enter (l := [.slice A l.length c, .int .u16 (ct : Int), undef, undef, undef, undef, undef, undef, undef, undef, undef, undef, undef, undef, undef, undef, undef, undef, undef, undef, undef, undef, undef, undef, undef, undef, undef, undef, undef, undef, undef, undef, undef, undef, undef, undef, undef, undef, undef, undef, undef, undef, undef, undef, undef, undef, undef, undef, undef, undef, undef, undef, undef, undef, undef, undef, undef, undef, undef, undef, undef]) Tryz.func48 rfl (by simp only [Tryz.ntmps48, List.size_toArray, List.length_cons, List.length_nil, Nat.reduceAdd, Nat.reduceSub, Array.replicate_succ, Array.replicate_zero, List.push_toArray, List.append_toArray, List.nil_append, List.cons_append]) ?_
 refine x_seq fun K1 hK1 => x_region ?_
 refine s_go s_assign ?_
 try simp only [nY]
 refine x_nil (hK1 _ _ ?_)
 refine x_seq fun K2 hK2 => x_region ?_
 refine s_go s_move ?_
 try simp only [nY]
 refine s_call en12 ?_
 try simp only [nY, mY]
 refine CallR.mono (c_ref10Norm _ A c l (hS.hasRd (by repeat (exact Has.head))) hv hn) ?_
 rintro _ w1 ⟨Bn, cn, rfl, hR1⟩
 replace hS := hS.back hR1
 try simp only [nY]
 refine s_go s_assign ?_
 try simp only [nY]
 refine x_nil (hK2 _ _ ?_)
 refine x_seq fun K3 hK3 => x_region ?_
 refine s_go s_assign ?_
 try simp only [nY]
 refine x_nil (hK3 _ _ ?_)
 refine x_seq fun K4 hK4 => ?_
 refine x_seq fun K5 hK5 => x_region ?_
 refine s_go s_assign ?_
 try simp only [nY]
 refine x_nil (hK5 _ _ ?_)
 refine x_block ?_
 refine x_loop [5, 6, 7, 10, 11, 12, 13, 14, 15, 16, 17, 18, 19, 20, 21, 22, 23, 24, 25, 26, 27, 28, 29, 30, 31, 32, 33, 34, 35, 36, 37, 38, 39, 40, 41, 42, 43, 44, 45, 46, 47, 48, 49, 50, 51, 52, 53, 54, 55, 56, 57, 58, 59] (fun m f w => ∃ (k : Nat) (O : Option Addr) (oc : Nat), k ≤ (normP l).length ∧ m = (normP l).length - k ∧ f 6 = .int .i64 (k : Int) ∧ f 5 = .slice O (adjS (nmsS ((normP l).take k) ct)).length oc ∧ St NoB w0 w [.vec O oc 25 8 ((adjS (nmsS ((normP l).take k) ct))).length (nrows ((adjS (nmsS ((normP l).take k) ct)))), .rd Bn 21 (normP l).length (arows (normP l))]) ((normP l).length) ?init1 (fun m1 f1 wl1 hI => ?_)
 case init1 =>
  try simp only [nY]
  replace hS := hS.nil_vec 25 8
  exact ⟨0, none, 0, by omega, rfl, rfl, rfl, hS.sel (by repeat (first | exact Sel.nil | (refine Sel.cons (by repeat (exact Del.head)) ?_)))⟩
 obtain ⟨k, O, oc, hk0, hmk, hf6, hf5, hS⟩ := hI
 simp only [clob, List.foldl, n3, n4, hf6, hf5]
 obtain ⟨x, hx⟩ : ∃ x, (normP l).getD k [] = x := ⟨_, rfl⟩
 have hol : (adjS (nmsS ((normP l).take k) ct)).length ≤ k := Nat.le_trans (adj_len _) (Nat.le_trans (nms_len _ _) (by rw [List.length_take]; omega))
 have ho8 := adj_eight (nms_eight (hno.take k) ct)
 obtain ⟨o, hoe⟩ : ∃ o, (adjS (nmsS ((normP l).take k) ct)) = o := ⟨_, rfl⟩
 rw [hoe] at hS hol ho8
 simp only [hoe]
 have honl := nrows_len o
 refine x_seq fun K6 hK6 => ?_
 refine x_seq fun K7 hK7 => x_region ?_
 refine s_go s_move ?_
 try simp only [nY]
 refine s_go s_move ?_
 try simp only [nY]
 refine s_go (s_len_sl U22) ?_
 try simp only [nY]
 refine s_go s_lss ?_
 try simp only [nY]
 refine x_nil (hK7 _ _ ?_)
 refine x_cond (ht := fun hc1 => ?_) (hf := fun hc1 => ?_)
 ·
  try simp only [dY] at hc1
  have ha : AtomOk x := by rw [← hx]; exact hno.get (by omega)
  have hal := ha.len
  have hkx := ha.key
  have hk12 := hkx.len
  have hvx := ha.val
  have hk01 := akey_k hal
  have hil := kitem_len hkx.len
  have hnt := nms_take (c := ct) (k := k) (by omega) hx
  have hlv : liveQ ct x = (decide (kn x 0 = 1) && decide (kn x 1 = ct) && decide (kn (aval x) 0 = 1)) := rfl
  have hno_ : liveQ ct x = false → (adjS (nmsS ((normP l).take (k + 1)) ct)) = o := fun h => by rw [hnt.2 h, hoe]
  have hyes : liveQ ct x = true → (adjS (nmsS ((normP l).take (k + 1)) ct)) = adjF o (kitem (akey x)) := fun h => by rw [hnt.1 h, adj_snoc, hoe]
  refine x_skip ?_
  refine hK6 _ _ ?_
  refine x_seq fun K8 hK8 => ?_
  refine x_block ?_
  refine x_seq fun K9 hK9 => x_region ?_
  refine s_go s_move ?_
  try simp only [nY]
  refine s_go s_move ?_
  try simp only [nY]
  refine s_go (m_indexAddr_rd U22 ti66 (hS := hS)) ?_
  try simp only [nY, Nat.mul_one, Nat.zero_add, Int.toNat_natCast, Int.reduceToNat]
  refine s_go (m_fieldAddr_rd U66 (hi := ti61) (hS := hS)) ?_
  try simp only [nY, fY, gY]
  refine s_go (m_loada_rd U61 (hi := ti61) (hS := hS) (hfit := by rw [arows_len]; omega)) ?_
  try simp only [nY, gY]
  rw [arow_key (by omega) hno, hx]
  refine m_alloc ti61 hS (fun w2 g2 hS => ?_)
  try simp only [nY, aY] at hS ⊢
  have h0l : key0.length = 12 := rfl
  replace hS : St _ _ w2 (.obj g2 (.cells (KA key0) 61 (0, 0)) :: _) := hS
  refine m_store_obj ti61 (hS := hS) (hc := by exact zi_whole (by omega) (by omega)) (hv := by (show (zi _ _).toArray.size = _; rw [zi_size (by omega)]; rfl)) (hfit := by (rw [zi_size (by omega)]; decide)) (h1 := by exact zi_one _ _) (h := fun w3 hS => ?_)
  try simp only [nY, aY] at hS ⊢
  refine x_nil (hK9 _ _ ?_)
  refine x_seq fun K10 hK10 => ?_
  refine x_quiet (by kernel_rfl) (by kernel_rfl) hS ?_
  refine q_go (fun w hS => m_fieldAddr U61 (hi := ti5)) ?_
  try simp only [nY, fY, gY]
  refine q_go (fun w hS => m_load_obj U5 (hS := hS) (hv := by exact zi_get rfl (by omega))) ?_
  try simp only [nY, gY]
  rw [hkx.e0, hk01.1]
  refine q_go (fun w hS => s_eql) ?_
  try simp only [nY]
  refine q_go (fun w hS => s_move) ?_
  try simp only [nY]
  refine q_part 24 rfl (fun hp1 => ?_) (fun hp1 => ?_)
  ·
   try simp only [n3, n4]
   try simp only [dZ, ne_eq] at hp1
   have q1 : decide (kn x 0 = 1) = true := decide_eq_true (by omega)
   refine q_on (yi (t := 24) rfl rfl) ?_
   refine q_go (fun w hS => m_fieldAddr U61 (hi := ti23)) ?_
   try simp only [nY, fY, gY]
   refine q_on (yi (t := 24) rfl rfl) ?_
   refine q_go (fun w hS => m_load_obj U23 (hS := hS) (hv := by exact zi_get rfl (by omega))) ?_
   try simp only [nY, gY]
   rw [hkx.e1, hk01.2]
   refine q_on (yi (t := 24) rfl rfl) ?_
   refine q_go (fun w hS => s_move) ?_
   try simp only [nY]
   refine q_on (yi (t := 24) rfl rfl) ?_
   refine q_go (fun w hS => s_eql) ?_
   try simp only [nY]
   refine q_go (fun w hS => s_pick_t) ?_
   try simp only [nY]
   refine q_go (fun w hS => s_move) ?_
   try simp only [nY]
   refine q_part 30 rfl (fun hp2 => ?_) (fun hp2 => ?_)
   ·
    try simp only [n3, n4]
    try simp only [dZ, ne_eq] at hp2
    have q2 : decide (kn x 1 = ct) = true := decide_eq_true (by omega)
    refine q_on (yi (t := 30) rfl rfl) ?_
    refine q_go (fun w hS => s_move) ?_
    try simp only [nY]
    refine q_on (yi (t := 30) rfl rfl) ?_
    refine q_go (fun w hS => s_move) ?_
    try simp only [nY]
    refine q_on (yi (t := 30) rfl rfl) ?_
    refine q_go (fun w hS => m_indexAddr_rd U22 ti66 (hS := hS)) ?_
    try simp only [nY, Nat.mul_one, Nat.zero_add, Int.toNat_natCast, Int.reduceToNat]
    refine q_on (yi (t := 30) rfl rfl) ?_
    refine q_go (fun w hS => m_fieldAddr_rd U66 (hi := ti64) (hS := hS)) ?_
    try simp only [nY, fY, gY]
    refine q_on (yi (t := 30) rfl rfl) ?_
    refine q_go (fun w hS => m_fieldAddr_rd U64 (hi := ti62) (hS := hS)) ?_
    try simp only [nY, fY, gY]
    refine q_on (yi (t := 30) rfl rfl) ?_
    refine q_go (fun w hS => m_load_rd U62 (hS := hS) (hv := arow_num (by omega) hno)) ?_
    try simp only [nY, gY]
    rw [hx, hvx.e0]
    refine q_on (yi (t := 30) rfl rfl) ?_
    refine q_go (fun w hS => s_eql) ?_
    try simp only [nY]
    refine q_go (fun w hS => s_pick_t) ?_
    try simp only [nY]
    refine q_go (fun w hS => s_move) ?_
    try simp only [nY]
    refine q_part 39 rfl (fun hp3 => ?_) (fun hp3 => ?_)
    ·
     try simp only [n3, n4]
     try simp only [dZ, ne_eq] at hp3
     have q3 : decide (kn (aval x) 0 = 1) = true := decide_eq_true (by omega)
     have hyy := hyes (by rw [hlv, q1, q2, q3]; rfl)
     refine q_on (yi (t := 39) rfl rfl) ?_
     refine q_go (fun w hS => s_move) ?_
     try simp only [nY]
     refine q_on (yi (t := 39) rfl rfl) ?_
     refine q_go (fun w hS => s_len_sl U89) ?_
     try simp only [nY]
     refine q_on (yi (t := 39) rfl rfl) ?_
     refine q_go (fun w hS => s_eql) ?_
     try simp only [nY]
     refine q_on (yi (t := 39) rfl rfl) ?_
     refine q_go (fun w hS => s_move) ?_
     try simp only [nY]
     refine q_part 43 rfl (fun hp4 => ?_) (fun hp4 => ?_)
     ·
      try simp only [n3, n4]
      try simp only [dZ, ne_eq] at hp4
      have hst : (adjS (nmsS ((normP l).take (k + 1)) ct)) = o ++ [kitem (akey x)] := by rw [hyy, adjF, List.eq_nil_of_length_eq_zero (show o.length = 0 by omega)]; rfl
      refine q_off (yi (t := 43) rfl rfl) ?_
      try simp only [nY]
      refine q_off (yi (t := 43) rfl rfl) ?_
      try simp only [nY]
      refine q_off (yi (t := 43) rfl rfl) ?_
      try simp only [nY]
      refine q_off (yi (t := 43) rfl rfl) ?_
      try simp only [nY]
      refine q_off (yi (t := 43) rfl rfl) ?_
      try simp only [nY]
      refine q_off (yi (t := 43) rfl rfl) ?_
      try simp only [nY]
      refine q_off (yi (t := 43) rfl rfl) ?_
      try simp only [nY]
      refine q_off (yi (t := 43) rfl rfl) ?_
      try simp only [nY]
      refine q_off (yi (t := 43) rfl rfl) ?_
      try simp only [nY]
      refine q_on (yi (t := 39) rfl rfl) ?_
      refine q_go (fun w hS => s_pick_t) ?_
      try simp only [nY]
      refine q_go (fun w hS => s_pick_t) ?_
      try simp only [nY]
      clear hS
      refine q_nil fun w4 hS => ?_
      refine hK10 _ _ ?_
      refine x_cond_t (h := ?_)
      try have hst : (adjS (nmsS ((normP l).take (k + 1)) ct)) = o ++ [kitem (akey x)] := by rw [hyy, adjF, if_neg (fun q => by rw [hlg] at q; simp [q] at @c)]
      refine x_region ?_
      refine s_go s_move ?_
      try simp only [nY]
      refine s_go (m_fieldAddr U61 (hi := ti25)) ?_
      try simp only [nY, fY, gY]
      refine s_go (m_loada_obj U25 (hi := ti25) (hS := hS) (hfit := by (rw [zi_size (by omega)]; decide))) ?_
      try simp only [nY, gY]
      rw [key_item hk12]
      refine m_buildRow (cells := (ic .u8 (kitem (akey x)))) U89 ti25 (hc := by simp only [List.map_toArray, List.map_cons, List.map_nil, nY, List.toList_toArray]; exact fill_one (by rfl) (by rw [ic_size]; exact hil) (by rfl)) (hS := hS) (h := fun w5 g5 hS => ?_)
      try simp only [nY, aY] at hS ⊢
      replace hS := hS.obj_rd (sz := 8) (n := 1) (by rw [ic_size]; exact hil) .head
      rw [nrow_one hil] at hS
      refine m_append U89 ti25 (hS := hS) (h1 := rowsZ_cells _ _) (h := fun w6 A6 C6 hS => ?_)
      try simp only [← List.map_append, ← List.map_drop, ← List.map_take, Nat.mul_one, Nat.zero_mul, Nat.sub_zero, List.drop_zero, List.nil_append, Nat.zero_add] at hS ⊢
      try simp only [nY, aY] at hS ⊢
      rw [nadd_one] at hS
      refine s_go s_assign ?_
      try simp only [nY]
      refine x_nil (hK8 _ _ ?_)
      refine x_region ?_
      refine s_go s_move ?_
      try simp only [nY]
      refine s_go (s_add (hc := by exact wr_i64 (by omega) (by omega))) ?_
      try simp only [nY]
      refine s_go s_assign ?_
      try simp only [nY]
      refine x_nil ?_
      refine loop_back (m' := (normP l).length - (k + 1)) (by simp only [clob, List.foldl, nZ]) ?_ ?_
      · try simp only [nY]
        exact ⟨k + 1, _, _, by omega, by omega, by rfl, by rw [hst, List.length_append]; rfl, by rw [hst, List.length_append]; exact hS.selA⟩
      · omega
     try simp only [n3, n4]
     try simp only [dZ, ne_eq] at hp4
     have hol0 : 0 < o.length := by omega
     obtain ⟨y, hy⟩ : ∃ y, o.getD (o.length - 1) [] = y := ⟨_, rfl⟩
     have hy8 : y.length = 8 := by rw [← hy]; exact ho8 _ (getD_mem' (by omega))
     have hlg := last_get (x := kitem (akey x)) hol0
     rw [hy] at hlg
     refine q_on (yi (t := 43) rfl rfl) ?_
     refine q_go (fun w hS => s_move) ?_
     try simp only [nY]
     refine q_on (yi (t := 43) rfl rfl) ?_
     refine q_go (fun w hS => s_move) ?_
     try simp only [nY]
     refine q_on (yi (t := 43) rfl rfl) ?_
     refine q_go (fun w hS => s_len_sl U89) ?_
     try simp only [nY]
     refine q_on (yi (t := 43) rfl rfl) ?_
     refine q_go (fun w hS => s_sub (hc := by exact wr_i64 (by omega) (by omega))) ?_
     try simp only [nY]
     rw [show ((o.length : Nat) : Int) - 1 = ((o.length - 1 : Nat) : Int) by omega]
     refine q_on (yi (t := 43) rfl rfl) ?_
     refine q_go (fun w hS => m_indexAddr_vec U89 ti25 (hS := hS)) ?_
     try simp only [nY, Nat.mul_one, Nat.zero_add, Int.toNat_natCast, Int.reduceToNat]
     refine q_on (yi (t := 43) rfl rfl) ?_
     refine q_go (fun w hS => m_loada_vec U25 (hi := ti25) (hS := hS) (hfit := by rw [nrows_len]; omega)) ?_
     try simp only [nY, gY]
     rw [nrow_get (by omega) ho8, hy]
     refine q_on (yi (t := 43) rfl rfl) ?_
     refine q_go (fun w hS => m_fieldAddr U61 (hi := ti25)) ?_
     try simp only [nY, fY, gY]
     refine q_on (yi (t := 43) rfl rfl) ?_
     refine q_go (fun w hS => m_loada_obj U25 (hi := ti25) (hS := hS) (hfit := by (rw [zi_size (by omega)]; decide))) ?_
     try simp only [nY, gY]
     rw [key_item hk12]
     refine q_on (yi (t := 43) rfl rfl) ?_
     refine q_go (fun w hS => s_neq_agg eqv25 (hg := eg25) (hX := zi_ic (by assumption)) (hY := zi_ic (by assumption)) (h1 := by assumption) (h2 := by assumption)) ?_
     try simp only [nY]
     refine q_on (yi (t := 39) rfl rfl) ?_
     refine q_go (fun w hS => s_pick_f) ?_
     try simp only [nY]
     refine q_go (fun w hS => s_pick_t) ?_
     try simp only [nY]
     clear hS
     refine q_nil fun w7 hS => ?_
     refine hK10 _ _ ?_
     refine x_cond (ht := fun hc3 => ?_) (hf := fun hc3 => ?_)
     ·
      try simp only [dY] at hc3
      try have hst : (adjS (nmsS ((normP l).take (k + 1)) ct)) = o ++ [kitem (akey x)] := by rw [hyy, adjF, if_neg (fun q => by rw [hlg] at q; simp [q] at hc3)]
      refine x_region ?_
      refine s_go s_move ?_
      try simp only [nY]
      refine s_go (m_fieldAddr U61 (hi := ti25)) ?_
      try simp only [nY, fY, gY]
      refine s_go (m_loada_obj U25 (hi := ti25) (hS := hS) (hfit := by (rw [zi_size (by omega)]; decide))) ?_
      try simp only [nY, gY]
      rw [key_item hk12]
      refine m_buildRow (cells := (ic .u8 (kitem (akey x)))) U89 ti25 (hc := by simp only [List.map_toArray, List.map_cons, List.map_nil, nY, List.toList_toArray]; exact fill_one (by rfl) (by rw [ic_size]; exact hil) (by rfl)) (hS := hS) (h := fun w8 g8 hS => ?_)
      try simp only [nY, aY] at hS ⊢
      replace hS := hS.obj_rd (sz := 8) (n := 1) (by rw [ic_size]; exact hil) .head
      rw [nrow_one hil] at hS
      refine m_append U89 ti25 (hS := hS) (h1 := rowsZ_cells _ _) (h := fun w9 A9 C9 hS => ?_)
      try simp only [← List.map_append, ← List.map_drop, ← List.map_take, Nat.mul_one, Nat.zero_mul, Nat.sub_zero, List.drop_zero, List.nil_append, Nat.zero_add] at hS ⊢
      try simp only [nY, aY] at hS ⊢
      rw [nadd_one] at hS
      refine s_go s_assign ?_
      try simp only [nY]
      refine x_nil (hK8 _ _ ?_)
      refine x_region ?_
      refine s_go s_move ?_
      try simp only [nY]
      refine s_go (s_add (hc := by exact wr_i64 (by omega) (by omega))) ?_
      try simp only [nY]
      refine s_go s_assign ?_
      try simp only [nY]
      refine x_nil ?_
      refine loop_back (m' := (normP l).length - (k + 1)) (by simp only [clob, List.foldl, nZ]) ?_ ?_
      · try simp only [nY]
        exact ⟨k + 1, _, _, by omega, by omega, by rfl, by rw [hst, List.length_append]; rfl, by rw [hst, List.length_append]; exact hS.selA⟩
      · omega
     try simp only [dY] at hc3
     try have hst : (adjS (nmsS ((normP l).take (k + 1)) ct)) = o := by rw [hyy, adjF, if_pos (by rw [hlg]; simpa using hc3)]
     refine x_skip ?_
     refine hK8 _ _ ?_
     refine x_region ?_
     refine s_go s_move ?_
     try simp only [nY]
     refine s_go (s_add (hc := by exact wr_i64 (by omega) (by omega))) ?_
     try simp only [nY]
     refine s_go s_assign ?_
     try simp only [nY]
     refine x_nil ?_
     refine loop_back (m' := (normP l).length - (k + 1)) (by simp only [clob, List.foldl, nZ]) ?_ ?_
     · try simp only [nY]
       exact ⟨k + 1, _, _, by omega, by omega, by rfl, by rw [hst], by rw [hst]; exact hS.selA⟩
     · omega
    try simp only [n3, n4]
    try simp only [dZ, ne_eq] at hp3
    try have hst := hno_ (by rw [hlv, q1, q2, decide_eq_false (show ¬ kn (aval x) 0 = 1 by omega)]; rfl)
    refine q_off (yi (t := 39) rfl rfl) ?_
    try simp only [nY]
    refine q_off (yi (t := 39) rfl rfl) ?_
    try simp only [nY]
    refine q_off (yi (t := 39) rfl rfl) ?_
    try simp only [nY]
    refine q_off (yi (t := 39) rfl rfl) ?_
    try simp only [nY]
    refine q_un (yn (t := 43) rfl rfl) ?_
    try simp only [nY]
    refine q_un (yn (t := 43) rfl rfl) ?_
    try simp only [nY]
    refine q_un (yn (t := 43) rfl rfl) ?_
    try simp only [nY]
    refine q_un (yn (t := 43) rfl rfl) ?_
    try simp only [nY]
    refine q_un (yn (t := 43) rfl rfl) ?_
    try simp only [nY]
    refine q_un (yn (t := 43) rfl rfl) ?_
    try simp only [nY]
    refine q_un (yn (t := 43) rfl rfl) ?_
    try simp only [nY]
    refine q_un (yn (t := 43) rfl rfl) ?_
    try simp only [nY]
    refine q_un (yn (t := 43) rfl rfl) ?_
    try simp only [nY]
    refine q_off (yi (t := 39) rfl rfl) ?_
    try simp only [nY]
    refine q_go (fun w hS => s_pick_f) ?_
    try simp only [nY]
    clear hS
    refine q_nil fun w10 hS => ?_
    refine hK10 _ _ ?_
    refine x_cond_f (h := ?_)
    try have hst : (adjS (nmsS ((normP l).take (k + 1)) ct)) = o := by rw [hyy, adjF, if_pos (by rw [hlg]; simpa using @c)]
    refine x_skip ?_
    refine hK8 _ _ ?_
    refine x_region ?_
    refine s_go s_move ?_
    try simp only [nY]
    refine s_go (s_add (hc := by exact wr_i64 (by omega) (by omega))) ?_
    try simp only [nY]
    refine s_go s_assign ?_
    try simp only [nY]
    refine x_nil ?_
    refine loop_back (m' := (normP l).length - (k + 1)) (by simp only [clob, List.foldl, nZ]) ?_ ?_
    · try simp only [nY]
      exact ⟨k + 1, _, _, by omega, by omega, by rfl, by rw [hst], by rw [hst]; exact hS.selA⟩
    · omega
   try simp only [n3, n4]
   try simp only [dZ, ne_eq] at hp2
   try have hst := hno_ (by rw [hlv, q1, decide_eq_false (show ¬ kn x 1 = ct by omega)]; rfl)
   refine q_off (yi (t := 30) rfl rfl) ?_
   try simp only [nY]
   refine q_off (yi (t := 30) rfl rfl) ?_
   try simp only [nY]
   refine q_off (yi (t := 30) rfl rfl) ?_
   try simp only [nY]
   refine q_off (yi (t := 30) rfl rfl) ?_
   try simp only [nY]
   refine q_off (yi (t := 30) rfl rfl) ?_
   try simp only [nY]
   refine q_off (yi (t := 30) rfl rfl) ?_
   try simp only [nY]
   refine q_off (yi (t := 30) rfl rfl) ?_
   try simp only [nY]
   refine q_go (fun w hS => s_pick_f) ?_
   try simp only [nY]
   refine q_go (fun w hS => s_move) ?_
   try simp only [nY]
   refine q_off (yi (t := 39) rfl rfl) ?_
   try simp only [nY]
   refine q_off (yi (t := 39) rfl rfl) ?_
   try simp only [nY]
   refine q_off (yi (t := 39) rfl rfl) ?_
   try simp only [nY]
   refine q_off (yi (t := 39) rfl rfl) ?_
   try simp only [nY]
   refine q_un (yn (t := 43) rfl rfl) ?_
   try simp only [nY]
   refine q_un (yn (t := 43) rfl rfl) ?_
   try simp only [nY]
   refine q_un (yn (t := 43) rfl rfl) ?_
   try simp only [nY]
   refine q_un (yn (t := 43) rfl rfl) ?_
   try simp only [nY]
   refine q_un (yn (t := 43) rfl rfl) ?_
   try simp only [nY]
   refine q_un (yn (t := 43) rfl rfl) ?_
   try simp only [nY]
   refine q_un (yn (t := 43) rfl rfl) ?_
   try simp only [nY]
   refine q_un (yn (t := 43) rfl rfl) ?_
   try simp only [nY]
   refine q_un (yn (t := 43) rfl rfl) ?_
   try simp only [nY]
   refine q_off (yi (t := 39) rfl rfl) ?_
   try simp only [nY]
   refine q_go (fun w hS => s_pick_f) ?_
   try simp only [nY]
   clear hS
   refine q_nil fun w11 hS => ?_
   refine hK10 _ _ ?_
   refine x_cond_f (h := ?_)
   try have hst : (adjS (nmsS ((normP l).take (k + 1)) ct)) = o := by rw [hyy, adjF, if_pos (by rw [hlg]; simpa using @c)]
   refine x_skip ?_
   refine hK8 _ _ ?_
   refine x_region ?_
   refine s_go s_move ?_
   try simp only [nY]
   refine s_go (s_add (hc := by exact wr_i64 (by omega) (by omega))) ?_
   try simp only [nY]
   refine s_go s_assign ?_
   try simp only [nY]
   refine x_nil ?_
   refine loop_back (m' := (normP l).length - (k + 1)) (by simp only [clob, List.foldl, nZ]) ?_ ?_
   · try simp only [nY]
     exact ⟨k + 1, _, _, by omega, by omega, by rfl, by rw [hst], by rw [hst]; exact hS.selA⟩
   · omega
  try simp only [n3, n4]
  try simp only [dZ, ne_eq] at hp1
  have hst := hno_ (by rw [hlv, decide_eq_false (show ¬ kn x 0 = 1 by omega)]; rfl)
  refine q_off (yi (t := 24) rfl rfl) ?_
  try simp only [nY]
  refine q_off (yi (t := 24) rfl rfl) ?_
  try simp only [nY]
  refine q_off (yi (t := 24) rfl rfl) ?_
  try simp only [nY]
  refine q_off (yi (t := 24) rfl rfl) ?_
  try simp only [nY]
  refine q_go (fun w hS => s_pick_f) ?_
  try simp only [nY]
  refine q_go (fun w hS => s_move) ?_
  try simp only [nY]
  refine q_off (yi (t := 30) rfl rfl) ?_
  try simp only [nY]
  refine q_off (yi (t := 30) rfl rfl) ?_
  try simp only [nY]
  refine q_off (yi (t := 30) rfl rfl) ?_
  try simp only [nY]
  refine q_off (yi (t := 30) rfl rfl) ?_
  try simp only [nY]
  refine q_off (yi (t := 30) rfl rfl) ?_
  try simp only [nY]
  refine q_off (yi (t := 30) rfl rfl) ?_
  try simp only [nY]
  refine q_off (yi (t := 30) rfl rfl) ?_
  try simp only [nY]
  refine q_go (fun w hS => s_pick_f) ?_
  try simp only [nY]
  refine q_go (fun w hS => s_move) ?_
  try simp only [nY]
  refine q_off (yi (t := 39) rfl rfl) ?_
  try simp only [nY]
  refine q_off (yi (t := 39) rfl rfl) ?_
  try simp only [nY]
  refine q_off (yi (t := 39) rfl rfl) ?_
  try simp only [nY]
  refine q_off (yi (t := 39) rfl rfl) ?_
  try simp only [nY]
  refine q_un (yn (t := 43) rfl rfl) ?_
  try simp only [nY]
  refine q_un (yn (t := 43) rfl rfl) ?_
  try simp only [nY]
  refine q_un (yn (t := 43) rfl rfl) ?_
  try simp only [nY]
  refine q_un (yn (t := 43) rfl rfl) ?_
  try simp only [nY]
  refine q_un (yn (t := 43) rfl rfl) ?_
  try simp only [nY]
  refine q_un (yn (t := 43) rfl rfl) ?_
  try simp only [nY]
  refine q_un (yn (t := 43) rfl rfl) ?_
  try simp only [nY]
  refine q_un (yn (t := 43) rfl rfl) ?_
  try simp only [nY]
  refine q_un (yn (t := 43) rfl rfl) ?_
  try simp only [nY]
  refine q_off (yi (t := 39) rfl rfl) ?_
  try simp only [nY]
  refine q_go (fun w hS => s_pick_f) ?_
  try simp only [nY]
  clear hS
  refine q_nil fun w12 hS => ?_
  refine hK10 _ _ ?_
  refine x_cond_f (h := ?_)
  try have hst : (adjS (nmsS ((normP l).take (k + 1)) ct)) = o := by rw [hyy, adjF, if_pos (by rw [hlg]; simpa using @c)]
  refine x_skip ?_
  refine hK8 _ _ ?_
  refine x_region ?_
  refine s_go s_move ?_
  try simp only [nY]
  refine s_go (s_add (hc := by exact wr_i64 (by omega) (by omega))) ?_
  try simp only [nY]
  refine s_go s_assign ?_
  try simp only [nY]
  refine x_nil ?_
  refine loop_back (m' := (normP l).length - (k + 1)) (by simp only [clob, List.foldl, nZ]) ?_ ?_
  · try simp only [nY]
    exact ⟨k + 1, _, _, by omega, by omega, by rfl, by rw [hst], by rw [hst]; exact hS.selA⟩
  · omega
 try simp only [dY] at hc1
 obtain rfl : k = (normP l).length := by omega
 rw [List.take_of_length_le (Nat.le_refl _), adj_itm hsn] at hoe
 subst hoe
 refine x_exit (look_here ?_)
 refine hK4 _ _ ?_
 refine x_seq fun K11 hK11 => x_region ?_
 refine s_go s_move ?_
 try simp only [nY]
 refine s_go s_assign ?_
 try simp only [nY]
 refine x_nil (hK11 _ _ ?_)
 refine x_ret (r_tmp rfl ?_)
 exact ⟨_, _, rfl, hS.sel (by repeat (first | exact Sel.nil | (refine Sel.cons (by repeat (exact Del.head)) ?_)))⟩
end Go.Proofs.YtpekghaodmeemaaGreat
set_option linter.unusedSimpArgs false
set_option linter.unusedVariables false
set_option maxHeartbeats 400000
set_option maxRecDepth 100000
namespace Go.Proofs.YtpekghaodmeemaaGreat
open Go.RowKit
theorem c_ref18remove (w0 : World) (A : Option Addr) (c : Nat) (l : List (List Int)) (hr : Rd w0 A 21 l.length (arows l)) (hv : AOks l) (hn : l.length ≤ 40000000) (r : Nat) (hr8 : r < 256) (ct : Nat) (hct : ct < 65536) (it : List Int) (h8 : it.length = 8) (hbt : Byt it)  :
    CallR Tryz.prog 70 #[.slice A l.length c, .int .u8 (r : Int), .int .u16 (ct : Int), .agg (ic .u8 it)] w0 fun v w' => ∃ (O : Option Addr) (oc : Nat), v = .tuple #[.slice O (rmP l r ct it).length oc, .int .i64 (rmE l r ct it)] ∧ St NoB w0 w' [.vec O oc 66 21 (rmP l r ct it).length (arows (rmP l r ct it))] := by
 have hS := St.rd1 (S := NoB) hr
 have hqb := qty_b hv (by omega) ct it
 have hdo := drp_ok' hv ct it
 have hto := turnP_ok (n := qtyN l ct it) hv (.inr rfl) hr8 hct h8 hbt (by omega)
 have hdl := drp_len l ct it
 have htl := turnP_len l 3 r ct it (qtyN l ct it)
 refine c_enter (l := [.slice A l.length c, .int .u8 (r : Int), .int .u16 (ct : Int), .agg (ic .u8 it), undef, undef, undef, undef, undef, undef, undef, undef, undef, undef, undef, undef, undef, undef, undef, undef, undef, undef, undef, undef, undef, undef, undef, undef, undef, undef, undef, undef, undef, undef, undef, undef, undef]) Tryz.func70 rfl (by simp only [Tryz.ntmps70, List.size_toArray, List.length_cons, List.length_nil, Nat.reduceAdd, Nat.reduceSub, Array.replicate_succ, Array.replicate_zero, List.push_toArray, List.append_toArray, List.nil_append, List.cons_append]) ?_
 refine x_seq fun K1 hK1 => x_region ?_
 refine m_box hS (fun w1 g1 hS => ?_)
 try simp only [nY, aY] at hS ⊢
 refine s_go s_assign ?_
 try simp only [nY]
 refine s_go s_assign ?_
 try simp only [nY]
 refine x_nil (hK1 _ _ ?_)
 refine x_seq fun K2 hK2 => x_region ?_
 refine s_go s_move ?_
 try simp only [nY]
 refine s_go s_move ?_
 try simp only [nY]
 refine s_go (m_load_row U25 (hi := ti25) (hS := hS) (hfit := by (simp only [ic_size, List.length_map, List.size_toArray]; omega))) ?_
 try simp only [nY, gY]
 refine s_call en22 ?_
 try simp only [nY, mY]
 refine CallR.mono (c_ref17Quantity _ A c l (hS.hasA) hv (by omega) ct hct it h8 hbt) ?_
 rintro _ w2 ⟨rfl, hE2⟩
 replace hS := hS.ext hE2
 try simp only [nY]
 refine s_go s_move ?_
 try simp only [nY]
 refine s_go (s_extract (hv := rfl)) ?_
 try simp only [gY]
 try simp only [nY]
 refine s_go (s_extract (hv := rfl)) ?_
 try simp only [gY]
 try simp only [nY]
 refine s_go s_assign ?_
 try simp only [nY]
 refine s_go s_assign ?_
 try simp only [nY]
 refine x_nil (hK2 _ _ ?_)
 refine x_seq fun K3 hK3 => x_region ?_
 refine s_go s_move ?_
 try simp only [nY]
 refine s_go s_move ?_
 try simp only [nY]
 refine s_go s_move ?_
 try simp only [nY]
 refine s_go (m_load_row U25 (hi := ti25) (hS := hS) (hfit := by (simp only [ic_size, List.length_map, List.size_toArray]; omega))) ?_
 try simp only [nY, gY]
 refine s_go s_move ?_
 try simp only [nY]
 refine s_call en69 ?_
 try simp only [nY, mY]
 refine CallR.mono (c_ref15Turn _ A c l (hS.hasA) hv (by omega) r hr8 ct hct it h8 hbt (qtyN l ct it) (by omega) (by omega) 3 (by decide)) ?_
 rintro _ w3 ⟨Dt, dt, rfl, hC3⟩
 replace hS := hS.call hC3
 simp only [List.cons_append, List.nil_append] at hS
 try simp only [nY]
 refine s_go s_move ?_
 try simp only [nY]
 refine s_go (s_extract (hv := rfl)) ?_
 try simp only [gY]
 try simp only [nY]
 refine s_go (s_extract (hv := rfl)) ?_
 try simp only [gY]
 try simp only [nY]
 refine s_go s_assign ?_
 try simp only [nY]
 refine s_go s_assign ?_
 try simp only [nY]
 refine x_nil (hK3 _ _ ?_)
 refine x_seq fun K4 hK4 => x_region ?_
 refine s_go s_move ?_
 try simp only [nY]
 refine s_go s_move ?_
 try simp only [nY]
 refine s_go (m_load_row U25 (hi := ti25) (hS := hS) (hfit := by (simp only [ic_size, List.length_map, List.size_toArray]; omega))) ?_
 try simp only [nY, gY]
 refine s_call en100 ?_
 try simp only [nY, mY]
 refine CallR.mono (c_ref14Drop _ A c l (hS.hasA) hv (by omega) ct hct it h8) ?_
 rintro _ w4 ⟨Dd, dd, rfl, hC4⟩
 replace hS := hS.call hC4
 simp only [List.cons_append, List.nil_append] at hS
 try simp only [nY]
 refine s_go s_move ?_
 try simp only [nY]
 refine s_call en14 ?_
 try simp only [nY, mY]
 refine CallR.mono (c_ref10Join _ Dd dd (drpS (normP l) ct it) (hS.vecRd (by repeat (exact Has.head))) hdo Dt dt (turnP l 3 r ct it (qtyN l ct it)) (hS.vecA) hto (by omega)) ?_
 rintro _ w5 ⟨Dj, dj, rfl, hC5⟩
 replace hS := hS.call hC5
 simp only [List.cons_append, List.nil_append] at hS
 try simp only [nY]
 refine s_go s_move ?_
 try simp only [nY]
 refine s_go s_assign ?_
 try simp only [nY]
 refine s_go s_assign ?_
 try simp only [nY]
 refine x_nil (hK4 _ _ ?_)
 refine x_ret (r_tmp2 rfl ?_)
 exact ⟨_, _, rfl, hS.sel (by repeat (first | exact Sel.nil | (refine Sel.cons (by repeat (exact Del.head)) ?_)))⟩
theorem c_ref18makes (w0 : World) (A : Option Addr) (c : Nat) (l : List (List Int)) (hr : Rd w0 A 21 l.length (arows l)) (hv : AOks l) (hn : l.length ≤ 40000000) (r : Nat) (hr8 : r < 256) (x : List Int) (hx : OpOk x) (hK : 1 ≤ opK x ∧ opK x ≤ 5) (hONN : (opK x = 1 ∨ opK x = 3) → 0 ≤ opN x ∧ opN x ≤ 4294967295)  :
    CallR Tryz.prog 38 #[.slice A l.length c, .int .u8 (r : Int), .agg (OA x)] w0 fun v w' => ∃ (O : Option Addr) (oc : Nat) (y : List (List Int)), v = .tuple #[.slice O y.length oc, .int .i64 (mkE l r x)] ∧ (mkE l r x = 0 → y = mkP l r x) ∧ St NoB w0 w' [.vec O oc 66 21 (y).length (arows (y))] := by
 have hS := St.rd1 (S := NoB) hr
 have hxl := hx.len
 have hil := op_il hxl
 have htl := op_tl hxl
 have hk1 := hx.k1
 have hk2 := hx.k2
 have hm1 := hx.m1
 have hm2 := hx.m2
 have hbi := hx.item
 have hbt := hx.text
 have hcx := hx.b1
 have hxs := op_size hxl
 have hno := (norm_sta hv).ok
 have htb := tot_b hv (by omega) (kn x 1) (kitem x)
 refine c_enter (l := [.slice A l.length c, .int .u8 (r : Int), .agg (OA x), undef, undef, undef, undef, undef, undef, undef, undef, undef, undef, undef, undef, undef, undef, undef, undef, undef, undef, undef, undef, undef, undef, undef, undef, undef, undef, undef, undef, undef, undef, undef, undef, undef, undef, undef, undef, undef, undef, undef, undef, undef, undef, undef, undef, undef, undef, undef, undef, undef, undef, undef, undef, undef, undef, undef, undef, undef, undef, undef, undef, undef, undef, undef, undef, undef, undef, undef, undef, undef, undef, undef, undef, undef, undef, undef, undef, undef, undef, undef, undef, undef, undef, undef, undef, undef, undef, undef, undef, undef, undef, undef, undef, undef, undef, undef, undef, undef, undef, undef, undef, undef, undef, undef, undef, undef, undef, undef, undef, undef, undef, undef, undef, undef, undef, undef, undef, undef, undef]) Tryz.func38 rfl (by simp only [Tryz.ntmps38, List.size_toArray, List.length_cons, List.length_nil, Nat.reduceAdd, Nat.reduceSub, Array.replicate_succ, Array.replicate_zero, List.push_toArray, List.append_toArray, List.nil_append, List.cons_append]) ?_
 refine x_seq fun K1 hK1 => x_region ?_
 refine m_box hS (fun w1 g1 hS => ?_)
 try simp only [nY, aY] at hS ⊢
 obtain ⟨gx, hgx⟩ : ∃ z, z = g1 := ⟨_, rfl⟩
 rw [← hgx] at hS ⊢
 refine s_go s_assign ?_
 try simp only [nY]
 refine s_go s_assign ?_
 try simp only [nY]
 refine x_nil (hK1 _ _ ?_)
 refine x_seq fun K2 hK2 => ?_
 refine x_seq fun K3 hK3 => x_region ?_
 refine s_go (m_fieldAddr U27 (hi := ti3)) ?_
 try simp only [nY, fY, gY]
 refine s_go (m_load_obj U3 (hS := hS) (hv := by exact zi_get rfl (by omega))) ?_
 try simp only [nY, gY]
 rw [show x.getD 0 0 = opK x from rfl]
 refine x_nil (hK3 _ _ ?_)
 refine x_block ?_
 refine x_seq fun K4 hK4 => x_region ?_
 refine s_go s_eql ?_
 try simp only [nY]
 refine s_go s_assign ?_
 try simp only [nY]
 refine x_nil (hK4 _ _ ?_)
 refine x_cond (ht := fun hc1 => ?_) (hf := fun hc1 => ?_)
 ·
  try simp only [dY] at hc1
  have hmE : mkE l r x = adE l r x := by rw [mkE, if_pos (by omega)]
  have hmP : mkP l r x = adP l r x := by rw [mkP, if_pos (by omega)]
  have hpo := addP_aok hv hr8 hcx hil hbi
  have hpl := addP_len l r (kn x 1) (kitem x)
  have hto := turnP_ok (n := opN x) hv (.inl rfl) hr8 hcx hil hbi hm2
  have htl2 := turnP_len l 2 r (kn x 1) (kitem x) (opN x)
  refine x_seq fun K5 hK5 => x_region ?_
  refine s_go s_move ?_
  try simp only [nY]
  refine s_go s_move ?_
  try simp only [nY]
  refine s_go (m_fieldAddr U27 (hi := ti23)) ?_
  try simp only [nY, fY, gY]
  refine s_go (m_load_obj U23 (hS := hS) (hv := by exact zi_get rfl (by omega))) ?_
  try simp only [nY, gY]
  rw [hx.e1]
  refine s_go (m_fieldAddr U27 (hi := ti25)) ?_
  try simp only [nY, fY, gY]
  refine s_go (m_loada_obj U25 (hi := ti25) (hS := hS) (hfit := by omega)) ?_
  try simp only [nY, gY]
  rw [op_item hxl]
  refine s_call en68 ?_
  try simp only [nY, mY]
  refine CallR.mono (c_ref14Add _ A c l (hS.hasA) hv (by omega) r hr8 (kn x 1) hcx (kitem x) hil hbi) ?_
  rintro _ w2 ⟨Da, da, rfl, hC2⟩
  replace hS := hS.call hC2
  simp only [List.cons_append, List.nil_append] at hS
  try simp only [nY]
  refine s_go s_move ?_
  try simp only [nY]
  refine s_go (s_extract (hv := rfl)) ?_
  try simp only [gY]
  try simp only [nY]
  refine s_go (s_extract (hv := rfl)) ?_
  try simp only [gY]
  try simp only [nY]
  refine s_go s_assign ?_
  try simp only [nY]
  refine s_go s_assign ?_
  try simp only [nY]
  refine x_nil (hK5 _ _ ?_)
  refine x_seq fun K6 hK6 => ?_
  refine x_seq fun K7 hK7 => x_region ?_
  refine s_go s_move ?_
  try simp only [nY]
  refine s_go s_neq ?_
  try simp only [nY]
  refine x_nil (hK7 _ _ ?_)
  refine x_cond (ht := fun hc2 => ?_) (hf := fun hc2 => ?_)
  ·
   try simp only [dY] at hc2
   have hA : ¬ addE l r (kitem x) = 0 := hc2
   refine x_seq fun K8 hK8 => x_region ?_
   refine s_go s_move ?_
   try simp only [nY]
   refine s_go s_assign ?_
   try simp only [nY]
   refine s_go s_assign ?_
   try simp only [nY]
   refine x_nil (hK8 _ _ ?_)
   refine x_ret (r_tmp2 rfl ?_)
   rw [hmE, ad_1 hA]
   exact ⟨none, 0, [], rfl, fun q => absurd q hA, (hS.nil_vec 66 21).sel (by repeat (first | exact Sel.nil | (refine Sel.cons (by repeat (exact Del.head)) ?_)))⟩
  try simp only [dY] at hc2
  have hA : addE l r (kitem x) = 0 := by omega
  refine x_skip ?_
  refine hK6 _ _ ?_
  refine x_seq fun K9 hK9 => x_region ?_
  refine s_go s_move ?_
  try simp only [nY]
  refine s_go s_move ?_
  try simp only [nY]
  refine s_go (m_fieldAddr U27 (hi := ti23)) ?_
  try simp only [nY, fY, gY]
  refine s_go (m_load_obj U23 (hS := hS) (hv := by exact zi_get rfl (by omega))) ?_
  try simp only [nY, gY]
  rw [hx.e1]
  refine s_go (m_fieldAddr U27 (hi := ti25)) ?_
  try simp only [nY, fY, gY]
  refine s_go (m_loada_obj U25 (hi := ti25) (hS := hS) (hfit := by omega)) ?_
  try simp only [nY, gY]
  rw [op_item hxl]
  refine s_go (m_fieldAddr U27 (hi := ti3)) ?_
  try simp only [nY, fY, gY]
  refine s_go (m_load_obj U3 (hS := hS) (hv := by exact zi_get rfl (by omega))) ?_
  try simp only [nY, gY]
  rw [show x.getD 10 0 = opN x from rfl]
  refine s_call en69 ?_
  try simp only [nY, mY]
  refine CallR.mono (c_ref15Turn _ A c l (hS.hasA) hv (by omega) r hr8 (kn x 1) hcx (kitem x) hil hbi (opN x) hm1 hm2 2 (by decide)) ?_
  rintro _ w3 ⟨Dt, dt, rfl, hC3⟩
  replace hS := hS.call hC3
  simp only [List.cons_append, List.nil_append] at hS
  try simp only [nY]
  refine s_go s_move ?_
  try simp only [nY]
  refine s_go (s_extract (hv := rfl)) ?_
  try simp only [gY]
  try simp only [nY]
  refine s_go (s_extract (hv := rfl)) ?_
  try simp only [gY]
  try simp only [nY]
  refine s_go s_assign ?_
  try simp only [nY]
  refine s_go s_assign ?_
  try simp only [nY]
  refine x_nil (hK9 _ _ ?_)
  refine x_seq fun K10 hK10 => x_region ?_
  refine s_go s_move ?_
  try simp only [nY]
  refine s_go s_move ?_
  try simp only [nY]
  refine s_call en14 ?_
  try simp only [nY, mY]
  refine CallR.mono (c_ref10Join _ Da da (addP l r (kn x 1) (kitem x)) (hS.vecA) hpo Dt dt (turnP l 2 r (kn x 1) (kitem x) (opN x)) (hS.vecRd (by repeat (exact Has.head))) hto (by omega)) ?_
  rintro _ w4 ⟨Dj, dj, rfl, hC4⟩
  replace hS := hS.call hC4
  simp only [List.cons_append, List.nil_append] at hS
  try simp only [nY]
  refine s_go s_move ?_
  try simp only [nY]
  refine s_go s_assign ?_
  try simp only [nY]
  refine s_go s_assign ?_
  try simp only [nY]
  refine x_nil (hK10 _ _ ?_)
  refine x_ret (r_tmp2 rfl ?_)
  rw [hmE, ad_0 hA]
  exact ⟨_, _, _, rfl, fun q => hmP.symm, hS.sel (by repeat (first | exact Sel.nil | (refine Sel.cons (by repeat (exact Del.head)) ?_)))⟩
 try simp only [dY] at hc1
 refine x_seq fun K11 hK11 => x_region ?_
 refine s_go s_eql ?_
 try simp only [nY]
 refine s_go s_assign ?_
 try simp only [nY]
 refine x_nil (hK11 _ _ ?_)
 refine x_cond (ht := fun hc3 => ?_) (hf := fun hc3 => ?_)
 ·
  try simp only [dY] at hc3
  have hmE : mkE l r x = rmE l r (kn x 1) (kitem x) := by rw [mkE, if_neg (by omega), if_pos (by omega)]
  have hmP : mkP l r x = rmP l r (kn x 1) (kitem x) := by rw [mkP, if_neg (by omega), if_pos (by omega)]
  refine x_seq fun K12 hK12 => x_region ?_
  refine s_go s_move ?_
  try simp only [nY]
  refine s_go s_move ?_
  try simp only [nY]
  refine s_go (m_fieldAddr U27 (hi := ti23)) ?_
  try simp only [nY, fY, gY]
  refine s_go (m_load_obj U23 (hS := hS) (hv := by exact zi_get rfl (by omega))) ?_
  try simp only [nY, gY]
  rw [hx.e1]
  refine s_go (m_fieldAddr U27 (hi := ti25)) ?_
  try simp only [nY, fY, gY]
  refine s_go (m_loada_obj U25 (hi := ti25) (hS := hS) (hfit := by omega)) ?_
  try simp only [nY, gY]
  rw [op_item hxl]
  refine s_call en70 ?_
  try simp only [nY, mY]
  refine CallR.mono (c_ref18remove _ A c l (hS.hasA) hv hn r hr8 (kn x 1) hcx (kitem x) hil hbi) ?_
  rintro _ w5 ⟨Dj, dj, rfl, hC5⟩
  replace hS := hS.call hC5
  simp only [List.cons_append, List.nil_append] at hS
  try simp only [nY]
  refine s_go (s_extract (hv := rfl)) ?_
  try simp only [gY]
  try simp only [nY]
  refine s_go (s_extract (hv := rfl)) ?_
  try simp only [gY]
  try simp only [nY]
  refine s_go s_assign ?_
  try simp only [nY]
  refine s_go s_assign ?_
  try simp only [nY]
  refine x_nil (hK12 _ _ ?_)
  refine x_ret (r_tmp2 rfl ?_)
  rw [hmE]
  exact ⟨_, _, _, rfl, fun q => hmP.symm, hS.sel (by repeat (first | exact Sel.nil | (refine Sel.cons (by repeat (exact Del.head)) ?_)))⟩
 try simp only [dY] at hc3
 refine x_seq fun K13 hK13 => x_region ?_
 refine s_go s_eql ?_
 try simp only [nY]
 refine s_go s_assign ?_
 try simp only [nY]
 refine x_nil (hK13 _ _ ?_)
 refine x_cond (ht := fun hc4 => ?_) (hf := fun hc4 => ?_)
 ·
  try simp only [dY] at hc4
  have hmE : mkE l r x = stE l r x := by rw [mkE, if_neg (by omega), if_neg (by omega), if_pos (by omega)]
  have hmP : mkP l r x = stP l r x := by rw [mkP, if_neg (by omega), if_neg (by omega), if_pos (by omega)]
  have hON := hONN (.inr (by omega))
  refine x_seq fun K14 hK14 => ?_
  refine x_mixed_f [] 0 [6, 7, 63, 64, 65, 66, 67, 68, 69, 70, 71, 72, 73, 74, 75, 76, 77, 78, 79, 80] (fun f w => ∃ (O : Option Addr) (oc : Nat), f 6 = .slice O (stP l r x).length oc ∧ f 7 = .int .i64 (stE l r x) ∧ St NoB w0 w [.vec O oc 66 21 (stP l r x).length (arows (stP l r x))]) (by kernel_rfl) (by kernel_rfl) (by kernel_rfl) (by decide) hS (fun w6 hS => ?mixpre1101) ?mixrest1101
  case mixpre1101 =>
   refine p_nil ?_
   simp only [List.length_cons, List.length_nil, Nat.reduceAdd, Nat.reduceSub]
   refine any_gn 0 rfl (go_yields w_none (fun w hS => s_move)) ?_
   try simp only [nY]
   refine any_gn 1 rfl (go_yields w_none (fun w hS => s_move)) ?_
   try simp only [nY]
   refine any_gn 2 rfl (go_yields w_none (fun w hS => m_fieldAddr U27 (hi := ti23))) ?_
   try simp only [nY, fY, gY]
   refine any_gn 3 rfl (go_yields w_none (fun w hS => m_load_obj U23 (hS := hS) (hv := by exact zi_get rfl (by omega)))) ?_
   try simp only [nY, gY]
   rw [hx.e1]
   refine any_gn 4 rfl (go_yields w_none (fun w hS => m_fieldAddr U27 (hi := ti25))) ?_
   try simp only [nY, fY, gY]
   refine any_gn 5 rfl (go_yields w_none (fun w hS => m_loada_obj U25 (hi := ti25) (hS := hS) (hfit := by omega))) ?_
   try simp only [nY, gY]
   rw [op_item hxl]
   refine any_gn 6 rfl (go_yields w_none (fun w hS => m_fieldAddr U27 (hi := ti3))) ?_
   try simp only [nY, fY, gY]
   refine any_gn 7 rfl (go_yields w_none (fun w hS => m_load_obj U3 (hS := hS) (hv := by exact zi_get rfl (by omega)))) ?_
   try simp only [nY, gY]
   rw [show x.getD 10 0 = opN x from rfl]
   refine any_gn 8 rfl (go_yields w_none (fun w hS => s_move)) ?_
   try simp only [nY]
   refine any_gn 9 rfl (go_yields w_none (fun w hS => m_fieldAddr U27 (hi := ti23))) ?_
   try simp only [nY, fY, gY]
   refine any_gn 10 rfl (go_yields w_none (fun w hS => m_load_obj U23 (hS := hS) (hv := by exact zi_get rfl (by omega)))) ?_
   try simp only [nY, gY]
   rw [hx.e1]
   refine any_gn 11 rfl (go_yields w_none (fun w hS => m_fieldAddr U27 (hi := ti25))) ?_
   try simp only [nY, fY, gY]
   refine any_gn 12 rfl (go_yields w_none (fun w hS => m_loada_obj U25 (hi := ti25) (hS := hS) (hfit := by omega))) ?_
   try simp only [nY, gY]
   rw [op_item hxl]
   apply any_gn 13 rfl (call_yields w_none en20 ?H1) ?K1
   case H1 =>
     intro w hS
     try simp only [nY, mY]
     refine CallR.mono (c_ref15Total _ A c l (hS.hasA) hv (by omega) _ hcx _ hil hbi) ?_
     rintro _ w1 ⟨rfl, hE⟩; exact ⟨rfl, hE⟩
   try simp only [nY]
   refine any_gn 14 rfl (go_yields w_none (fun w hS => s_sub (hc := by exact wr_i64 (by omega) (by omega)))) ?_
   try simp only [nY]
   rw [show opN x - totL (normP l) (kn x 1) (kitem x) = stN l x from rfl]
   refine any_step [15] (by kernel_rfl) (by decide) (fun w7 hE => ⟨fun _ => (hS.ext hE).sel (by repeat (first | exact Sel.nil | (refine Sel.cons (by repeat (exact Del.head)) ?_))), ?_⟩)
   replace hS := hS.ext hE
   intro i hi
   simp only [List.mem_cons, List.not_mem_nil, or_false] at hi
   subst hi
   refine any_op (by rfl) ?_
   refine s_call en71 ?_
   try simp only [nY, mY]
   refine CallR.mono (c_ref15Shift _ A c l (hS.hasA) hv (by omega) r hr8 (kn x 1) hcx (kitem x) hil hbi (stN l x) (by unfold stN; omega) (by unfold stN; omega)) ?_
   rintro _ w8 ⟨Dt, dt, rfl, hC8⟩
   replace hS := hS.call hC8
   simp only [List.cons_append, List.nil_append] at hS
   try simp only [nY]
   refine x_nil ?_
   refine any_gn 16 rfl (go_yields w_none (fun w hS => s_extract (hv := rfl))) ?_
   try simp only [gY]
   try simp only [nY]
   refine any_gn 17 rfl (go_yields w_none (fun w hS => s_extract (hv := rfl))) ?_
   try simp only [gY]
   try simp only [nY]
   refine any_gn 18 rfl (go_yields w_none (fun w hS => s_assign)) ?_
   try simp only [nY]
   refine any_gn 19 rfl (go_yields w_none (fun w hS => s_assign)) ?_
   try simp only [nY]
   refine any_nil (by kernel_rfl) (fun w9 hE => ?_)
   replace hS := hS.ext hE
   refine ⟨fun _ => hS.selA, ?_⟩
   refine mix_leaf (by simp only [clob, List.foldl, nZ]) ?_
   try simp only [n1, n2]
   exact ⟨_, _, by trivial, by trivial, hS.sel (by repeat (first | exact Sel.nil | (refine Sel.cons (by repeat (exact Del.head)) ?_)))⟩
  intro fm1 w10 hM
  obtain ⟨Dt, dt, hf6, hf7, hS⟩ := hM
  simp only [clob, List.foldl, n3, n4, hf6, hf7]
  refine hK14 _ _ ?_
  refine x_ret (r_tmp2 rfl ?_)
  rw [hmE]
  exact ⟨_, _, _, rfl, fun q => hmP.symm, hS.sel (by repeat (first | exact Sel.nil | (refine Sel.cons (by repeat (exact Del.head)) ?_)))⟩
 try simp only [dY] at hc4
 refine x_seq fun K15 hK15 => x_region ?_
 refine s_go s_eql ?_
 try simp only [nY]
 refine s_go s_assign ?_
 try simp only [nY]
 refine x_nil (hK15 _ _ ?_)
 refine x_cond (ht := fun hc5 => ?_) (hf := fun hc5 => ?_)
 ·
  try simp only [dY] at hc5
  have hmE : mkE l r x = noteE l r (opT x) (kn x 1) := by rw [mkE, if_neg (by omega), if_neg (by omega), if_neg (by omega), if_pos (by omega)]
  have hmP : mkP l r x = noteP l r (opT x) (kn x 1) := by rw [mkP, if_neg (by omega), if_neg (by omega), if_neg (by omega), if_pos (by omega)]
  refine x_seq fun K16 hK16 => x_region ?_
  refine s_go s_move ?_
  try simp only [nY]
  refine s_go s_move ?_
  try simp only [nY]
  refine s_go (m_fieldAddr U27 (hi := ti23)) ?_
  try simp only [nY, fY, gY]
  refine s_go (m_load_obj U23 (hS := hS) (hv := by exact zi_get rfl (by omega))) ?_
  try simp only [nY, gY]
  rw [hx.e1]
  refine s_go (m_fieldAddr U27 (hi := ti25)) ?_
  try simp only [nY, fY, gY]
  refine s_go (m_loada_obj U25 (hi := ti25) (hS := hS) (hfit := by omega)) ?_
  try simp only [nY, gY]
  rw [op_text hxl]
  refine s_call en72 ?_
  try simp only [nY, mY]
  refine CallR.mono (c_ref16Put _ A c l (hS.hasA) hv (by omega) r hr8 (kn x 1) hcx (opT x) htl hbt) ?_
  rintro _ w11 ⟨Dt, dt, rfl, hC11⟩
  replace hS := hS.call hC11
  simp only [List.cons_append, List.nil_append] at hS
  try simp only [nY]
  refine s_go (s_extract (hv := rfl)) ?_
  try simp only [gY]
  try simp only [nY]
  refine s_go (s_extract (hv := rfl)) ?_
  try simp only [gY]
  try simp only [nY]
  refine s_go s_assign ?_
  try simp only [nY]
  refine s_go s_assign ?_
  try simp only [nY]
  refine x_nil (hK16 _ _ ?_)
  refine x_ret (r_tmp2 rfl ?_)
  rw [hmE]
  exact ⟨_, _, _, rfl, fun q => hmP.symm, hS.sel (by repeat (first | exact Sel.nil | (refine Sel.cons (by repeat (exact Del.head)) ?_)))⟩
 try simp only [dY] at hc5
 have hmE : mkE l r x = clE l r (kn x 1) (itmS (normP l) (kn x 1)) := by rw [mkE, if_neg (by omega), if_neg (by omega), if_neg (by omega), if_neg (by omega)]
 have hmP : mkP l r x = clP l r (kn x 1) (itmS (normP l) (kn x 1)) := by rw [mkP, if_neg (by omega), if_neg (by omega), if_neg (by omega), if_neg (by omega)]
 refine x_skip ?_
 refine hK2 _ _ ?_
 refine x_seq fun K17 hK17 => x_region ?_
 refine s_go s_assign ?_
 try simp only [nY]
 refine x_nil (hK17 _ _ ?_)
 refine x_seq fun K18 hK18 => x_region ?_
 refine s_go s_move ?_
 try simp only [nY]
 refine s_go (m_fieldAddr U27 (hi := ti23)) ?_
 try simp only [nY, fY, gY]
 refine s_go (m_load_obj U23 (hS := hS) (hv := by exact zi_get rfl (by omega))) ?_
 try simp only [nY, gY]
 rw [hx.e1]
 refine s_call en48 ?_
 try simp only [nY, mY]
 refine CallR.mono (c_ref14Items _ A c l (hS.hasA) hv (by omega) (kn x 1) hcx) ?_
 rintro _ w12 ⟨Ot, ot, rfl, hC12⟩
 replace hS := hS.call hC12
 simp only [List.cons_append, List.nil_append] at hS
 replace hS := hS.vec_rd (by exact Upd.head)
 have hio := itm_ok hno (kn x 1)
 have hilen := itm_len (normP l) (kn x 1)
 have hnb := norm_len l
 obtain ⟨t, ht⟩ : ∃ t, itmS (normP l) (kn x 1) = t := ⟨_, rfl⟩
 rw [ht] at hS hio hilen hmE hmP ⊢
 have hn8 := nrows_len t
 have hi8 : ∀ y ∈ t, y.length = 8 := fun y hy => (hio y hy).1
 try simp only [nY]
 refine s_go s_assign ?_
 try simp only [nY]
 refine x_nil (hK18 _ _ ?_)
 refine x_seq fun K19 hK19 => ?_
 refine x_seq fun K20 hK20 => x_region ?_
 refine s_go s_assign ?_
 try simp only [nY]
 refine x_nil (hK20 _ _ ?_)
 refine x_block ?_
 refine x_loop [6, 7, 12, 14, 15, 16, 96, 97, 98, 99, 100, 101, 102, 103, 104, 105, 106, 107, 108, 109, 110, 111, 112, 113, 114, 115, 116, 117, 118, 119] (fun m f w => ∃ (k : Nat) (O : Option Addr) (oc : Nat), k ≤ t.length ∧ m = t.length - k ∧ f 14 = .int .i64 (k : Int) ∧ f 12 = .slice O (clP l r (kn x 1) (t.take k)).length oc ∧ clE l r (kn x 1) (t.take k) = 0 ∧ St NoB w0 w [.vec O oc 66 21 (clP l r (kn x 1) (t.take k)).length (arows (clP l r (kn x 1) (t.take k))), .rd Ot 8 t.length (nrows t), .rd A 21 (l).length (arows (l)), .obj gx (.cells (OA x) 27 (0, 0))]) (t.length) ?init1 (fun m1 f1 wl1 hI => ?_)
 case init1 =>
  try simp only [nY]
  replace hS := hS.nil_vec 66 21
  exact ⟨0, none, 0, by omega, rfl, rfl, rfl, rfl, hS.selA⟩
 obtain ⟨k, O, oc, hk0, hmk, hf14, hf12, hcl, hS⟩ := hI
 simp only [clob, List.foldl, n3, n4, hf14, hf12]
 obtain ⟨y, hy⟩ : ∃ y, t.getD k [] = y := ⟨_, rfl⟩
 have hcall := clP_all (ns := t.take k) hv hn hr8 hcx (fun y hy => hio y (List.mem_of_mem_take hy))
 have htk : (t.take k).length = k := by rw [List.length_take]; omega
 rw [htk] at hcall
 refine x_seq fun K21 hK21 => ?_
 refine x_seq fun K22 hK22 => x_region ?_
 refine s_go s_move ?_
 try simp only [nY]
 refine s_go s_move ?_
 try simp only [nY]
 refine s_go (s_len_sl U89) ?_
 try simp only [nY]
 refine s_go s_lss ?_
 try simp only [nY]
 refine x_nil (hK22 _ _ ?_)
 refine x_cond (ht := fun hc6 => ?_) (hf := fun hc6 => ?_)
 ·
  try simp only [dY] at hc6
  have hyo : y.length = 8 ∧ Byt y := by rw [← hy]; exact hio _ (getD_mem' (by omega))
  have hst : clP l r (kn x 1) (t.take (k + 1)) = normP (clP l r (kn x 1) (t.take k) ++ rmP l r (kn x 1) y) := by rw [take_snoc (by omega), hy, clP_snoc]
  have hrl := rmP_len l r (kn x 1) y
  have hro := rmP_ok hv hn hr8 hcx hyo.1 hyo.2
  refine x_skip ?_
  refine hK21 _ _ ?_
  refine x_seq fun K23 hK23 => ?_
  refine x_block ?_
  refine x_seq fun K24 hK24 => ?_
  refine x_mixed_f [] 0 [15, 16, 102, 103, 104, 105, 106, 107, 108, 109, 110, 111, 112, 113] (fun f w => ∃ (O2 : Option Addr) (oc2 : Nat), f 15 = .slice O2 (rmP l r (kn x 1) y).length oc2 ∧ f 16 = .int .i64 (rmE l r (kn x 1) y) ∧ St NoB w0 w [.vec O2 oc2 66 21 (rmP l r (kn x 1) y).length (arows (rmP l r (kn x 1) y)), .vec O oc 66 21 (clP l r (kn x 1) (t.take k)).length (arows (clP l r (kn x 1) (t.take k))), .rd Ot 8 t.length (nrows t), .rd A 21 (l).length (arows (l)), .obj gx (.cells (OA x) 27 (0, 0))]) (by kernel_rfl) (by kernel_rfl) (by kernel_rfl) (by decide) hS (fun w13 hS => ?mixpre1902) ?mixrest1902
  case mixpre1902 =>
   refine p_nil ?_
   simp only [List.length_cons, List.length_nil, Nat.reduceAdd, Nat.reduceSub]
   refine any_gn 0 rfl (go_yields w_none (fun w hS => s_move)) ?_
   try simp only [nY]
   refine any_gn 1 rfl (go_yields w_none (fun w hS => s_move)) ?_
   try simp only [nY]
   refine any_gn 2 rfl (go_yields w_none (fun w hS => m_fieldAddr U27 (hi := ti23))) ?_
   try simp only [nY, fY, gY]
   refine any_gn 3 rfl (go_yields w_none (fun w hS => m_load_obj U23 (hS := hS) (hv := by exact zi_get rfl (by omega)))) ?_
   try simp only [nY, gY]
   rw [hx.e1]
   refine any_gn 4 rfl (go_yields w_none (fun w hS => s_move)) ?_
   try simp only [nY]
   refine any_gn 5 rfl (go_yields w_none (fun w hS => s_move)) ?_
   try simp only [nY]
   refine any_gn 6 rfl (go_yields w_none (fun w hS => m_indexAddr_rd U89 ti25 (hS := hS))) ?_
   try simp only [nY, Nat.mul_one, Nat.zero_add, Int.toNat_natCast, Int.reduceToNat]
   refine any_gn 7 rfl (go_yields w_none (fun w hS => m_loada_rd U25 (hi := ti25) (hS := hS) (hfit := by rw [nrows_len]; omega))) ?_
   try simp only [nY, gY]
   rw [nrow_get (by omega) hi8, hy]
   refine any_step [8] (by kernel_rfl) (by decide) (fun w14 hE => ⟨fun _ => (hS.ext hE).sel (by repeat (first | exact Sel.nil | (refine Sel.cons (by repeat (exact Del.head)) ?_))), ?_⟩)
   replace hS := hS.ext hE
   intro i hi
   simp only [List.mem_cons, List.not_mem_nil, or_false] at hi
   subst hi
   refine any_op (by rfl) ?_
   refine s_call en70 ?_
   try simp only [nY, mY]
   refine CallR.mono (c_ref18remove _ A c l (hS.hasA) hv hn r hr8 (kn x 1) hcx y hyo.1 hyo.2) ?_
   rintro _ w15 ⟨Dr, dr, rfl, hC15⟩
   replace hS := hS.call hC15
   simp only [List.cons_append, List.nil_append] at hS
   try simp only [nY]
   refine x_nil ?_
   refine any_gn 9 rfl (go_yields w_none (fun w hS => s_move)) ?_
   try simp only [nY]
   refine any_gn 10 rfl (go_yields w_none (fun w hS => s_extract (hv := rfl))) ?_
   try simp only [gY]
   try simp only [nY]
   refine any_gn 11 rfl (go_yields w_none (fun w hS => s_extract (hv := rfl))) ?_
   try simp only [gY]
   try simp only [nY]
   refine any_gn 12 rfl (go_yields w_none (fun w hS => s_assign)) ?_
   try simp only [nY]
   refine any_gn 13 rfl (go_yields w_none (fun w hS => s_assign)) ?_
   try simp only [nY]
   refine any_nil (by kernel_rfl) (fun w16 hE => ?_)
   replace hS := hS.ext hE
   refine ⟨fun _ => hS.selA, ?_⟩
   refine mix_leaf (by simp only [clob, List.foldl, nZ]) ?_
   try simp only [n1, n2]
   exact ⟨_, _, by trivial, by trivial, hS.sel (by repeat (first | exact Sel.nil | (refine Sel.cons (by repeat (exact Del.head)) ?_)))⟩
  intro fm2 w17 hM
  obtain ⟨Dr, dr, hf15, hf16, hS⟩ := hM
  simp only [clob, List.foldl, n3, n4, hf15, hf16]
  refine hK24 _ _ ?_
  refine x_seq fun K25 hK25 => ?_
  refine x_seq fun K26 hK26 => x_region ?_
  refine s_go s_move ?_
  try simp only [nY]
  refine s_go s_neq ?_
  try simp only [nY]
  refine x_nil (hK26 _ _ ?_)
  refine x_cond (ht := fun hc7 => ?_) (hf := fun hc7 => ?_)
  ·
   try simp only [dY] at hc7
   have hE1 : ¬ rmE l r (kn x 1) y = 0 := hc7
   have hca := clE_at (by omega) hy hcl hE1
   refine x_seq fun K27 hK27 => x_region ?_
   refine s_go s_move ?_
   try simp only [nY]
   refine s_go s_assign ?_
   try simp only [nY]
   refine s_go s_assign ?_
   try simp only [nY]
   refine x_nil (hK27 _ _ ?_)
   refine x_ret (r_tmp2 rfl ?_)
   rw [hmE, hca]
   exact ⟨none, 0, [], rfl, fun q => absurd q hE1, (hS.nil_vec 66 21).sel (by repeat (first | exact Sel.nil | (refine Sel.cons (by repeat (exact Del.head)) ?_)))⟩
  try simp only [dY] at hc7
  have hcl2 := clE_step (by omega) hy hcl (show rmE l r (kn x 1) y = 0 by omega)
  refine x_skip ?_
  refine hK25 _ _ ?_
  refine x_region ?_
  refine s_go s_move ?_
  try simp only [nY]
  refine s_go s_move ?_
  try simp only [nY]
  refine s_call en14 ?_
  try simp only [nY, mY]
  refine CallR.mono (c_ref10Join _ O oc (clP l r (kn x 1) (t.take k)) (hS.vecA) hcall.1 Dr dr (rmP l r (kn x 1) y) (hS.vecRd (by repeat (exact Has.head))) hro (by omega)) ?_
  rintro _ w18 ⟨Dj, dj, rfl, hC18⟩
  replace hS := hS.call hC18
  simp only [List.cons_append, List.nil_append] at hS
  try simp only [nY]
  refine s_go s_assign ?_
  try simp only [nY]
  refine x_nil (hK23 _ _ ?_)
  refine x_region ?_
  refine s_go s_move ?_
  try simp only [nY]
  refine s_go (s_add (hc := by exact wr_i64 (by omega) (by omega))) ?_
  try simp only [nY]
  refine s_go s_assign ?_
  try simp only [nY]
  refine x_nil ?_
  refine loop_back (m' := t.length - (k + 1)) (by simp only [clob, List.foldl, nZ]) ?_ ?_
  · try simp only [nY]
    exact ⟨k + 1, _, _, by omega, by omega, by rfl, by rw [hst], hcl2, by rw [hst]; exact hS.selA⟩
  · omega
 try simp only [dY] at hc6
 obtain rfl : k = t.length := by omega
 rw [List.take_of_length_le (Nat.le_refl _)] at hS hcl ⊢
 refine x_exit (look_here ?_)
 refine hK19 _ _ ?_
 refine x_seq fun K28 hK28 => x_region ?_
 refine s_go s_move ?_
 try simp only [nY]
 refine s_go s_assign ?_
 try simp only [nY]
 refine s_go s_assign ?_
 try simp only [nY]
 refine x_nil (hK28 _ _ ?_)
 refine x_ret (r_tmp2 rfl ?_)
 rw [hmE, hcl]
 exact ⟨_, _, _, rfl, fun q => hmP.symm, hS.sel (by repeat (first | exact Sel.nil | (refine Sel.cons (by repeat (exact Del.head)) ?_)))⟩
end Go.Proofs.YtpekghaodmeemaaGreat
set_option linter.unusedSimpArgs false
set_option linter.unusedVariables false
set_option maxHeartbeats 400000
set_option maxRecDepth 100000
namespace Go.Proofs.YtpekghaodmeemaaGreat
open Go.RowKit
theorem c_shopDo (w0 : World) (A : Option Addr) (c : Nat) (l : List (List Int)) (hr : Rd w0 A 21 l.length (arows l)) (hv : AOks l) (hn : l.length ≤ 40000000) (m : Int) (r : Nat) (hr8 : r < 256) (x : List Int) (hx : OpOk x)  :
    CallR Tryz.prog 13 #[.slice A l.length c, .int .i64 m, .int .u8 (r : Int), .agg (OA x)] w0 fun v w' => ∃ (O : Option Addr) (oc : Nat), v = .tuple #[.slice O (dP (normP l) m r x).length oc, .int .i64 (dE (normP l) m r x)] ∧ St NoB w0 w' [.vec O oc 66 21 (dP (normP l) m r x).length (arows (dP (normP l) m r x))] := by
 obtain ⟨s, hs⟩ : ∃ s, normP l = s := ⟨_, rfl⟩
 have hst := norm_sta hv
 have hnb := norm_len l
 rw [hs] at hst hnb ⊢
 have hso := hst.ok
 have hsl : s.length ≤ 40000000 := by omega
 have hS := St.rd1 (S := NoB) hr
 have hxl := hx.len
 have hil := op_il hxl
 have htl := op_tl hxl
 have hk1 := hx.k1
 have hk2 := hx.k2
 have hm1 := hx.m1
 have hm2 := hx.m2
 have hbi := hx.item
 have hbt := hx.text
 have hcx := hx.b1
 have hxs := op_size hxl
 refine d_enter (pn := DPN s m r x w0) (l := [.slice A l.length c, .int .i64 m, .int .u8 (r : Int), .agg (OA x), undef, undef, undef, undef, undef, undef, undef, undef, undef, undef, undef, undef, undef, undef, undef, undef, undef, undef, undef, undef, undef, undef, undef, undef, undef, undef, undef, undef, undef, undef, undef, undef, undef, undef, undef, undef, undef, undef, undef, undef, undef, undef, undef, undef, undef, undef, undef, undef, undef, undef, undef, undef, undef, undef, undef]) Tryz.func13 rfl (by simp only [Tryz.ntmps13, List.size_toArray, List.length_cons, List.length_nil, Nat.reduceAdd, Nat.reduceSub, Array.replicate_succ, Array.replicate_zero, List.push_toArray, List.append_toArray, List.nil_append, List.cons_append]) ?_ ?pnok
 case pnok =>
  exact fun a v w h => do_pan a v w h
 refine z_seq fun K1 hK1 => ?_
 refine z_region ?_
 refine m_box hS (fun w1 g1 hS => ?_)
 try simp only [nY, aY] at hS ⊢
 obtain ⟨gx, hgx⟩ : ∃ z, z = g1 := ⟨_, rfl⟩
 rw [← hgx] at hS ⊢
 refine m_alloc ti22 hS (fun w2 g2 hS => ?_)
 try simp only [nY, aY] at hS ⊢
 obtain ⟨gd, hgd⟩ : ∃ z, z = g2 := ⟨_, rfl⟩
 rw [← hgd] at hS ⊢
 refine m_alloc ti39 hS (fun w3 g3 hS => ?_)
 try simp only [nY, aY] at hS ⊢
 obtain ⟨ge, hge⟩ : ∃ z, z = g3 := ⟨_, rfl⟩
 rw [← hge] at hS ⊢
 refine z_nilf ?_
 refine hK1 _ _ ?_
 refine z_seq fun K2 hK2 => ?_
 refine z_defer 1 rfl ?_
 simp only [List.take_succ_cons, List.take_zero]
 refine s_go s_makeFunc ?_
 try simp only [nY, List.map_toArray, List.map_cons, List.map_nil]
 refine z_nil ⟨_, _, _, rfl, rfl, ?_⟩
 refine hK2 _ _ ?_
 refine z_seq fun K3 hK3 => ?_
 refine z_seq fun K4 hK4 => ?_
 refine z_region ?_
 refine s_go (m_load_row U27 (hi := ti27) (hS := hS) (hfit := by omega)) ?_
 try simp only [nY, gY]
 refine s_call en16 ?_
 try simp only [nY, mY]
 refine CallR.mono (c_shopRight _ (by assumption) _) ?_
 rintro _ w4 ⟨rfl, hE4⟩
 replace hS := hS.ext hE4
 try simp only [nY]
 refine s_go s_assign ?_
 try simp only [nY]
 refine z_nilf ?_
 refine hK4 _ _ ?_
 refine z_seq fun K5 hK5 => ?_
 refine z_region ?_
 refine s_go s_move ?_
 try simp only [nY]
 refine s_go s_neq ?_
 try simp only [nY]
 refine z_nilf ?_
 refine hK5 _ _ ?_
 refine z_cond (ht := fun hc1 => ?_) (hf := fun hc1 => ?_)
 ·
  try simp only [dY] at hc1
  have hE : ¬ opE x = 0 := hc1
  refine z_seq fun K6 hK6 => ?_
  refine z_region ?_
  refine s_go s_move ?_
  try simp only [nY]
  refine m_store_obj ti22 (hS := hS) (hc := by (exact splice_whole (by (simp [opv, Value.cells, *]; done)))) (hv := by rfl) (hfit := by (simp only [ic_size, List.length_map, List.size_toArray]; decide)) (h1 := by simp [opv, Value.cells, Value.oneCell']) (h := fun w5 hS => ?_)
  try simp only [nY, aY] at hS ⊢
  refine m_store_obj ti39 (hS := hS) (hc := by (exact splice_whole (by (simp [opv, Value.cells, *]; done)))) (hv := by rfl) (hfit := by (simp only [ic_size, List.length_map, List.size_toArray]; decide)) (h1 := by simp [opv, Value.cells, Value.oneCell']) (h := fun w6 hS => ?_)
  try simp only [nY, aY] at hS ⊢
  refine z_nilf ?_
  refine hK6 _ _ ?_
  refine z_ret ?_
  refine do_ret (gd := gd) (ge := ge) (fun w99 hE99 => ?_)
  replace hS := hS.ext hE99
  refine r_cell_cell_oo rfl U22 U39 (hS := hS) (hR := ?_)
  rw [dP_no (by rw [dE_e hE]; exact hE), dE_e hE]
  exact ⟨_, _, rfl, (hS.nil_vec 66 21).sel (by repeat (first | exact Sel.nil | (refine Sel.cons (by repeat (exact Del.head)) ?_)))⟩
 try simp only [dY] at hc1
 have hE0 : opE x = 0 := by omega
 obtain ⟨hK, hOn, hONN, hOt⟩ := opE_ok hE0
 refine z_skip ?_
 refine hK3 _ _ ?_
 refine z_seq fun K7 hK7 => ?_
 refine z_region ?_
 refine s_go s_move ?_
 try simp only [nY]
 refine s_go s_lss ?_
 try simp only [nY]
 refine zp_call en33 ?_
 try simp only [nY, mY]
 refine CallP.mono (c_need (decide ((r : Int) < 16)) 1 _) ?zr7 ?zp7
 case zp7 =>
  rintro _ w7 ⟨hg7, rfl, hE7⟩
  have hd7 : dE s m r x = 1 := dE_r hE0 (by have := of_decide_eq_false hg7; omega)
  exact ⟨gd, ge, _, 0, rfl, rfl, rfl, by rw [hd7]; decide, by rw [hd7], (hS.ext hE7).sel (by repeat (first | exact Sel.nil | (refine Sel.cons (by repeat (first | exact Del.head | apply Del.tail)) ?_)))⟩
 rintro _ w7 ⟨hg7, hE7⟩
 replace hS := hS.ext hE7
 have hr16 : ¬ 16 ≤ r := by have := of_decide_eq_true hg7; omega
 try simp only [nY]
 refine z_nilf ?_
 refine hK7 _ _ ?_
 refine z_seq fun K8 hK8 => ?_
 refine z_region ?_
 refine s_go s_move ?_
 try simp only [nY]
 refine s_call en27 ?_
 try simp only [nY, mY]
 refine CallR.mono (c_latNorm _ A c l (hS.hasA) hv (by omega)) ?_
 rintro _ w8 ⟨An, cn, rfl, hC8⟩
 replace hS := hS.call hC8
 simp only [List.cons_append, List.nil_append] at hS
 rw [hs] at hS ⊢
 try simp only [nY]
 refine s_go s_assign ?_
 try simp only [nY]
 refine z_nilf ?_
 refine hK8 _ _ ?_
 refine z_seq fun K9 hK9 => ?_
 refine z_seq fun K10 hK10 => ?_
 refine z_region ?_
 refine s_go (m_fieldAddr U27 (hi := ti3)) ?_
 try simp only [nY, fY, gY]
 refine s_go (m_load_obj U3 (hS := hS) (hv := by exact zi_get rfl (by omega))) ?_
 try simp only [nY, gY]
 rw [show x.getD 0 0 = opK x from rfl]
 refine s_go s_eql ?_
 try simp only [nY]
 refine s_go s_move ?_
 try simp only [nY]
 refine s_part 26 rfl (fun hp1 => ?_) (fun hp1 => ?_)
 ·
  try simp only [n3, n4]
  try simp only [dZ, ne_eq] at hp1
  refine g_off (yi (t := 26) rfl rfl) ?_
  try simp only [nY]
  refine g_off (yi (t := 26) rfl rfl) ?_
  try simp only [nY]
  refine g_off (yi (t := 26) rfl rfl) ?_
  try simp only [nY]
  refine s_go s_pick_t ?_
  try simp only [nY]
  refine z_nilf ?_
  refine hK10 _ _ ?_
  refine z_cond_t (h := ?_)
  have hk23x : opK x = 2 ∨ opK x = 3 := by omega
  refine z_region ?_
  refine s_go s_move ?_
  try simp only [nY]
  refine s_go (m_fieldAddr U27 (hi := ti23)) ?_
  try simp only [nY, fY, gY]
  refine s_go (m_load_obj U23 (hS := hS) (hv := by exact zi_get rfl (by omega))) ?_
  try simp only [nY, gY]
  rw [hx.e1]
  refine s_go (m_fieldAddr U27 (hi := ti25)) ?_
  try simp only [nY, fY, gY]
  refine s_go (m_loada_obj U25 (hi := ti25) (hS := hS) (hfit := by omega)) ?_
  try simp only [nY, gY]
  rw [op_item hxl]
  refine s_call en34 ?_
  try simp only [nY, mY]
  refine CallR.mono (c_tagsPresent _ An cn s (hS.vecRd (by repeat (exact Has.head))) hso (by omega) _ hcx _ hil) ?_
  rintro _ w9 ⟨rfl, hE9⟩
  replace hS := hS.ext hE9
  try simp only [nY]
  rw [show decide (0 < (((tagS (normP s) (kn x 1) (kitem x) 1).map akey).length : Int)) = qtyB s (kn x 1) (kitem x) by rw [qtyB]; exact decide_eq_decide.2 (by omega)]
  refine zp_call en33 ?_
  try simp only [nY, mY]
  refine CallP.mono (c_need (qtyB s (kn x 1) (kitem x)) 6 _) ?zr10 ?zp10
  case zp10 =>
   rintro _ w10 ⟨hg10, rfl, hE10⟩
   have hd10 : dE s m r x = 6 := dE_n hE0 hr16 ⟨hk23x, hg10⟩
   exact ⟨gd, ge, _, 0, rfl, rfl, rfl, by rw [hd10]; decide, by rw [hd10], (hS.ext hE10).sel (by repeat (first | exact Sel.nil | (refine Sel.cons (by repeat (first | exact Del.head | apply Del.tail)) ?_)))⟩
  rintro _ w10 ⟨hg10, hE10⟩
  replace hS := hS.ext hE10
  have hP : ¬ ((opK x = 2 ∨ opK x = 3) ∧ qtyB s (kn x 1) (kitem x) = false) := fun q => by rw [hg10] at q; cases q.2
  try simp only [nY]
  refine z_nilf ?_
  refine hK9 _ _ ?_
  refine z_seq fun K11 hK11 => ?_
  refine z_mixed_c (Lc := [.obj gx (.cells (OA x) 27 (0, 0))]) [9] [38, 39, 40, 41, 42, 43, 44, 45, 46] (fun f w => ∃ (O : Option Addr) (oc : Nat), mkE s r x = 0 ∧ St NoB w0 w [.vec O oc 66 21 (mkP s r x).length (arows (mkP s r x)), .obj gd (.cells #[.slice O (mkP s r x).length oc] 22 (0, 0)), .obj ge (.cells #[.int .i64 0] 39 (0, 0)), .vec An cn 66 21 (s).length (arows (s))]) (by kernel_rfl) hS (fun w11 hS => ?mixpre901) ?mixrest901
  case mixpre901 =>
   simp only [List.length_cons, List.length_nil, Nat.reduceAdd, Nat.reduceSub]
   refine zny_go (lo := 10) (i := 0) (dpn_ok.wd) (by rfl) (by decide) (by decide +kernel) (by decide +kernel) (by unfold noLate; decide) (go_yields w_none (fun w hS => s_move)) ?_
   try simp only [nY]
   refine zny_go (lo := 10) (i := 1) (dpn_ok.wd) (by rfl) (by decide) (by decide +kernel) (by decide +kernel) (by unfold noLate; decide) (go_yields w_none (fun w hS => s_move)) ?_
   try simp only [nY]
   refine zny_go (lo := 10) (i := 2) (dpn_ok.wd) (by rfl) (by decide) (by decide +kernel) (by decide +kernel) (by unfold noLate; decide) (go_yields w_none (fun w hS => m_load_row U27 (hi := ti27) (hS := hS) (hfit := by omega))) ?_
   try simp only [nY, gY]
   refine zny_go (lo := 10) (i := 3) (dpn_ok.wd) (by rfl) (by decide) (by decide +kernel) (by decide +kernel) (by unfold noLate; decide) (go_yields w_none (fun w hS => s_build_struct (cells := (MA (.slice An s.length cn) r x)) U78 ti78 bp78 (hc := by simp only [List.map_toArray, List.map_cons, List.map_nil, nY, List.toList_toArray]; exact fill_ma (by rfl) (by rfl) (by rfl) hxl))) ?_
   try simp only [nY]
   refine zny_go (lo := 10) (i := 5) (dpn_ok.wd) (by rfl) (by decide) (by decide +kernel) (by decide +kernel) (by unfold noLate; decide) (go_yields w_none (fun w hS => m_fieldAddr U27 (hi := ti3))) ?_
   try simp only [nY, fY, gY]
   refine zny_go (lo := 10) (i := 6) (dpn_ok.wd) (by rfl) (by decide) (by decide +kernel) (by decide +kernel) (by unfold noLate; decide) (go_yields w_none (fun w hS => m_load_obj U3 (hS := hS) (hv := by exact zi_get rfl (by omega)))) ?_
   try simp only [nY, gY]
   rw [show x.getD 0 0 = opK x from rfl]
   refine zny_step [4] (by kernel_rfl) (by decide) (fun w12 hE => ⟨fun _ => (hS.ext hE).sel (by repeat (first | exact Sel.nil | (refine Sel.cons (by repeat (first | exact Del.head | apply Del.tail)) ?_))), ?_⟩)
   replace hS := hS.ext hE
   intro i hi
   simp only [List.mem_cons, List.not_mem_nil, or_false] at hi
   subst hi
   refine zny_op (by rfl) ?_
   refine s_call en35 ?_
   try simp only [nY, mY]
   refine CallR.mono (c_kinds (.slice An s.length cn) r x hx _) ?_
   rintro _ w13 ⟨q1, q3, rfl, hC13⟩
   replace hS := hS.call hC13
   simp only [List.cons_append, List.nil_append] at hS
   replace hS := hS.obj_rd (sz := 21) (n := 1) (by exact ma_size hxl) (.head)
   replace hS := hS.obj_rd (sz := 19) (n := 1) (by exact op_size hxl) (.tail .head)
   try simp only [nY]
   refine z_nil ?_
   refine zny_go (lo := 10) (i := 7) (dpn_ok.wd) (by rfl) (by decide) (by decide +kernel) (by decide +kernel) (by unfold noLate; decide) (go_yields w_none (fun w hS => s_index_one U76 ti75 U75 (hv := kf_get hK))) ?_
   try simp only [nY, Nat.mul_one, Nat.zero_add, Int.toNat_natCast, Int.reduceToNat]
   refine zny_step [8] (by kernel_rfl) (by decide) (fun w14 hE => ⟨fun _ => (hS.ext hE).sel (by repeat (first | exact Sel.nil | (refine Sel.cons (by repeat (first | exact Del.head | apply Del.tail)) ?_))), ?_⟩)
   replace hS := hS.ext hE
   intro i hi
   simp only [List.mem_cons, List.not_mem_nil, or_false] at hi
   subst hi
   refine zny_op (by rfl) ?_
   refine zp_callv (hv := rfl) (kf_en hK) ?_
   simp only [List.map_toArray, List.map_nil]
   rw [show ([] : List Value).toArray ++ kcap (opK x) q1 q3 = kcap (opK x) q1 q3 from by simp]
   refine CallP.mono (c_kindAny _ An cn s (hS.vecA) hso hsl r hr8 x hx hK hONN q1 q3 (hS.hasRd (by repeat (exact Has.head))) (hS.hasA)) ?zrk14 ?zpk14
   case zpk14 =>
    rintro _ w97 ⟨hg97, rfl, hE97⟩
    have hd97 : dE s m r x = mkE s r x := dE_m hE0 hr16 hP hg97
    exact ⟨gd, ge, _, 0, rfl, rfl, rfl, by rw [hd97]; exact hg97, by rw [hd97], (hS.ext hE97).sel (by repeat (first | exact Sel.nil | (refine Sel.cons (by repeat (first | exact Del.head | apply Del.tail)) ?_)))⟩
   rintro _ w98 ⟨hmk, Od, od, rfl, hC98⟩
   replace hS := hS.call hC98
   simp only [List.cons_append, List.nil_append] at hS
   try simp only [nY]
   refine z_nil ?_
   refine zny_step [9] (by kernel_rfl) (by decide) (fun w15 hE => ⟨fun _ => (hS.ext hE).sel (by repeat (first | exact Sel.nil | (refine Sel.cons (by repeat (first | exact Del.head | apply Del.tail)) ?_))), ?_⟩)
   replace hS := hS.ext hE
   intro i hi
   simp only [List.mem_cons, List.not_mem_nil, or_false] at hi
   subst hi
   refine zny_op (by rfl) ?_
   refine m_store_obj ti22 (hS := hS) (hc := by (exact splice_whole (by (simp [opv, Value.cells, *]; done)))) (hv := by rfl) (hfit := by (simp only [ic_size, List.length_map, List.size_toArray]; decide)) (h1 := by simp [opv, Value.cells, Value.oneCell']) (h := fun w16 hS => ?_)
   try simp only [nY, aY] at hS ⊢
   refine z_nil ?_
   refine zny_nil (by kernel_rfl) (fun w17 hE => ?_)
   replace hS := hS.ext hE
   refine ⟨fun hl => absurd (hl 9 (by decide)) (by decide +kernel), ?_⟩
   refine mix_leaf (by simp only [clob, List.foldl, nZ]) ?_
   try simp only [n1, n2]
   exact ⟨_, _, hmk, hS.selA⟩
  intro fm1 w18 hM
  obtain ⟨Od, od, hmk, hS⟩ := hM
  simp only [clob, List.foldl, n3, n4]
  refine hK11 _ _ ?_
  refine z_seq fun K12 hK12 => ?_
  refine z_region ?_
  refine s_go s_move ?_
  try simp only [nY]
  refine s_go (m_load_obj U22 (hS := hS) (hv := by rfl)) ?_
  try simp only [nY, gY]
  obtain ⟨hmo, hml⟩ := mkP_all hso hsl hr8 hx hONN
  refine s_call en28 ?_
  try simp only [nY, mY]
  refine CallR.mono (c_latJoin _ An cn s (hS.vecA) hso Od od (mkP s r x) (hS.vecRd (by repeat (exact Has.head))) hmo (by omega)) ?_
  rintro _ w19 ⟨Aj, cj, rfl, hC19⟩
  replace hS := hS.call hC19
  simp only [List.cons_append, List.nil_append] at hS
  try simp only [nY]
  refine s_go (s_len_sl U22) ?_
  try simp only [nY]
  refine s_go s_assign ?_
  try simp only [nY]
  refine z_nilf ?_
  refine hK12 _ _ ?_
  refine z_seq fun K13 hK13 => ?_
  refine z_region ?_
  refine s_go s_move ?_
  try simp only [nY]
  refine s_go s_move ?_
  try simp only [nY]
  refine s_go s_move ?_
  try simp only [nY]
  refine s_go (s_len_sl U22) ?_
  try simp only [nY]
  refine s_go s_max ?_
  try simp only [nY]
  refine s_go s_leq ?_
  try simp only [nY]
  refine zp_call en33 ?_
  try simp only [nY, mY]
  refine CallP.mono (c_need (decide (((normP (s ++ mkP s r x)).length : Int) ≤ max m (s.length : Int))) 7 _) ?zr20 ?zp20
  case zp20 =>
   rintro _ w20 ⟨hg20, rfl, hE20⟩
   have hd20 : dE s m r x = 7 := dE_f hE0 hr16 hP hmk (by have := of_decide_eq_false hg20; omega)
   exact ⟨gd, ge, _, 0, rfl, rfl, rfl, by rw [hd20]; decide, by rw [hd20], (hS.ext hE20).sel (by repeat (first | exact Sel.nil | (refine Sel.cons (by repeat (first | exact Del.head | apply Del.tail)) ?_)))⟩
  rintro _ w20 ⟨hg20, hE20⟩
  replace hS := hS.ext hE20
  have hD0 : dE s m r x = 0 := dE_0 hE0 hr16 hP hmk (by have := of_decide_eq_true hg20; omega)
  try simp only [nY]
  refine z_nilf ?_
  refine hK13 _ _ ?_
  refine z_seq fun K14 hK14 => ?_
  refine z_region ?_
  refine s_go (m_load_obj U22 (hS := hS) (hv := by rfl)) ?_
  try simp only [nY, gY]
  refine m_store_obj ti22 (hS := hS) (hc := by (exact splice_whole (by (simp [opv, Value.cells, *]; done)))) (hv := by rfl) (hfit := by (simp [*]; done)) (h1 := by simp [opv, Value.cells, Value.oneCell']) (h := fun w21 hS => ?_)
  try simp only [nY, aY] at hS ⊢
  refine m_store_obj ti39 (hS := hS) (hc := by (exact splice_whole (by (simp [opv, Value.cells, *]; done)))) (hv := by rfl) (hfit := by (simp only [ic_size, List.length_map, List.size_toArray]; decide)) (h1 := by simp [opv, Value.cells, Value.oneCell']) (h := fun w22 hS => ?_)
  try simp only [nY, aY] at hS ⊢
  refine z_nilf ?_
  refine hK14 _ _ ?_
  refine z_ret ?_
  refine do_ret (gd := gd) (ge := ge) (fun w99 hE99 => ?_)
  replace hS := hS.ext hE99
  refine r_cell_cell_oo rfl U22 U39 (hS := hS) (hR := ?_)
  rw [dP_yes hD0, hD0]
  exact ⟨_, _, rfl, hS.selA⟩
 try simp only [n3, n4]
 try simp only [dZ, ne_eq] at hp1
 refine g_on (yi (t := 26) rfl rfl) ?_
 refine s_go (m_fieldAddr U27 (hi := ti3)) ?_
 try simp only [nY, fY, gY]
 refine g_on (yi (t := 26) rfl rfl) ?_
 refine s_go (m_load_obj U3 (hS := hS) (hv := by exact zi_get rfl (by omega))) ?_
 try simp only [nY, gY]
 rw [show x.getD 0 0 = opK x from rfl]
 refine g_on (yi (t := 26) rfl rfl) ?_
 refine s_go s_eql ?_
 try simp only [nY]
 refine s_go s_pick_f ?_
 try simp only [nY]
 refine z_nilf ?_
 refine hK10 _ _ ?_
 refine z_cond (ht := fun hc3 => ?_) (hf := fun hc3 => ?_)
 ·
  try simp only [dY] at hc3
  have hk23x : opK x = 2 ∨ opK x = 3 := by omega
  refine z_region ?_
  refine s_go s_move ?_
  try simp only [nY]
  refine s_go (m_fieldAddr U27 (hi := ti23)) ?_
  try simp only [nY, fY, gY]
  refine s_go (m_load_obj U23 (hS := hS) (hv := by exact zi_get rfl (by omega))) ?_
  try simp only [nY, gY]
  rw [hx.e1]
  refine s_go (m_fieldAddr U27 (hi := ti25)) ?_
  try simp only [nY, fY, gY]
  refine s_go (m_loada_obj U25 (hi := ti25) (hS := hS) (hfit := by omega)) ?_
  try simp only [nY, gY]
  rw [op_item hxl]
  refine s_call en34 ?_
  try simp only [nY, mY]
  refine CallR.mono (c_tagsPresent _ An cn s (hS.vecRd (by repeat (exact Has.head))) hso (by omega) _ hcx _ hil) ?_
  rintro _ w23 ⟨rfl, hE23⟩
  replace hS := hS.ext hE23
  try simp only [nY]
  rw [show decide (0 < (((tagS (normP s) (kn x 1) (kitem x) 1).map akey).length : Int)) = qtyB s (kn x 1) (kitem x) by rw [qtyB]; exact decide_eq_decide.2 (by omega)]
  refine zp_call en33 ?_
  try simp only [nY, mY]
  refine CallP.mono (c_need (qtyB s (kn x 1) (kitem x)) 6 _) ?zr24 ?zp24
  case zp24 =>
   rintro _ w24 ⟨hg24, rfl, hE24⟩
   have hd24 : dE s m r x = 6 := dE_n hE0 hr16 ⟨hk23x, hg24⟩
   exact ⟨gd, ge, _, 0, rfl, rfl, rfl, by rw [hd24]; decide, by rw [hd24], (hS.ext hE24).sel (by repeat (first | exact Sel.nil | (refine Sel.cons (by repeat (first | exact Del.head | apply Del.tail)) ?_)))⟩
  rintro _ w24 ⟨hg24, hE24⟩
  replace hS := hS.ext hE24
  have hP : ¬ ((opK x = 2 ∨ opK x = 3) ∧ qtyB s (kn x 1) (kitem x) = false) := fun q => by rw [hg24] at q; cases q.2
  try simp only [nY]
  refine z_nilf ?_
  refine hK9 _ _ ?_
  refine z_seq fun K15 hK15 => ?_
  refine z_mixed_c (Lc := [.obj gx (.cells (OA x) 27 (0, 0))]) [9] [38, 39, 40, 41, 42, 43, 44, 45, 46] (fun f w => ∃ (O : Option Addr) (oc : Nat), mkE s r x = 0 ∧ St NoB w0 w [.vec O oc 66 21 (mkP s r x).length (arows (mkP s r x)), .obj gd (.cells #[.slice O (mkP s r x).length oc] 22 (0, 0)), .obj ge (.cells #[.int .i64 0] 39 (0, 0)), .vec An cn 66 21 (s).length (arows (s))]) (by kernel_rfl) hS (fun w25 hS => ?mixpre902) ?mixrest902
  case mixpre902 =>
   simp only [List.length_cons, List.length_nil, Nat.reduceAdd, Nat.reduceSub]
   refine zny_go (lo := 10) (i := 0) (dpn_ok.wd) (by rfl) (by decide) (by decide +kernel) (by decide +kernel) (by unfold noLate; decide) (go_yields w_none (fun w hS => s_move)) ?_
   try simp only [nY]
   refine zny_go (lo := 10) (i := 1) (dpn_ok.wd) (by rfl) (by decide) (by decide +kernel) (by decide +kernel) (by unfold noLate; decide) (go_yields w_none (fun w hS => s_move)) ?_
   try simp only [nY]
   refine zny_go (lo := 10) (i := 2) (dpn_ok.wd) (by rfl) (by decide) (by decide +kernel) (by decide +kernel) (by unfold noLate; decide) (go_yields w_none (fun w hS => m_load_row U27 (hi := ti27) (hS := hS) (hfit := by omega))) ?_
   try simp only [nY, gY]
   refine zny_go (lo := 10) (i := 3) (dpn_ok.wd) (by rfl) (by decide) (by decide +kernel) (by decide +kernel) (by unfold noLate; decide) (go_yields w_none (fun w hS => s_build_struct (cells := (MA (.slice An s.length cn) r x)) U78 ti78 bp78 (hc := by simp only [List.map_toArray, List.map_cons, List.map_nil, nY, List.toList_toArray]; exact fill_ma (by rfl) (by rfl) (by rfl) hxl))) ?_
   try simp only [nY]
   refine zny_go (lo := 10) (i := 5) (dpn_ok.wd) (by rfl) (by decide) (by decide +kernel) (by decide +kernel) (by unfold noLate; decide) (go_yields w_none (fun w hS => m_fieldAddr U27 (hi := ti3))) ?_
   try simp only [nY, fY, gY]
   refine zny_go (lo := 10) (i := 6) (dpn_ok.wd) (by rfl) (by decide) (by decide +kernel) (by decide +kernel) (by unfold noLate; decide) (go_yields w_none (fun w hS => m_load_obj U3 (hS := hS) (hv := by exact zi_get rfl (by omega)))) ?_
   try simp only [nY, gY]
   rw [show x.getD 0 0 = opK x from rfl]
   refine zny_step [4] (by kernel_rfl) (by decide) (fun w26 hE => ⟨fun _ => (hS.ext hE).sel (by repeat (first | exact Sel.nil | (refine Sel.cons (by repeat (first | exact Del.head | apply Del.tail)) ?_))), ?_⟩)
   replace hS := hS.ext hE
   intro i hi
   simp only [List.mem_cons, List.not_mem_nil, or_false] at hi
   subst hi
   refine zny_op (by rfl) ?_
   refine s_call en35 ?_
   try simp only [nY, mY]
   refine CallR.mono (c_kinds (.slice An s.length cn) r x hx _) ?_
   rintro _ w27 ⟨q1, q3, rfl, hC27⟩
   replace hS := hS.call hC27
   simp only [List.cons_append, List.nil_append] at hS
   replace hS := hS.obj_rd (sz := 21) (n := 1) (by exact ma_size hxl) (.head)
   replace hS := hS.obj_rd (sz := 19) (n := 1) (by exact op_size hxl) (.tail .head)
   try simp only [nY]
   refine z_nil ?_
   refine zny_go (lo := 10) (i := 7) (dpn_ok.wd) (by rfl) (by decide) (by decide +kernel) (by decide +kernel) (by unfold noLate; decide) (go_yields w_none (fun w hS => s_index_one U76 ti75 U75 (hv := kf_get hK))) ?_
   try simp only [nY, Nat.mul_one, Nat.zero_add, Int.toNat_natCast, Int.reduceToNat]
   refine zny_step [8] (by kernel_rfl) (by decide) (fun w28 hE => ⟨fun _ => (hS.ext hE).sel (by repeat (first | exact Sel.nil | (refine Sel.cons (by repeat (first | exact Del.head | apply Del.tail)) ?_))), ?_⟩)
   replace hS := hS.ext hE
   intro i hi
   simp only [List.mem_cons, List.not_mem_nil, or_false] at hi
   subst hi
   refine zny_op (by rfl) ?_
   refine zp_callv (hv := rfl) (kf_en hK) ?_
   simp only [List.map_toArray, List.map_nil]
   rw [show ([] : List Value).toArray ++ kcap (opK x) q1 q3 = kcap (opK x) q1 q3 from by simp]
   refine CallP.mono (c_kindAny _ An cn s (hS.vecA) hso hsl r hr8 x hx hK hONN q1 q3 (hS.hasRd (by repeat (exact Has.head))) (hS.hasA)) ?zrk28 ?zpk28
   case zpk28 =>
    rintro _ w97 ⟨hg97, rfl, hE97⟩
    have hd97 : dE s m r x = mkE s r x := dE_m hE0 hr16 hP hg97
    exact ⟨gd, ge, _, 0, rfl, rfl, rfl, by rw [hd97]; exact hg97, by rw [hd97], (hS.ext hE97).sel (by repeat (first | exact Sel.nil | (refine Sel.cons (by repeat (first | exact Del.head | apply Del.tail)) ?_)))⟩
   rintro _ w98 ⟨hmk, Od, od, rfl, hC98⟩
   replace hS := hS.call hC98
   simp only [List.cons_append, List.nil_append] at hS
   try simp only [nY]
   refine z_nil ?_
   refine zny_step [9] (by kernel_rfl) (by decide) (fun w29 hE => ⟨fun _ => (hS.ext hE).sel (by repeat (first | exact Sel.nil | (refine Sel.cons (by repeat (first | exact Del.head | apply Del.tail)) ?_))), ?_⟩)
   replace hS := hS.ext hE
   intro i hi
   simp only [List.mem_cons, List.not_mem_nil, or_false] at hi
   subst hi
   refine zny_op (by rfl) ?_
   refine m_store_obj ti22 (hS := hS) (hc := by (exact splice_whole (by (simp [opv, Value.cells, *]; done)))) (hv := by rfl) (hfit := by (simp only [ic_size, List.length_map, List.size_toArray]; decide)) (h1 := by simp [opv, Value.cells, Value.oneCell']) (h := fun w30 hS => ?_)
   try simp only [nY, aY] at hS ⊢
   refine z_nil ?_
   refine zny_nil (by kernel_rfl) (fun w31 hE => ?_)
   replace hS := hS.ext hE
   refine ⟨fun hl => absurd (hl 9 (by decide)) (by decide +kernel), ?_⟩
   refine mix_leaf (by simp only [clob, List.foldl, nZ]) ?_
   try simp only [n1, n2]
   exact ⟨_, _, hmk, hS.selA⟩
  intro fm2 w32 hM
  obtain ⟨Od, od, hmk, hS⟩ := hM
  simp only [clob, List.foldl, n3, n4]
  refine hK15 _ _ ?_
  refine z_seq fun K16 hK16 => ?_
  refine z_region ?_
  refine s_go s_move ?_
  try simp only [nY]
  refine s_go (m_load_obj U22 (hS := hS) (hv := by rfl)) ?_
  try simp only [nY, gY]
  obtain ⟨hmo, hml⟩ := mkP_all hso hsl hr8 hx hONN
  refine s_call en28 ?_
  try simp only [nY, mY]
  refine CallR.mono (c_latJoin _ An cn s (hS.vecA) hso Od od (mkP s r x) (hS.vecRd (by repeat (exact Has.head))) hmo (by omega)) ?_
  rintro _ w33 ⟨Aj, cj, rfl, hC33⟩
  replace hS := hS.call hC33
  simp only [List.cons_append, List.nil_append] at hS
  try simp only [nY]
  refine s_go (s_len_sl U22) ?_
  try simp only [nY]
  refine s_go s_assign ?_
  try simp only [nY]
  refine z_nilf ?_
  refine hK16 _ _ ?_
  refine z_seq fun K17 hK17 => ?_
  refine z_region ?_
  refine s_go s_move ?_
  try simp only [nY]
  refine s_go s_move ?_
  try simp only [nY]
  refine s_go s_move ?_
  try simp only [nY]
  refine s_go (s_len_sl U22) ?_
  try simp only [nY]
  refine s_go s_max ?_
  try simp only [nY]
  refine s_go s_leq ?_
  try simp only [nY]
  refine zp_call en33 ?_
  try simp only [nY, mY]
  refine CallP.mono (c_need (decide (((normP (s ++ mkP s r x)).length : Int) ≤ max m (s.length : Int))) 7 _) ?zr34 ?zp34
  case zp34 =>
   rintro _ w34 ⟨hg34, rfl, hE34⟩
   have hd34 : dE s m r x = 7 := dE_f hE0 hr16 hP hmk (by have := of_decide_eq_false hg34; omega)
   exact ⟨gd, ge, _, 0, rfl, rfl, rfl, by rw [hd34]; decide, by rw [hd34], (hS.ext hE34).sel (by repeat (first | exact Sel.nil | (refine Sel.cons (by repeat (first | exact Del.head | apply Del.tail)) ?_)))⟩
  rintro _ w34 ⟨hg34, hE34⟩
  replace hS := hS.ext hE34
  have hD0 : dE s m r x = 0 := dE_0 hE0 hr16 hP hmk (by have := of_decide_eq_true hg34; omega)
  try simp only [nY]
  refine z_nilf ?_
  refine hK17 _ _ ?_
  refine z_seq fun K18 hK18 => ?_
  refine z_region ?_
  refine s_go (m_load_obj U22 (hS := hS) (hv := by rfl)) ?_
  try simp only [nY, gY]
  refine m_store_obj ti22 (hS := hS) (hc := by (exact splice_whole (by (simp [opv, Value.cells, *]; done)))) (hv := by rfl) (hfit := by (simp [*]; done)) (h1 := by simp [opv, Value.cells, Value.oneCell']) (h := fun w35 hS => ?_)
  try simp only [nY, aY] at hS ⊢
  refine m_store_obj ti39 (hS := hS) (hc := by (exact splice_whole (by (simp [opv, Value.cells, *]; done)))) (hv := by rfl) (hfit := by (simp only [ic_size, List.length_map, List.size_toArray]; decide)) (h1 := by simp [opv, Value.cells, Value.oneCell']) (h := fun w36 hS => ?_)
  try simp only [nY, aY] at hS ⊢
  refine z_nilf ?_
  refine hK18 _ _ ?_
  refine z_ret ?_
  refine do_ret (gd := gd) (ge := ge) (fun w99 hE99 => ?_)
  replace hS := hS.ext hE99
  refine r_cell_cell_oo rfl U22 U39 (hS := hS) (hR := ?_)
  rw [dP_yes hD0, hD0]
  exact ⟨_, _, rfl, hS.selA⟩
 try simp only [dY] at hc3
 have hP : ¬ ((opK x = 2 ∨ opK x = 3) ∧ qtyB s (kn x 1) (kitem x) = false) := fun q => by omega
 refine z_skip ?_
 refine hK9 _ _ ?_
 refine z_seq fun K19 hK19 => ?_
 refine z_mixed_c (Lc := [.obj gx (.cells (OA x) 27 (0, 0))]) [9] [38, 39, 40, 41, 42, 43, 44, 45, 46] (fun f w => ∃ (O : Option Addr) (oc : Nat), mkE s r x = 0 ∧ St NoB w0 w [.vec O oc 66 21 (mkP s r x).length (arows (mkP s r x)), .obj gd (.cells #[.slice O (mkP s r x).length oc] 22 (0, 0)), .obj ge (.cells #[.int .i64 0] 39 (0, 0)), .vec An cn 66 21 (s).length (arows (s))]) (by kernel_rfl) hS (fun w37 hS => ?mixpre903) ?mixrest903
 case mixpre903 =>
  simp only [List.length_cons, List.length_nil, Nat.reduceAdd, Nat.reduceSub]
  refine zny_go (lo := 10) (i := 0) (dpn_ok.wd) (by rfl) (by decide) (by decide +kernel) (by decide +kernel) (by unfold noLate; decide) (go_yields w_none (fun w hS => s_move)) ?_
  try simp only [nY]
  refine zny_go (lo := 10) (i := 1) (dpn_ok.wd) (by rfl) (by decide) (by decide +kernel) (by decide +kernel) (by unfold noLate; decide) (go_yields w_none (fun w hS => s_move)) ?_
  try simp only [nY]
  refine zny_go (lo := 10) (i := 2) (dpn_ok.wd) (by rfl) (by decide) (by decide +kernel) (by decide +kernel) (by unfold noLate; decide) (go_yields w_none (fun w hS => m_load_row U27 (hi := ti27) (hS := hS) (hfit := by omega))) ?_
  try simp only [nY, gY]
  refine zny_go (lo := 10) (i := 3) (dpn_ok.wd) (by rfl) (by decide) (by decide +kernel) (by decide +kernel) (by unfold noLate; decide) (go_yields w_none (fun w hS => s_build_struct (cells := (MA (.slice An s.length cn) r x)) U78 ti78 bp78 (hc := by simp only [List.map_toArray, List.map_cons, List.map_nil, nY, List.toList_toArray]; exact fill_ma (by rfl) (by rfl) (by rfl) hxl))) ?_
  try simp only [nY]
  refine zny_go (lo := 10) (i := 5) (dpn_ok.wd) (by rfl) (by decide) (by decide +kernel) (by decide +kernel) (by unfold noLate; decide) (go_yields w_none (fun w hS => m_fieldAddr U27 (hi := ti3))) ?_
  try simp only [nY, fY, gY]
  refine zny_go (lo := 10) (i := 6) (dpn_ok.wd) (by rfl) (by decide) (by decide +kernel) (by decide +kernel) (by unfold noLate; decide) (go_yields w_none (fun w hS => m_load_obj U3 (hS := hS) (hv := by exact zi_get rfl (by omega)))) ?_
  try simp only [nY, gY]
  rw [show x.getD 0 0 = opK x from rfl]
  refine zny_step [4] (by kernel_rfl) (by decide) (fun w38 hE => ⟨fun _ => (hS.ext hE).sel (by repeat (first | exact Sel.nil | (refine Sel.cons (by repeat (first | exact Del.head | apply Del.tail)) ?_))), ?_⟩)
  replace hS := hS.ext hE
  intro i hi
  simp only [List.mem_cons, List.not_mem_nil, or_false] at hi
  subst hi
  refine zny_op (by rfl) ?_
  refine s_call en35 ?_
  try simp only [nY, mY]
  refine CallR.mono (c_kinds (.slice An s.length cn) r x hx _) ?_
  rintro _ w39 ⟨q1, q3, rfl, hC39⟩
  replace hS := hS.call hC39
  simp only [List.cons_append, List.nil_append] at hS
  replace hS := hS.obj_rd (sz := 21) (n := 1) (by exact ma_size hxl) (.head)
  replace hS := hS.obj_rd (sz := 19) (n := 1) (by exact op_size hxl) (.tail .head)
  try simp only [nY]
  refine z_nil ?_
  refine zny_go (lo := 10) (i := 7) (dpn_ok.wd) (by rfl) (by decide) (by decide +kernel) (by decide +kernel) (by unfold noLate; decide) (go_yields w_none (fun w hS => s_index_one U76 ti75 U75 (hv := kf_get hK))) ?_
  try simp only [nY, Nat.mul_one, Nat.zero_add, Int.toNat_natCast, Int.reduceToNat]
  refine zny_step [8] (by kernel_rfl) (by decide) (fun w40 hE => ⟨fun _ => (hS.ext hE).sel (by repeat (first | exact Sel.nil | (refine Sel.cons (by repeat (first | exact Del.head | apply Del.tail)) ?_))), ?_⟩)
  replace hS := hS.ext hE
  intro i hi
  simp only [List.mem_cons, List.not_mem_nil, or_false] at hi
  subst hi
  refine zny_op (by rfl) ?_
  refine zp_callv (hv := rfl) (kf_en hK) ?_
  simp only [List.map_toArray, List.map_nil]
  rw [show ([] : List Value).toArray ++ kcap (opK x) q1 q3 = kcap (opK x) q1 q3 from by simp]
  refine CallP.mono (c_kindAny _ An cn s (hS.vecA) hso hsl r hr8 x hx hK hONN q1 q3 (hS.hasRd (by repeat (exact Has.head))) (hS.hasA)) ?zrk40 ?zpk40
  case zpk40 =>
   rintro _ w97 ⟨hg97, rfl, hE97⟩
   have hd97 : dE s m r x = mkE s r x := dE_m hE0 hr16 hP hg97
   exact ⟨gd, ge, _, 0, rfl, rfl, rfl, by rw [hd97]; exact hg97, by rw [hd97], (hS.ext hE97).sel (by repeat (first | exact Sel.nil | (refine Sel.cons (by repeat (first | exact Del.head | apply Del.tail)) ?_)))⟩
  rintro _ w98 ⟨hmk, Od, od, rfl, hC98⟩
  replace hS := hS.call hC98
  simp only [List.cons_append, List.nil_append] at hS
  try simp only [nY]
  refine z_nil ?_
  refine zny_step [9] (by kernel_rfl) (by decide) (fun w41 hE => ⟨fun _ => (hS.ext hE).sel (by repeat (first | exact Sel.nil | (refine Sel.cons (by repeat (first | exact Del.head | apply Del.tail)) ?_))), ?_⟩)
  replace hS := hS.ext hE
  intro i hi
  simp only [List.mem_cons, List.not_mem_nil, or_false] at hi
  subst hi
  refine zny_op (by rfl) ?_
  refine m_store_obj ti22 (hS := hS) (hc := by (exact splice_whole (by (simp [opv, Value.cells, *]; done)))) (hv := by rfl) (hfit := by (simp only [ic_size, List.length_map, List.size_toArray]; decide)) (h1 := by simp [opv, Value.cells, Value.oneCell']) (h := fun w42 hS => ?_)
  try simp only [nY, aY] at hS ⊢
  refine z_nil ?_
  refine zny_nil (by kernel_rfl) (fun w43 hE => ?_)
  replace hS := hS.ext hE
  refine ⟨fun hl => absurd (hl 9 (by decide)) (by decide +kernel), ?_⟩
  refine mix_leaf (by simp only [clob, List.foldl, nZ]) ?_
  try simp only [n1, n2]
  exact ⟨_, _, hmk, hS.selA⟩
 intro fm3 w44 hM
 obtain ⟨Od, od, hmk, hS⟩ := hM
 simp only [clob, List.foldl, n3, n4]
 refine hK19 _ _ ?_
 refine z_seq fun K20 hK20 => ?_
 refine z_region ?_
 refine s_go s_move ?_
 try simp only [nY]
 refine s_go (m_load_obj U22 (hS := hS) (hv := by rfl)) ?_
 try simp only [nY, gY]
 obtain ⟨hmo, hml⟩ := mkP_all hso hsl hr8 hx hONN
 refine s_call en28 ?_
 try simp only [nY, mY]
 refine CallR.mono (c_latJoin _ An cn s (hS.vecA) hso Od od (mkP s r x) (hS.vecRd (by repeat (exact Has.head))) hmo (by omega)) ?_
 rintro _ w45 ⟨Aj, cj, rfl, hC45⟩
 replace hS := hS.call hC45
 simp only [List.cons_append, List.nil_append] at hS
 try simp only [nY]
 refine s_go (s_len_sl U22) ?_
 try simp only [nY]
 refine s_go s_assign ?_
 try simp only [nY]
 refine z_nilf ?_
 refine hK20 _ _ ?_
 refine z_seq fun K21 hK21 => ?_
 refine z_region ?_
 refine s_go s_move ?_
 try simp only [nY]
 refine s_go s_move ?_
 try simp only [nY]
 refine s_go s_move ?_
 try simp only [nY]
 refine s_go (s_len_sl U22) ?_
 try simp only [nY]
 refine s_go s_max ?_
 try simp only [nY]
 refine s_go s_leq ?_
 try simp only [nY]
 refine zp_call en33 ?_
 try simp only [nY, mY]
 refine CallP.mono (c_need (decide (((normP (s ++ mkP s r x)).length : Int) ≤ max m (s.length : Int))) 7 _) ?zr46 ?zp46
 case zp46 =>
  rintro _ w46 ⟨hg46, rfl, hE46⟩
  have hd46 : dE s m r x = 7 := dE_f hE0 hr16 hP hmk (by have := of_decide_eq_false hg46; omega)
  exact ⟨gd, ge, _, 0, rfl, rfl, rfl, by rw [hd46]; decide, by rw [hd46], (hS.ext hE46).sel (by repeat (first | exact Sel.nil | (refine Sel.cons (by repeat (first | exact Del.head | apply Del.tail)) ?_)))⟩
 rintro _ w46 ⟨hg46, hE46⟩
 replace hS := hS.ext hE46
 have hD0 : dE s m r x = 0 := dE_0 hE0 hr16 hP hmk (by have := of_decide_eq_true hg46; omega)
 try simp only [nY]
 refine z_nilf ?_
 refine hK21 _ _ ?_
 refine z_seq fun K22 hK22 => ?_
 refine z_region ?_
 refine s_go (m_load_obj U22 (hS := hS) (hv := by rfl)) ?_
 try simp only [nY, gY]
 refine m_store_obj ti22 (hS := hS) (hc := by (exact splice_whole (by (simp [opv, Value.cells, *]; done)))) (hv := by rfl) (hfit := by (simp [*]; done)) (h1 := by simp [opv, Value.cells, Value.oneCell']) (h := fun w47 hS => ?_)
 try simp only [nY, aY] at hS ⊢
 refine m_store_obj ti39 (hS := hS) (hc := by (exact splice_whole (by (simp [opv, Value.cells, *]; done)))) (hv := by rfl) (hfit := by (simp only [ic_size, List.length_map, List.size_toArray]; decide)) (h1 := by simp [opv, Value.cells, Value.oneCell']) (h := fun w48 hS => ?_)
 try simp only [nY, aY] at hS ⊢
 refine z_nilf ?_
 refine hK22 _ _ ?_
 refine z_ret ?_
 refine do_ret (gd := gd) (ge := ge) (fun w99 hE99 => ?_)
 replace hS := hS.ext hE99
 refine r_cell_cell_oo rfl U22 U39 (hS := hS) (hR := ?_)
 rw [dP_yes hD0, hD0]
 exact ⟨_, _, rfl, hS.selA⟩
end Go.Proofs.YtpekghaodmeemaaGreat
set_option linter.unusedSimpArgs false
set_option linter.unusedVariables false
set_option maxHeartbeats 400000
set_option maxRecDepth 100000
namespace Go.Proofs.YtpekghaodmeemaaGreat
open Go.RowKit
theorem c_ref18Do (w0 : World) (A : Option Addr) (c : Nat) (l : List (List Int)) (hr : Rd w0 A 21 l.length (arows l)) (hv : AOks l) (hn : l.length ≤ 40000000) (m : Int) (r : Nat) (hr8 : r < 256) (x : List Int) (hx : OpOk x)  :
    CallR Tryz.prog 15 #[.slice A l.length c, .int .i64 m, .int .u8 (r : Int), .agg (OA x)] w0 fun v w' => ∃ (O : Option Addr) (oc : Nat), v = .tuple #[.slice O (dP (normP l) m r x).length oc, .int .i64 (dE (normP l) m r x)] ∧ St NoB w0 w' [.vec O oc 66 21 (dP (normP l) m r x).length (arows (dP (normP l) m r x))] := by
 obtain ⟨s, hs⟩ : ∃ s, normP l = s := ⟨_, rfl⟩
 have hst := norm_sta hv
 have hnb := norm_len l
 rw [hs] at hst hnb ⊢
 have hso := hst.ok
 have hsl : s.length ≤ 40000000 := by omega
 have hS := St.rd1 (S := NoB) hr
 have hxl := hx.len
 have hil := op_il hxl
 have htl := op_tl hxl
 have hk1 := hx.k1
 have hk2 := hx.k2
 have hm1 := hx.m1
 have hm2 := hx.m2
 have hbi := hx.item
 have hbt := hx.text
 have hcx := hx.b1
 have hxs := op_size hxl
 refine c_enter (l := [.slice A l.length c, .int .i64 m, .int .u8 (r : Int), .agg (OA x), undef, undef, undef, undef, undef, undef, undef, undef, undef, undef, undef, undef, undef, undef, undef, undef, undef, undef, undef, undef, undef, undef, undef, undef, undef, undef, undef, undef, undef, undef, undef, undef, undef, undef, undef, undef, undef, undef, undef, undef, undef, undef, undef, undef, undef, undef, undef, undef, undef, undef, undef, undef, undef, undef, undef, undef, undef, undef, undef, undef, undef, undef]) Tryz.func15 rfl (by simp only [Tryz.ntmps15, List.size_toArray, List.length_cons, List.length_nil, Nat.reduceAdd, Nat.reduceSub, Array.replicate_succ, Array.replicate_zero, List.push_toArray, List.append_toArray, List.nil_append, List.cons_append]) ?_
 refine x_seq fun K1 hK1 => x_region ?_
 refine m_box hS (fun w1 g1 hS => ?_)
 try simp only [nY, aY] at hS ⊢
 obtain ⟨gx, hgx⟩ : ∃ z, z = g1 := ⟨_, rfl⟩
 rw [← hgx] at hS ⊢
 refine s_go s_assign ?_
 try simp only [nY]
 refine s_go s_assign ?_
 try simp only [nY]
 refine x_nil (hK1 _ _ ?_)
 refine x_seq fun K2 hK2 => ?_
 refine x_seq fun K3 hK3 => x_region ?_
 first | refine s_go (m_load_row U27 (hi := ti27) (hS := hS) (hfit := by omega)) ?_ | refine s_go (m_loada_obj U27 (hi := ti27) (hS := hS) (hfit := by first | omega | (rw [zi_size (by omega)]; first | rfl | decide) | (simp only [ic_size, List.length_map, List.size_toArray]; first | omega | decide) | rfl | (simp [*]; done) | (simp [*]; omega))) ?_
 try simp only [nY, gY]
 refine s_call en17 ?_
 try simp only [nY, mY]
 refine CallR.mono (c_ref18Right _ (by assumption) _) ?_
 rintro _ w2 ⟨rfl, hE2⟩
 replace hS := hS.ext hE2
 try simp only [nY]
 refine s_go s_assign ?_
 try simp only [nY]
 refine x_nil (hK3 _ _ ?_)
 refine x_seq fun K4 hK4 => x_region ?_
 refine s_go s_move ?_
 try simp only [nY]
 refine s_go s_neq ?_
 try simp only [nY]
 refine x_nil (hK4 _ _ ?_)
 refine x_cond (ht := fun hc1 => ?_) (hf := fun hc1 => ?_)
 ·
  try simp only [dY] at hc1
  have hE : ¬ opE x = 0 := hc1
  refine x_seq fun K5 hK5 => x_region ?_
  refine s_go s_move ?_
  try simp only [nY]
  refine s_go s_assign ?_
  try simp only [nY]
  refine s_go s_assign ?_
  try simp only [nY]
  refine x_nil (hK5 _ _ ?_)
  refine x_ret (r_tmp2 rfl ?_)
  (rw [dP_no (by rw [dE_e hE]; exact hE), dE_e hE]; exact ⟨none, 0, rfl, (hS.nil_vec 66 21).sel (by repeat (first | exact Sel.nil | (refine Sel.cons (by repeat (exact Del.head)) ?_)))⟩)
 try simp only [dY] at hc1
 have hE0 : opE x = 0 := by omega
 obtain ⟨hK, hOn, hONN, hOt⟩ := opE_ok hE0
 refine x_skip ?_
 refine hK2 _ _ ?_
 refine x_seq fun K6 hK6 => ?_
 refine x_seq fun K7 hK7 => x_region ?_
 refine s_go s_move ?_
 try simp only [nY]
 refine s_go s_geq ?_
 try simp only [nY]
 refine x_nil (hK7 _ _ ?_)
 refine x_cond (ht := fun hc2 => ?_) (hf := fun hc2 => ?_)
 ·
  try simp only [dY] at hc2
  have hr16 : 16 ≤ r := by omega
  refine x_seq fun K8 hK8 => x_region ?_
  refine s_go s_assign ?_
  try simp only [nY]
  refine s_go s_assign ?_
  try simp only [nY]
  refine x_nil (hK8 _ _ ?_)
  refine x_ret (r_tmp2 rfl ?_)
  (have hd := dE_r (s := s) (m := m) hE0 hr16; rw [dP_no (by rw [hd]; decide), hd]; exact ⟨none, 0, rfl, (hS.nil_vec 66 21).sel (by repeat (first | exact Sel.nil | (refine Sel.cons (by repeat (exact Del.head)) ?_)))⟩)
 try simp only [dY] at hc2
 have hr16 : ¬ 16 ≤ r := by omega
 refine x_skip ?_
 refine hK6 _ _ ?_
 refine x_seq fun K9 hK9 => x_region ?_
 refine s_go s_move ?_
 try simp only [nY]
 refine s_call en12 ?_
 try simp only [nY, mY]
 refine CallR.mono (c_ref10Norm _ A c l (hS.hasA) hv (by omega)) ?_
 rintro _ w3 ⟨Bn, cn, rfl, hR3⟩
 replace hS := hS.back hR3
 rw [hs] at hS ⊢
 try simp only [nY]
 refine s_go s_assign ?_
 try simp only [nY]
 refine x_nil (hK9 _ _ ?_)
 refine x_seq fun K10 hK10 => ?_
 refine x_seq fun K11 hK11 => x_region ?_
 refine s_go (m_fieldAddr U27 (hi := ti3)) ?_
 try simp only [nY, fY, gY]
 refine s_go (m_load_obj U3 (hS := hS) (hv := by exact zi_get rfl (by omega))) ?_
 try simp only [nY, gY]
 rw [show x.getD 0 0 = opK x from rfl]
 refine s_go s_eql ?_
 try simp only [nY]
 refine s_go s_move ?_
 try simp only [nY]
 refine s_part 26 rfl (fun hp1 => ?_) (fun hp1 => ?_)
 ·
  try simp only [n3, n4]
  try simp only [dZ, ne_eq] at hp1
  have hk23x : opK x = 2 ∨ opK x = 3 := by omega
  refine g_off (yi (t := 26) rfl rfl) ?_
  try simp only [nY]
  refine g_off (yi (t := 26) rfl rfl) ?_
  try simp only [nY]
  refine g_off (yi (t := 26) rfl rfl) ?_
  try simp only [nY]
  refine s_go s_pick_t ?_
  try simp only [nY]
  refine s_go s_move ?_
  try simp only [nY]
  refine g_on (yi (t := 31) rfl rfl) ?_
  refine s_go s_move ?_
  try simp only [nY]
  refine g_on (yi (t := 31) rfl rfl) ?_
  refine s_go (m_fieldAddr U27 (hi := ti23)) ?_
  try simp only [nY, fY, gY]
  refine g_on (yi (t := 31) rfl rfl) ?_
  refine s_go (m_load_obj U23 (hS := hS) (hv := by exact zi_get rfl (by omega))) ?_
  try simp only [nY, gY]
  rw [hx.e1]
  refine g_on (yi (t := 31) rfl rfl) ?_
  refine s_go (m_fieldAddr U27 (hi := ti25)) ?_
  try simp only [nY, fY, gY]
  refine g_on (yi (t := 31) rfl rfl) ?_
  refine s_go (m_loada_obj U25 (hi := ti25) (hS := hS) (hfit := by omega)) ?_
  try simp only [nY, gY]
  rw [op_item hxl]
  refine g_on (yi (t := 31) rfl rfl) ?_
  refine s_call en21 ?_
  try simp only [nY, mY]
  refine CallR.mono (c_ref14Live _ Bn cn s (hS.hasRd (by repeat (exact Has.head))) hso (by omega) _ hcx _ hil) ?_
  rintro _ w4 ⟨Ol, ol, rfl, hC4⟩
  replace hS := hS.call hC4
  simp only [List.cons_append, List.nil_append] at hS
  try simp only [nY]
  refine g_on (yi (t := 31) rfl rfl) ?_
  refine s_go (s_len_sl U47) ?_
  try simp only [nY]
  refine g_on (yi (t := 31) rfl rfl) ?_
  refine s_go s_eql ?_
  try simp only [nY]
  refine s_go s_pick_t ?_
  try simp only [nY]
  refine x_nil (hK11 _ _ ?_)
  refine x_cond (ht := fun hc3 => ?_) (hf := fun hc3 => ?_)
  ·
   try simp only [dY] at hc3
   have hQ : qtyB s (kn x 1) (kitem x) = false := decide_eq_false (by omega)
   refine x_seq fun K12 hK12 => x_region ?_
   refine s_go s_assign ?_
   try simp only [nY]
   refine s_go s_assign ?_
   try simp only [nY]
   refine x_nil (hK12 _ _ ?_)
   refine x_ret (r_tmp2 rfl ?_)
   (have hd := dE_n (m := m) hE0 hr16 ⟨hk23x, hQ⟩; rw [dP_no (by rw [hd]; decide), hd]; exact ⟨none, 0, rfl, (hS.nil_vec 66 21).sel (by repeat (first | exact Sel.nil | (refine Sel.cons (by repeat (exact Del.head)) ?_)))⟩)
  try simp only [dY] at hc3
  try have hP : ¬ ((opK x = 2 ∨ opK x = 3) ∧ qtyB s (kn x 1) (kitem x) = false) := fun q => by have := of_decide_eq_false q.2; omega
  refine x_skip ?_
  refine hK10 _ _ ?_
  refine x_seq fun K13 hK13 => x_region ?_
  refine s_go s_move ?_
  try simp only [nY]
  refine s_go s_move ?_
  try simp only [nY]
  refine s_go (m_load_row U27 (hi := ti27) (hS := hS) (hfit := by omega)) ?_
  try simp only [nY, gY]
  refine s_call en38 ?_
  try simp only [nY, mY]
  refine CallR.mono (c_ref18makes _ Bn cn s (hS.hasA) hso hsl r hr8 x hx hK hONN) ?_
  rintro _ w5 ⟨Od, od, y, rfl, hy, hC5⟩
  replace hS := hS.call hC5
  simp only [List.cons_append, List.nil_append] at hS
  try simp only [nY]
  refine s_go s_move ?_
  try simp only [nY]
  refine s_go (s_extract (hv := rfl)) ?_
  try simp only [gY]
  try simp only [nY]
  refine s_go (s_extract (hv := rfl)) ?_
  try simp only [gY]
  try simp only [nY]
  refine s_go s_assign ?_
  try simp only [nY]
  refine s_go s_assign ?_
  try simp only [nY]
  refine x_nil (hK13 _ _ ?_)
  refine x_seq fun K14 hK14 => ?_
  refine x_seq fun K15 hK15 => x_region ?_
  refine s_go s_move ?_
  try simp only [nY]
  refine s_go s_neq ?_
  try simp only [nY]
  refine x_nil (hK15 _ _ ?_)
  refine x_cond (ht := fun hc4 => ?_) (hf := fun hc4 => ?_)
  ·
   try simp only [dY] at hc4
   have hmk : ¬ mkE s r x = 0 := hc4
   refine x_seq fun K16 hK16 => x_region ?_
   refine s_go s_move ?_
   try simp only [nY]
   refine s_go s_assign ?_
   try simp only [nY]
   refine s_go s_assign ?_
   try simp only [nY]
   refine x_nil (hK16 _ _ ?_)
   refine x_ret (r_tmp2 rfl ?_)
   (have hd := dE_m (m := m) hE0 hr16 hP hmk; rw [dP_no (by rw [hd]; exact hmk), hd]; exact ⟨none, 0, rfl, (hS.nil_vec 66 21).sel (by repeat (first | exact Sel.nil | (refine Sel.cons (by repeat (exact Del.head)) ?_)))⟩)
  try simp only [dY] at hc4
  have hmk : mkE s r x = 0 := by omega
  replace hy := hy hmk
  subst hy
  obtain ⟨hmo, hml⟩ := mkP_all hso hsl hr8 hx hONN
  refine x_skip ?_
  refine hK14 _ _ ?_
  refine x_seq fun K17 hK17 => ?_
  refine x_seq fun K18 hK18 => x_region ?_
  refine s_go s_move ?_
  try simp only [nY]
  refine s_go s_move ?_
  try simp only [nY]
  refine s_call en14 ?_
  try simp only [nY, mY]
  refine CallR.mono (c_ref10Join _ Bn cn s (hS.hasA) hso Od od (mkP s r x) (hS.vecRd (by repeat (exact Has.head))) hmo (by omega)) ?_
  rintro _ w6 ⟨Aj, cj, rfl, hC6⟩
  replace hS := hS.call hC6
  simp only [List.cons_append, List.nil_append] at hS
  try simp only [nY]
  refine s_go (s_len_sl U22) ?_
  try simp only [nY]
  refine s_go s_assign ?_
  try simp only [nY]
  refine x_nil (hK18 _ _ ?_)
  refine x_seq fun K19 hK19 => x_region ?_
  refine s_go s_move ?_
  try simp only [nY]
  refine s_go s_move ?_
  try simp only [nY]
  refine s_go s_max ?_
  try simp only [nY]
  refine s_go s_gtr ?_
  try simp only [nY]
  refine s_go s_move ?_
  try simp only [nY]
  refine s_part 59 rfl (fun hp2 => ?_) (fun hp2 => ?_)
  ·
   try simp only [n3, n4]
   try simp only [dZ, ne_eq] at hp2
   refine g_on (yi (t := 59) rfl rfl) ?_
   refine s_go s_move ?_
   try simp only [nY]
   refine g_on (yi (t := 59) rfl rfl) ?_
   refine s_go s_move ?_
   try simp only [nY]
   refine g_on (yi (t := 59) rfl rfl) ?_
   refine s_go (s_len_sl U22) ?_
   try simp only [nY]
   refine g_on (yi (t := 59) rfl rfl) ?_
   refine s_go s_gtr ?_
   try simp only [nY]
   refine s_go s_pick_t ?_
   try simp only [nY]
   refine x_nil (hK19 _ _ ?_)
   refine x_cond (ht := fun hc5 => ?_) (hf := fun hc5 => ?_)
   ·
    try simp only [dY] at hc5
    have hF : max m (s.length : Int) < ((normP (s ++ mkP s r x)).length : Int) := by omega
    refine x_seq fun K20 hK20 => x_region ?_
    refine s_go s_assign ?_
    try simp only [nY]
    refine s_go s_assign ?_
    try simp only [nY]
    refine x_nil (hK20 _ _ ?_)
    refine x_ret (r_tmp2 rfl ?_)
    (have hd := dE_f (m := m) hE0 hr16 hP hmk hF; rw [dP_no (by rw [hd]; decide), hd]; exact ⟨none, 0, rfl, (hS.nil_vec 66 21).sel (by repeat (first | exact Sel.nil | (refine Sel.cons (by repeat (exact Del.head)) ?_)))⟩)
   try simp only [dY] at hc5
   have hF : ¬ max m (s.length : Int) < ((normP (s ++ mkP s r x)).length : Int) := by omega
   refine x_skip ?_
   refine hK17 _ _ ?_
   refine x_seq fun K21 hK21 => x_region ?_
   refine s_go s_move ?_
   try simp only [nY]
   refine s_go s_assign ?_
   try simp only [nY]
   refine s_go s_assign ?_
   try simp only [nY]
   refine x_nil (hK21 _ _ ?_)
   refine x_ret (r_tmp2 rfl ?_)
   (have hd := dE_0 (m := m) hE0 hr16 hP hmk hF; rw [dP_yes hd, hd]; exact ⟨_, _, rfl, hS.selA⟩)
  try simp only [n3, n4]
  try simp only [dZ, ne_eq] at hp2
  refine g_off (yi (t := 59) rfl rfl) ?_
  try simp only [nY]
  refine g_off (yi (t := 59) rfl rfl) ?_
  try simp only [nY]
  refine g_off (yi (t := 59) rfl rfl) ?_
  try simp only [nY]
  refine g_off (yi (t := 59) rfl rfl) ?_
  try simp only [nY]
  refine s_go s_pick_f ?_
  try simp only [nY]
  refine x_nil (hK19 _ _ ?_)
  refine x_cond_f (h := ?_)
  have hF : ¬ max m (s.length : Int) < ((normP (s ++ mkP s r x)).length : Int) := by omega
  refine x_skip ?_
  refine hK17 _ _ ?_
  refine x_seq fun K22 hK22 => x_region ?_
  refine s_go s_move ?_
  try simp only [nY]
  refine s_go s_assign ?_
  try simp only [nY]
  refine s_go s_assign ?_
  try simp only [nY]
  refine x_nil (hK22 _ _ ?_)
  refine x_ret (r_tmp2 rfl ?_)
  (have hd := dE_0 (m := m) hE0 hr16 hP hmk hF; rw [dP_yes hd, hd]; exact ⟨_, _, rfl, hS.selA⟩)
 try simp only [n3, n4]
 try simp only [dZ, ne_eq] at hp1
 refine g_on (yi (t := 26) rfl rfl) ?_
 refine s_go (m_fieldAddr U27 (hi := ti3)) ?_
 try simp only [nY, fY, gY]
 refine g_on (yi (t := 26) rfl rfl) ?_
 refine s_go (m_load_obj U3 (hS := hS) (hv := by exact zi_get rfl (by omega))) ?_
 try simp only [nY, gY]
 rw [show x.getD 0 0 = opK x from rfl]
 refine g_on (yi (t := 26) rfl rfl) ?_
 refine s_go s_eql ?_
 try simp only [nY]
 refine s_go s_pick_f ?_
 try simp only [nY]
 refine s_go s_move ?_
 try simp only [nY]
 refine s_part 31 rfl (fun hp3 => ?_) (fun hp3 => ?_)
 ·
  try simp only [n3, n4]
  try simp only [dZ, ne_eq] at hp3
  have hk23x : opK x = 2 ∨ opK x = 3 := by omega
  refine g_on (yi (t := 31) rfl rfl) ?_
  refine s_go s_move ?_
  try simp only [nY]
  refine g_on (yi (t := 31) rfl rfl) ?_
  refine s_go (m_fieldAddr U27 (hi := ti23)) ?_
  try simp only [nY, fY, gY]
  refine g_on (yi (t := 31) rfl rfl) ?_
  refine s_go (m_load_obj U23 (hS := hS) (hv := by exact zi_get rfl (by omega))) ?_
  try simp only [nY, gY]
  rw [hx.e1]
  refine g_on (yi (t := 31) rfl rfl) ?_
  refine s_go (m_fieldAddr U27 (hi := ti25)) ?_
  try simp only [nY, fY, gY]
  refine g_on (yi (t := 31) rfl rfl) ?_
  refine s_go (m_loada_obj U25 (hi := ti25) (hS := hS) (hfit := by omega)) ?_
  try simp only [nY, gY]
  rw [op_item hxl]
  refine g_on (yi (t := 31) rfl rfl) ?_
  refine s_call en21 ?_
  try simp only [nY, mY]
  refine CallR.mono (c_ref14Live _ Bn cn s (hS.hasRd (by repeat (exact Has.head))) hso (by omega) _ hcx _ hil) ?_
  rintro _ w7 ⟨Ol, ol, rfl, hC7⟩
  replace hS := hS.call hC7
  simp only [List.cons_append, List.nil_append] at hS
  try simp only [nY]
  refine g_on (yi (t := 31) rfl rfl) ?_
  refine s_go (s_len_sl U47) ?_
  try simp only [nY]
  refine g_on (yi (t := 31) rfl rfl) ?_
  refine s_go s_eql ?_
  try simp only [nY]
  refine s_go s_pick_t ?_
  try simp only [nY]
  refine x_nil (hK11 _ _ ?_)
  refine x_cond (ht := fun hc7 => ?_) (hf := fun hc7 => ?_)
  ·
   try simp only [dY] at hc7
   have hQ : qtyB s (kn x 1) (kitem x) = false := decide_eq_false (by omega)
   refine x_seq fun K23 hK23 => x_region ?_
   refine s_go s_assign ?_
   try simp only [nY]
   refine s_go s_assign ?_
   try simp only [nY]
   refine x_nil (hK23 _ _ ?_)
   refine x_ret (r_tmp2 rfl ?_)
   (have hd := dE_n (m := m) hE0 hr16 ⟨hk23x, hQ⟩; rw [dP_no (by rw [hd]; decide), hd]; exact ⟨none, 0, rfl, (hS.nil_vec 66 21).sel (by repeat (first | exact Sel.nil | (refine Sel.cons (by repeat (exact Del.head)) ?_)))⟩)
  try simp only [dY] at hc7
  try have hP : ¬ ((opK x = 2 ∨ opK x = 3) ∧ qtyB s (kn x 1) (kitem x) = false) := fun q => by have := of_decide_eq_false q.2; omega
  refine x_skip ?_
  refine hK10 _ _ ?_
  refine x_seq fun K24 hK24 => x_region ?_
  refine s_go s_move ?_
  try simp only [nY]
  refine s_go s_move ?_
  try simp only [nY]
  refine s_go (m_load_row U27 (hi := ti27) (hS := hS) (hfit := by omega)) ?_
  try simp only [nY, gY]
  refine s_call en38 ?_
  try simp only [nY, mY]
  refine CallR.mono (c_ref18makes _ Bn cn s (hS.hasA) hso hsl r hr8 x hx hK hONN) ?_
  rintro _ w8 ⟨Od, od, y, rfl, hy, hC8⟩
  replace hS := hS.call hC8
  simp only [List.cons_append, List.nil_append] at hS
  try simp only [nY]
  refine s_go s_move ?_
  try simp only [nY]
  refine s_go (s_extract (hv := rfl)) ?_
  try simp only [gY]
  try simp only [nY]
  refine s_go (s_extract (hv := rfl)) ?_
  try simp only [gY]
  try simp only [nY]
  refine s_go s_assign ?_
  try simp only [nY]
  refine s_go s_assign ?_
  try simp only [nY]
  refine x_nil (hK24 _ _ ?_)
  refine x_seq fun K25 hK25 => ?_
  refine x_seq fun K26 hK26 => x_region ?_
  refine s_go s_move ?_
  try simp only [nY]
  refine s_go s_neq ?_
  try simp only [nY]
  refine x_nil (hK26 _ _ ?_)
  refine x_cond (ht := fun hc8 => ?_) (hf := fun hc8 => ?_)
  ·
   try simp only [dY] at hc8
   have hmk : ¬ mkE s r x = 0 := hc8
   refine x_seq fun K27 hK27 => x_region ?_
   refine s_go s_move ?_
   try simp only [nY]
   refine s_go s_assign ?_
   try simp only [nY]
   refine s_go s_assign ?_
   try simp only [nY]
   refine x_nil (hK27 _ _ ?_)
   refine x_ret (r_tmp2 rfl ?_)
   (have hd := dE_m (m := m) hE0 hr16 hP hmk; rw [dP_no (by rw [hd]; exact hmk), hd]; exact ⟨none, 0, rfl, (hS.nil_vec 66 21).sel (by repeat (first | exact Sel.nil | (refine Sel.cons (by repeat (exact Del.head)) ?_)))⟩)
  try simp only [dY] at hc8
  have hmk : mkE s r x = 0 := by omega
  replace hy := hy hmk
  subst hy
  obtain ⟨hmo, hml⟩ := mkP_all hso hsl hr8 hx hONN
  refine x_skip ?_
  refine hK25 _ _ ?_
  refine x_seq fun K28 hK28 => ?_
  refine x_seq fun K29 hK29 => x_region ?_
  refine s_go s_move ?_
  try simp only [nY]
  refine s_go s_move ?_
  try simp only [nY]
  refine s_call en14 ?_
  try simp only [nY, mY]
  refine CallR.mono (c_ref10Join _ Bn cn s (hS.hasA) hso Od od (mkP s r x) (hS.vecRd (by repeat (exact Has.head))) hmo (by omega)) ?_
  rintro _ w9 ⟨Aj, cj, rfl, hC9⟩
  replace hS := hS.call hC9
  simp only [List.cons_append, List.nil_append] at hS
  try simp only [nY]
  refine s_go (s_len_sl U22) ?_
  try simp only [nY]
  refine s_go s_assign ?_
  try simp only [nY]
  refine x_nil (hK29 _ _ ?_)
  refine x_seq fun K30 hK30 => x_region ?_
  refine s_go s_move ?_
  try simp only [nY]
  refine s_go s_move ?_
  try simp only [nY]
  refine s_go s_max ?_
  try simp only [nY]
  refine s_go s_gtr ?_
  try simp only [nY]
  refine s_go s_move ?_
  try simp only [nY]
  refine s_part 59 rfl (fun hp4 => ?_) (fun hp4 => ?_)
  ·
   try simp only [n3, n4]
   try simp only [dZ, ne_eq] at hp4
   refine g_on (yi (t := 59) rfl rfl) ?_
   refine s_go s_move ?_
   try simp only [nY]
   refine g_on (yi (t := 59) rfl rfl) ?_
   refine s_go s_move ?_
   try simp only [nY]
   refine g_on (yi (t := 59) rfl rfl) ?_
   refine s_go (s_len_sl U22) ?_
   try simp only [nY]
   refine g_on (yi (t := 59) rfl rfl) ?_
   refine s_go s_gtr ?_
   try simp only [nY]
   refine s_go s_pick_t ?_
   try simp only [nY]
   refine x_nil (hK30 _ _ ?_)
   refine x_cond (ht := fun hc9 => ?_) (hf := fun hc9 => ?_)
   ·
    try simp only [dY] at hc9
    have hF : max m (s.length : Int) < ((normP (s ++ mkP s r x)).length : Int) := by omega
    refine x_seq fun K31 hK31 => x_region ?_
    refine s_go s_assign ?_
    try simp only [nY]
    refine s_go s_assign ?_
    try simp only [nY]
    refine x_nil (hK31 _ _ ?_)
    refine x_ret (r_tmp2 rfl ?_)
    (have hd := dE_f (m := m) hE0 hr16 hP hmk hF; rw [dP_no (by rw [hd]; decide), hd]; exact ⟨none, 0, rfl, (hS.nil_vec 66 21).sel (by repeat (first | exact Sel.nil | (refine Sel.cons (by repeat (exact Del.head)) ?_)))⟩)
   try simp only [dY] at hc9
   have hF : ¬ max m (s.length : Int) < ((normP (s ++ mkP s r x)).length : Int) := by omega
   refine x_skip ?_
   refine hK28 _ _ ?_
   refine x_seq fun K32 hK32 => x_region ?_
   refine s_go s_move ?_
   try simp only [nY]
   refine s_go s_assign ?_
   try simp only [nY]
   refine s_go s_assign ?_
   try simp only [nY]
   refine x_nil (hK32 _ _ ?_)
   refine x_ret (r_tmp2 rfl ?_)
   (have hd := dE_0 (m := m) hE0 hr16 hP hmk hF; rw [dP_yes hd, hd]; exact ⟨_, _, rfl, hS.selA⟩)
  try simp only [n3, n4]
  try simp only [dZ, ne_eq] at hp4
  refine g_off (yi (t := 59) rfl rfl) ?_
  try simp only [nY]
  refine g_off (yi (t := 59) rfl rfl) ?_
  try simp only [nY]
  refine g_off (yi (t := 59) rfl rfl) ?_
  try simp only [nY]
  refine g_off (yi (t := 59) rfl rfl) ?_
  try simp only [nY]
  refine s_go s_pick_f ?_
  try simp only [nY]
  refine x_nil (hK30 _ _ ?_)
  refine x_cond_f (h := ?_)
  have hF : ¬ max m (s.length : Int) < ((normP (s ++ mkP s r x)).length : Int) := by omega
  refine x_skip ?_
  refine hK28 _ _ ?_
  refine x_seq fun K33 hK33 => x_region ?_
  refine s_go s_move ?_
  try simp only [nY]
  refine s_go s_assign ?_
  try simp only [nY]
  refine s_go s_assign ?_
  try simp only [nY]
  refine x_nil (hK33 _ _ ?_)
  refine x_ret (r_tmp2 rfl ?_)
  (have hd := dE_0 (m := m) hE0 hr16 hP hmk hF; rw [dP_yes hd, hd]; exact ⟨_, _, rfl, hS.selA⟩)
 try simp only [n3, n4]
 try simp only [dZ, ne_eq] at hp3
 have hP : ¬ ((opK x = 2 ∨ opK x = 3) ∧ qtyB s (kn x 1) (kitem x) = false) := fun q => by omega
 refine g_off (yi (t := 31) rfl rfl) ?_
 try simp only [nY]
 refine g_off (yi (t := 31) rfl rfl) ?_
 try simp only [nY]
 refine g_off (yi (t := 31) rfl rfl) ?_
 try simp only [nY]
 refine g_off (yi (t := 31) rfl rfl) ?_
 try simp only [nY]
 refine g_off (yi (t := 31) rfl rfl) ?_
 try simp only [nY]
 refine g_off (yi (t := 31) rfl rfl) ?_
 try simp only [nY]
 refine g_off (yi (t := 31) rfl rfl) ?_
 try simp only [nY]
 refine g_off (yi (t := 31) rfl rfl) ?_
 try simp only [nY]
 refine s_go s_pick_f ?_
 try simp only [nY]
 refine x_nil (hK11 _ _ ?_)
 refine x_cond_f (h := ?_)
 try have hP : ¬ ((opK x = 2 ∨ opK x = 3) ∧ qtyB s (kn x 1) (kitem x) = false) := fun q => by have := of_decide_eq_false q.2; omega
 refine x_skip ?_
 refine hK10 _ _ ?_
 refine x_seq fun K34 hK34 => x_region ?_
 refine s_go s_move ?_
 try simp only [nY]
 refine s_go s_move ?_
 try simp only [nY]
 refine s_go (m_load_row U27 (hi := ti27) (hS := hS) (hfit := by omega)) ?_
 try simp only [nY, gY]
 refine s_call en38 ?_
 try simp only [nY, mY]
 refine CallR.mono (c_ref18makes _ Bn cn s (hS.hasRd (by repeat (exact Has.head))) hso hsl r hr8 x hx hK hONN) ?_
 rintro _ w10 ⟨Od, od, y, rfl, hy, hC10⟩
 replace hS := hS.call hC10
 simp only [List.cons_append, List.nil_append] at hS
 try simp only [nY]
 refine s_go s_move ?_
 try simp only [nY]
 refine s_go (s_extract (hv := rfl)) ?_
 try simp only [gY]
 try simp only [nY]
 refine s_go (s_extract (hv := rfl)) ?_
 try simp only [gY]
 try simp only [nY]
 refine s_go s_assign ?_
 try simp only [nY]
 refine s_go s_assign ?_
 try simp only [nY]
 refine x_nil (hK34 _ _ ?_)
 refine x_seq fun K35 hK35 => ?_
 refine x_seq fun K36 hK36 => x_region ?_
 refine s_go s_move ?_
 try simp only [nY]
 refine s_go s_neq ?_
 try simp only [nY]
 refine x_nil (hK36 _ _ ?_)
 refine x_cond (ht := fun hc12 => ?_) (hf := fun hc12 => ?_)
 ·
  try simp only [dY] at hc12
  have hmk : ¬ mkE s r x = 0 := hc12
  refine x_seq fun K37 hK37 => x_region ?_
  refine s_go s_move ?_
  try simp only [nY]
  refine s_go s_assign ?_
  try simp only [nY]
  refine s_go s_assign ?_
  try simp only [nY]
  refine x_nil (hK37 _ _ ?_)
  refine x_ret (r_tmp2 rfl ?_)
  (have hd := dE_m (m := m) hE0 hr16 hP hmk; rw [dP_no (by rw [hd]; exact hmk), hd]; exact ⟨none, 0, rfl, (hS.nil_vec 66 21).sel (by repeat (first | exact Sel.nil | (refine Sel.cons (by repeat (exact Del.head)) ?_)))⟩)
 try simp only [dY] at hc12
 have hmk : mkE s r x = 0 := by omega
 replace hy := hy hmk
 subst hy
 obtain ⟨hmo, hml⟩ := mkP_all hso hsl hr8 hx hONN
 refine x_skip ?_
 refine hK35 _ _ ?_
 refine x_seq fun K38 hK38 => ?_
 refine x_seq fun K39 hK39 => x_region ?_
 refine s_go s_move ?_
 try simp only [nY]
 refine s_go s_move ?_
 try simp only [nY]
 refine s_call en14 ?_
 try simp only [nY, mY]
 refine CallR.mono (c_ref10Join _ Bn cn s (hS.hasA) hso Od od (mkP s r x) (hS.vecRd (by repeat (exact Has.head))) hmo (by omega)) ?_
 rintro _ w11 ⟨Aj, cj, rfl, hC11⟩
 replace hS := hS.call hC11
 simp only [List.cons_append, List.nil_append] at hS
 try simp only [nY]
 refine s_go (s_len_sl U22) ?_
 try simp only [nY]
 refine s_go s_assign ?_
 try simp only [nY]
 refine x_nil (hK39 _ _ ?_)
 refine x_seq fun K40 hK40 => x_region ?_
 refine s_go s_move ?_
 try simp only [nY]
 refine s_go s_move ?_
 try simp only [nY]
 refine s_go s_max ?_
 try simp only [nY]
 refine s_go s_gtr ?_
 try simp only [nY]
 refine s_go s_move ?_
 try simp only [nY]
 refine s_part 59 rfl (fun hp5 => ?_) (fun hp5 => ?_)
 ·
  try simp only [n3, n4]
  try simp only [dZ, ne_eq] at hp5
  refine g_on (yi (t := 59) rfl rfl) ?_
  refine s_go s_move ?_
  try simp only [nY]
  refine g_on (yi (t := 59) rfl rfl) ?_
  refine s_go s_move ?_
  try simp only [nY]
  refine g_on (yi (t := 59) rfl rfl) ?_
  refine s_go (s_len_sl U22) ?_
  try simp only [nY]
  refine g_on (yi (t := 59) rfl rfl) ?_
  refine s_go s_gtr ?_
  try simp only [nY]
  refine s_go s_pick_t ?_
  try simp only [nY]
  refine x_nil (hK40 _ _ ?_)
  refine x_cond (ht := fun hc13 => ?_) (hf := fun hc13 => ?_)
  ·
   try simp only [dY] at hc13
   have hF : max m (s.length : Int) < ((normP (s ++ mkP s r x)).length : Int) := by omega
   refine x_seq fun K41 hK41 => x_region ?_
   refine s_go s_assign ?_
   try simp only [nY]
   refine s_go s_assign ?_
   try simp only [nY]
   refine x_nil (hK41 _ _ ?_)
   refine x_ret (r_tmp2 rfl ?_)
   (have hd := dE_f (m := m) hE0 hr16 hP hmk hF; rw [dP_no (by rw [hd]; decide), hd]; exact ⟨none, 0, rfl, (hS.nil_vec 66 21).sel (by repeat (first | exact Sel.nil | (refine Sel.cons (by repeat (exact Del.head)) ?_)))⟩)
  try simp only [dY] at hc13
  have hF : ¬ max m (s.length : Int) < ((normP (s ++ mkP s r x)).length : Int) := by omega
  refine x_skip ?_
  refine hK38 _ _ ?_
  refine x_seq fun K42 hK42 => x_region ?_
  refine s_go s_move ?_
  try simp only [nY]
  refine s_go s_assign ?_
  try simp only [nY]
  refine s_go s_assign ?_
  try simp only [nY]
  refine x_nil (hK42 _ _ ?_)
  refine x_ret (r_tmp2 rfl ?_)
  (have hd := dE_0 (m := m) hE0 hr16 hP hmk hF; rw [dP_yes hd, hd]; exact ⟨_, _, rfl, hS.selA⟩)
 try simp only [n3, n4]
 try simp only [dZ, ne_eq] at hp5
 refine g_off (yi (t := 59) rfl rfl) ?_
 try simp only [nY]
 refine g_off (yi (t := 59) rfl rfl) ?_
 try simp only [nY]
 refine g_off (yi (t := 59) rfl rfl) ?_
 try simp only [nY]
 refine g_off (yi (t := 59) rfl rfl) ?_
 try simp only [nY]
 refine s_go s_pick_f ?_
 try simp only [nY]
 refine x_nil (hK40 _ _ ?_)
 refine x_cond_f (h := ?_)
 have hF : ¬ max m (s.length : Int) < ((normP (s ++ mkP s r x)).length : Int) := by omega
 refine x_skip ?_
 refine hK38 _ _ ?_
 refine x_seq fun K43 hK43 => x_region ?_
 refine s_go s_move ?_
 try simp only [nY]
 refine s_go s_assign ?_
 try simp only [nY]
 refine s_go s_assign ?_
 try simp only [nY]
 refine x_nil (hK43 _ _ ?_)
 refine x_ret (r_tmp2 rfl ?_)
 (have hd := dE_0 (m := m) hE0 hr16 hP hmk hF; rw [dP_yes hd, hd]; exact ⟨_, _, rfl, hS.selA⟩)
end Go.Proofs.YtpekghaodmeemaaGreat
