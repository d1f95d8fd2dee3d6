/- Rules, plain words and walks that the claim leans on: Sw, Sz, Sl, Szz, Saa, Sba, Lzopen, Lzopen6, Tb, Vj, Tc. -/
import Derived.Test.YtpekghaodmeemaaGreatZShopRoom6
set_option linter.unusedSimpArgs false
set_option linter.unusedVariables false
set_option linter.unusedSimpArgs false
set_option linter.unusedVariables false
set_option maxHeartbeats 400000
set_option maxRecDepth 100000
namespace Go.Proofs.YtpekghaodmeemaaGreat
open Go.RowKit
theorem c_shopDo (w0 : World) (A : Option Addr) (c : Nat) (l : List (List Int)) (hr : Rd w0 A 21 l.length (arows l)) (hv : AOks l) (hn : l.length ≤ 40000000) (m : Int) (r : Nat) (hr8 : r < 256) (x : List Int) (hx : OpOk x)  :
    CallR Tryz.prog 13 #[.slice A l.length c, .int .i64 m, .int .u8 (r : Int), .agg (OA x)] w0 fun v w' => ∃ (O : Option Addr) (oc : Nat), v = .tuple #[.slice O (dP (normP l) m r x).length oc, .int .i64 (dE (normP l) m r x)] ∧ St NoB w0 w' [.vec O oc 66 21 (dP (normP l) m r x).length (arows (dP (normP l) m r x))] := by
 obtain ⟨s, hs⟩ : ∃ s, normP l = s := ⟨_, rfl⟩
 have hst := norm_sta hv
 have hnb := norm_len l
 rw [hs] at hst hnb ⊢
 have hso := hst.ok
 have hsl : s.length ≤ 40000000 := by omega
 have hS := St.rd1 (S := NoB) hr
 have hxl := hx.len
 have hil := op_il hxl
 have htl := op_tl hxl
 have hk1 := hx.k1
 have hk2 := hx.k2
 have hm1 := hx.m1
 have hm2 := hx.m2
 have hbi := hx.item
 have hbt := hx.text
 have hcx := hx.b1
 have hxs := op_size hxl
 refine d_enter (pn := DPN s m r x w0) (l := [.slice A l.length c, .int .i64 m, .int .u8 (r : Int), .agg (OA x), undef, undef, undef, undef, undef, undef, undef, undef, undef, undef, undef, undef, undef, undef, undef, undef, undef, undef, undef, undef, undef, undef, undef, undef, undef, undef, undef, undef, undef, undef, undef, undef, undef, undef, undef, undef, undef, undef, undef, undef, undef, undef, undef, undef, undef, undef, undef, undef, undef, undef, undef, undef, undef, undef, undef]) Tryz.func13 rfl (by simp only [Tryz.ntmps13, List.size_toArray, List.length_cons, List.length_nil, Nat.reduceAdd, Nat.reduceSub, Array.replicate_succ, Array.replicate_zero, List.push_toArray, List.append_toArray, List.nil_append, List.cons_append]) ?_ ?pnok
 case pnok =>
  exact fun a v w h => do_pan a v w h
 refine z_seq fun K1 hK1 => ?_
 refine z_region ?_
 refine m_box hS (fun w1 g1 hS => ?_)
 try simp only [nY, aY] at hS ⊢
 obtain ⟨gx, hgx⟩ : ∃ z, z = g1 := ⟨_, rfl⟩
 rw [← hgx] at hS ⊢
 refine m_alloc ti22 hS (fun w2 g2 hS => ?_)
 try simp only [nY, aY] at hS ⊢
 obtain ⟨gd, hgd⟩ : ∃ z, z = g2 := ⟨_, rfl⟩
 rw [← hgd] at hS ⊢
 refine m_alloc ti39 hS (fun w3 g3 hS => ?_)
 try simp only [nY, aY] at hS ⊢
 obtain ⟨ge, hge⟩ : ∃ z, z = g3 := ⟨_, rfl⟩
 rw [← hge] at hS ⊢
 refine z_nilf ?_
 refine hK1 _ _ ?_
 refine z_seq fun K2 hK2 => ?_
 refine z_defer 1 rfl ?_
 simp only [List.take_succ_cons, List.take_zero]
 refine s_go s_makeFunc ?_
 try simp only [nY, List.map_toArray, List.map_cons, List.map_nil]
 refine z_nil ⟨_, _, _, rfl, rfl, ?_⟩
 refine hK2 _ _ ?_
 refine z_seq fun K3 hK3 => ?_
 refine z_seq fun K4 hK4 => ?_
 refine z_region ?_
 refine s_go (m_load_row U27 (hi := ti27) (hS := hS) (hfit := by omega)) ?_
 try simp only [nY, gY]
 refine s_call en16 ?_
 try simp only [nY, mY]
 refine CallR.mono (c_shopRight _ (by assumption) _) ?_
 rintro _ w4 ⟨rfl, hE4⟩
 replace hS := hS.ext hE4
 try simp only [nY]
 refine s_go s_assign ?_
 try simp only [nY]
 refine z_nilf ?_
 refine hK4 _ _ ?_
 refine z_seq fun K5 hK5 => ?_
 refine z_region ?_
 refine s_go s_move ?_
 try simp only [nY]
 refine s_go s_neq ?_
 try simp only [nY]
 refine z_nilf ?_
 refine hK5 _ _ ?_
 refine z_cond (ht := fun hc1 => ?_) (hf := fun hc1 => ?_)
 ·
  try simp only [dY] at hc1
  have hE : ¬ opE x = 0 := hc1
  refine z_seq fun K6 hK6 => ?_
  refine z_region ?_
  refine s_go s_move ?_
  try simp only [nY]
  refine m_store_obj ti22 (hS := hS) (hc := by (exact splice_whole (by (simp [opv, Value.cells, *]; done)))) (hv := by rfl) (hfit := by (simp only [ic_size, List.length_map, List.size_toArray]; decide)) (h1 := by simp [opv, Value.cells, Value.oneCell']) (h := fun w5 hS => ?_)
  try simp only [nY, aY] at hS ⊢
  refine m_store_obj ti39 (hS := hS) (hc := by (exact splice_whole (by (simp [opv, Value.cells, *]; done)))) (hv := by rfl) (hfit := by (simp only [ic_size, List.length_map, List.size_toArray]; decide)) (h1 := by simp [opv, Value.cells, Value.oneCell']) (h := fun w6 hS => ?_)
  try simp only [nY, aY] at hS ⊢
  refine z_nilf ?_
  refine hK6 _ _ ?_
  refine z_ret ?_
  refine do_ret (gd := gd) (ge := ge) (fun w99 hE99 => ?_)
  replace hS := hS.ext hE99
  refine r_cell_cell_oo rfl U22 U39 (hS := hS) (hR := ?_)
  rw [dP_no (by rw [dE_e hE]; exact hE), dE_e hE]
  exact ⟨_, _, rfl, (hS.nil_vec 66 21).sel (by repeat (first | exact Sel.nil | (refine Sel.cons (by repeat (exact Del.head)) ?_)))⟩
 try simp only [dY] at hc1
 have hE0 : opE x = 0 := by omega
 obtain ⟨hK, hOn, hONN, hOt⟩ := opE_ok hE0
 refine z_skip ?_
 refine hK3 _ _ ?_
 refine z_seq fun K7 hK7 => ?_
 refine z_region ?_
 refine s_go s_move ?_
 try simp only [nY]
 refine s_go s_lss ?_
 try simp only [nY]
 refine zp_call en33 ?_
 try simp only [nY, mY]
 refine CallP.mono (c_need (decide ((r : Int) < 16)) 1 _) ?zr7 ?zp7
 case zp7 =>
  rintro _ w7 ⟨hg7, rfl, hE7⟩
  have hd7 : dE s m r x = 1 := dE_r hE0 (by have := of_decide_eq_false hg7; omega)
  exact ⟨gd, ge, _, 0, rfl, rfl, rfl, by rw [hd7]; decide, by rw [hd7], (hS.ext hE7).sel (by repeat (first | exact Sel.nil | (refine Sel.cons (by repeat (first | exact Del.head | apply Del.tail)) ?_)))⟩
 rintro _ w7 ⟨hg7, hE7⟩
 replace hS := hS.ext hE7
 have hr16 : ¬ 16 ≤ r := by have := of_decide_eq_true hg7; omega
 try simp only [nY]
 refine z_nilf ?_
 refine hK7 _ _ ?_
 refine z_seq fun K8 hK8 => ?_
 refine z_region ?_
 refine s_go s_move ?_
 try simp only [nY]
 refine s_call en27 ?_
 try simp only [nY, mY]
 refine CallR.mono (c_latNorm _ A c l (hS.hasA) hv (by omega)) ?_
 rintro _ w8 ⟨An, cn, rfl, hC8⟩
 replace hS := hS.call hC8
 simp only [List.cons_append, List.nil_append] at hS
 rw [hs] at hS ⊢
 try simp only [nY]
 refine s_go s_assign ?_
 try simp only [nY]
 refine z_nilf ?_
 refine hK8 _ _ ?_
 refine z_seq fun K9 hK9 => ?_
 refine z_seq fun K10 hK10 => ?_
 refine z_region ?_
 refine s_go (m_fieldAddr U27 (hi := ti3)) ?_
 try simp only [nY, fY, gY]
 refine s_go (m_load_obj U3 (hS := hS) (hv := by exact zi_get rfl (by omega))) ?_
 try simp only [nY, gY]
 rw [show x.getD 0 0 = opK x from rfl]
 refine s_go s_eql ?_
 try simp only [nY]
 refine s_go s_move ?_
 try simp only [nY]
 refine s_part 26 rfl (fun hp1 => ?_) (fun hp1 => ?_)
 ·
  try simp only [n3, n4]
  try simp only [dZ, ne_eq] at hp1
  refine g_off (yi (t := 26) rfl rfl) ?_
  try simp only [nY]
  refine g_off (yi (t := 26) rfl rfl) ?_
  try simp only [nY]
  refine g_off (yi (t := 26) rfl rfl) ?_
  try simp only [nY]
  refine s_go s_pick_t ?_
  try simp only [nY]
  refine z_nilf ?_
  refine hK10 _ _ ?_
  refine z_cond_t (h := ?_)
  have hk23x : opK x = 2 ∨ opK x = 3 := by omega
  refine z_region ?_
  refine s_go s_move ?_
  try simp only [nY]
  refine s_go (m_fieldAddr U27 (hi := ti23)) ?_
  try simp only [nY, fY, gY]
  refine s_go (m_load_obj U23 (hS := hS) (hv := by exact zi_get rfl (by omega))) ?_
  try simp only [nY, gY]
  rw [hx.e1]
  refine s_go (m_fieldAddr U27 (hi := ti25)) ?_
  try simp only [nY, fY, gY]
  refine s_go (m_loada_obj U25 (hi := ti25) (hS := hS) (hfit := by omega)) ?_
  try simp only [nY, gY]
  rw [op_item hxl]
  refine s_call en34 ?_
  try simp only [nY, mY]
  refine CallR.mono (c_tagsPresent _ An cn s (hS.vecRd (by repeat (exact Has.head))) hso (by omega) _ hcx _ hil) ?_
  rintro _ w9 ⟨rfl, hE9⟩
  replace hS := hS.ext hE9
  try simp only [nY]
  rw [show decide (0 < (((tagS (normP s) (kn x 1) (kitem x) 1).map akey).length : Int)) = qtyB s (kn x 1) (kitem x) by rw [qtyB]; exact decide_eq_decide.2 (by omega)]
  refine zp_call en33 ?_
  try simp only [nY, mY]
  refine CallP.mono (c_need (qtyB s (kn x 1) (kitem x)) 6 _) ?zr10 ?zp10
  case zp10 =>
   rintro _ w10 ⟨hg10, rfl, hE10⟩
   have hd10 : dE s m r x = 6 := dE_n hE0 hr16 ⟨hk23x, hg10⟩
   exact ⟨gd, ge, _, 0, rfl, rfl, rfl, by rw [hd10]; decide, by rw [hd10], (hS.ext hE10).sel (by repeat (first | exact Sel.nil | (refine Sel.cons (by repeat (first | exact Del.head | apply Del.tail)) ?_)))⟩
  rintro _ w10 ⟨hg10, hE10⟩
  replace hS := hS.ext hE10
  have hP : ¬ ((opK x = 2 ∨ opK x = 3) ∧ qtyB s (kn x 1) (kitem x) = false) := fun q => by rw [hg10] at q; cases q.2
  try simp only [nY]
  refine z_nilf ?_
  refine hK9 _ _ ?_
  refine z_seq fun K11 hK11 => ?_
  refine z_mixed_c (Lc := [.obj gx (.cells (OA x) 27 (0, 0))]) [9] [38, 39, 40, 41, 42, 43, 44, 45, 46] (fun f w => ∃ (O : Option Addr) (oc : Nat), mkE s r x = 0 ∧ St NoB w0 w [.vec O oc 66 21 (mkP s r x).length (arows (mkP s r x)), .obj gd (.cells #[.slice O (mkP s r x).length oc] 22 (0, 0)), .obj ge (.cells #[.int .i64 0] 39 (0, 0)), .vec An cn 66 21 (s).length (arows (s))]) (by kernel_rfl) hS (fun w11 hS => ?mixpre901) ?mixrest901
  case mixpre901 =>
   simp only [List.length_cons, List.length_nil, Nat.reduceAdd, Nat.reduceSub]
   refine zny_go (lo := 10) (i := 0) (dpn_ok.wd) (by rfl) (by decide) (by decide +kernel) (by decide +kernel) (by unfold noLate; decide) (go_yields w_none (fun w hS => s_move)) ?_
   try simp only [nY]
   refine zny_go (lo := 10) (i := 1) (dpn_ok.wd) (by rfl) (by decide) (by decide +kernel) (by decide +kernel) (by unfold noLate; decide) (go_yields w_none (fun w hS => s_move)) ?_
   try simp only [nY]
   refine zny_go (lo := 10) (i := 2) (dpn_ok.wd) (by rfl) (by decide) (by decide +kernel) (by decide +kernel) (by unfold noLate; decide) (go_yields w_none (fun w hS => m_load_row U27 (hi := ti27) (hS := hS) (hfit := by omega))) ?_
   try simp only [nY, gY]
   refine zny_go (lo := 10) (i := 3) (dpn_ok.wd) (by rfl) (by decide) (by decide +kernel) (by decide +kernel) (by unfold noLate; decide) (go_yields w_none (fun w hS => s_build_struct (cells := (MA (.slice An s.length cn) r x)) U78 ti78 bp78 (hc := by simp only [List.map_toArray, List.map_cons, List.map_nil, nY, List.toList_toArray]; exact fill_ma (by rfl) (by rfl) (by rfl) hxl))) ?_
   try simp only [nY]
   refine zny_go (lo := 10) (i := 5) (dpn_ok.wd) (by rfl) (by decide) (by decide +kernel) (by decide +kernel) (by unfold noLate; decide) (go_yields w_none (fun w hS => m_fieldAddr U27 (hi := ti3))) ?_
   try simp only [nY, fY, gY]
   refine zny_go (lo := 10) (i := 6) (dpn_ok.wd) (by rfl) (by decide) (by decide +kernel) (by decide +kernel) (by unfold noLate; decide) (go_yields w_none (fun w hS => m_load_obj U3 (hS := hS) (hv := by exact zi_get rfl (by omega)))) ?_
   try simp only [nY, gY]
   rw [show x.getD 0 0 = opK x from rfl]
   refine zny_step [4] (by kernel_rfl) (by decide) (fun w12 hE => ⟨fun _ => (hS.ext hE).sel (by repeat (first | exact Sel.nil | (refine Sel.cons (by repeat (first | exact Del.head | apply Del.tail)) ?_))), ?_⟩)
   replace hS := hS.ext hE
   intro i hi
   simp only [List.mem_cons, List.not_mem_nil, or_false] at hi
   subst hi
   refine zny_op (by rfl) ?_
   refine s_call en35 ?_
   try simp only [nY, mY]
   refine CallR.mono (c_kinds (.slice An s.length cn) r x hx _) ?_
   rintro _ w13 ⟨q1, q3, rfl, hC13⟩
   replace hS := hS.call hC13
   simp only [List.cons_append, List.nil_append] at hS
   replace hS := hS.obj_rd (sz := 21) (n := 1) (by exact ma_size hxl) (.head)
   replace hS := hS.obj_rd (sz := 19) (n := 1) (by exact op_size hxl) (.tail .head)
   try simp only [nY]
   refine z_nil ?_
   refine zny_go (lo := 10) (i := 7) (dpn_ok.wd) (by rfl) (by decide) (by decide +kernel) (by decide +kernel) (by unfold noLate; decide) (go_yields w_none (fun w hS => s_index_one U76 ti75 U75 (hv := kf_get hK))) ?_
   try simp only [nY, Nat.mul_one, Nat.zero_add, Int.toNat_natCast, Int.reduceToNat]
   refine zny_step [8] (by kernel_rfl) (by decide) (fun w14 hE => ⟨fun _ => (hS.ext hE).sel (by repeat (first | exact Sel.nil | (refine Sel.cons (by repeat (first | exact Del.head | apply Del.tail)) ?_))), ?_⟩)
   replace hS := hS.ext hE
   intro i hi
   simp only [List.mem_cons, List.not_mem_nil, or_false] at hi
   subst hi
   refine zny_op (by rfl) ?_
   refine zp_callv (hv := rfl) (kf_en hK) ?_
   simp only [List.map_toArray, List.map_nil]
   rw [show ([] : List Value).toArray ++ kcap (opK x) q1 q3 = kcap (opK x) q1 q3 from by simp]
   refine CallP.mono (c_kindAny _ An cn s (hS.vecA) hso hsl r hr8 x hx hK hONN q1 q3 (hS.hasRd (by repeat (exact Has.head))) (hS.hasA)) ?zrk14 ?zpk14
   case zpk14 =>
    rintro _ w97 ⟨hg97, rfl, hE97⟩
    have hd97 : dE s m r x = mkE s r x := dE_m hE0 hr16 hP hg97
    exact ⟨gd, ge, _, 0, rfl, rfl, rfl, by rw [hd97]; exact hg97, by rw [hd97], (hS.ext hE97).sel (by repeat (first | exact Sel.nil | (refine Sel.cons (by repeat (first | exact Del.head | apply Del.tail)) ?_)))⟩
   rintro _ w98 ⟨hmk, Od, od, rfl, hC98⟩
   replace hS := hS.call hC98
   simp only [List.cons_append, List.nil_append] at hS
   try simp only [nY]
   refine z_nil ?_
   refine zny_step [9] (by kernel_rfl) (by decide) (fun w15 hE => ⟨fun _ => (hS.ext hE).sel (by repeat (first | exact Sel.nil | (refine Sel.cons (by repeat (first | exact Del.head | apply Del.tail)) ?_))), ?_⟩)
   replace hS := hS.ext hE
   intro i hi
   simp only [List.mem_cons, List.not_mem_nil, or_false] at hi
   subst hi
   refine zny_op (by rfl) ?_
   refine m_store_obj ti22 (hS := hS) (hc := by (exact splice_whole (by (simp [opv, Value.cells, *]; done)))) (hv := by rfl) (hfit := by (simp only [ic_size, List.length_map, List.size_toArray]; decide)) (h1 := by simp [opv, Value.cells, Value.oneCell']) (h := fun w16 hS => ?_)
   try simp only [nY, aY] at hS ⊢
   refine z_nil ?_
   refine zny_nil (by kernel_rfl) (fun w17 hE => ?_)
   replace hS := hS.ext hE
   refine ⟨fun hl => absurd (hl 9 (by decide)) (by decide +kernel), ?_⟩
   refine mix_leaf (by simp only [clob, List.foldl, nZ]) ?_
   try simp only [n1, n2]
   exact ⟨_, _, hmk, hS.selA⟩
  intro fm1 w18 hM
  obtain ⟨Od, od, hmk, hS⟩ := hM
  simp only [clob, List.foldl, n3, n4]
  refine hK11 _ _ ?_
  refine z_seq fun K12 hK12 => ?_
  refine z_region ?_
  refine s_go s_move ?_
  try simp only [nY]
  refine s_go (m_load_obj U22 (hS := hS) (hv := by rfl)) ?_
  try simp only [nY, gY]
  obtain ⟨hmo, hml⟩ := mkP_all hso hsl hr8 hx hONN
  refine s_call en28 ?_
  try simp only [nY, mY]
  refine CallR.mono (c_latJoin _ An cn s (hS.vecA) hso Od od (mkP s r x) (hS.vecRd (by repeat (exact Has.head))) hmo (by omega)) ?_
  rintro _ w19 ⟨Aj, cj, rfl, hC19⟩
  replace hS := hS.call hC19
  simp only [List.cons_append, List.nil_append] at hS
  try simp only [nY]
  refine s_go (s_len_sl U22) ?_
  try simp only [nY]
  refine s_go s_assign ?_
  try simp only [nY]
  refine z_nilf ?_
  refine hK12 _ _ ?_
  refine z_seq fun K13 hK13 => ?_
  refine z_region ?_
  refine s_go s_move ?_
  try simp only [nY]
  refine s_go s_move ?_
  try simp only [nY]
  refine s_go s_move ?_
  try simp only [nY]
  refine s_go (s_len_sl U22) ?_
  try simp only [nY]
  refine s_go s_max ?_
  try simp only [nY]
  refine s_go s_leq ?_
  try simp only [nY]
  refine zp_call en33 ?_
  try simp only [nY, mY]
  refine CallP.mono (c_need (decide (((normP (s ++ mkP s r x)).length : Int) ≤ max m (s.length : Int))) 7 _) ?zr20 ?zp20
  case zp20 =>
   rintro _ w20 ⟨hg20, rfl, hE20⟩
   have hd20 : dE s m r x = 7 := dE_f hE0 hr16 hP hmk (by have := of_decide_eq_false hg20; omega)
   exact ⟨gd, ge, _, 0, rfl, rfl, rfl, by rw [hd20]; decide, by rw [hd20], (hS.ext hE20).sel (by repeat (first | exact Sel.nil | (refine Sel.cons (by repeat (first | exact Del.head | apply Del.tail)) ?_)))⟩
  rintro _ w20 ⟨hg20, hE20⟩
  replace hS := hS.ext hE20
  have hD0 : dE s m r x = 0 := dE_0 hE0 hr16 hP hmk (by have := of_decide_eq_true hg20; omega)
  try simp only [nY]
  refine z_nilf ?_
  refine hK13 _ _ ?_
  refine z_seq fun K14 hK14 => ?_
  refine z_region ?_
  refine s_go (m_load_obj U22 (hS := hS) (hv := by rfl)) ?_
  try simp only [nY, gY]
  refine m_store_obj ti22 (hS := hS) (hc := by (exact splice_whole (by (simp [opv, Value.cells, *]; done)))) (hv := by rfl) (hfit := by (simp [*]; done)) (h1 := by simp [opv, Value.cells, Value.oneCell']) (h := fun w21 hS => ?_)
  try simp only [nY, aY] at hS ⊢
  refine m_store_obj ti39 (hS := hS) (hc := by (exact splice_whole (by (simp [opv, Value.cells, *]; done)))) (hv := by rfl) (hfit := by (simp only [ic_size, List.length_map, List.size_toArray]; decide)) (h1 := by simp [opv, Value.cells, Value.oneCell']) (h := fun w22 hS => ?_)
  try simp only [nY, aY] at hS ⊢
  refine z_nilf ?_
  refine hK14 _ _ ?_
  refine z_ret ?_
  refine do_ret (gd := gd) (ge := ge) (fun w99 hE99 => ?_)
  replace hS := hS.ext hE99
  refine r_cell_cell_oo rfl U22 U39 (hS := hS) (hR := ?_)
  rw [dP_yes hD0, hD0]
  exact ⟨_, _, rfl, hS.selA⟩
 try simp only [n3, n4]
 try simp only [dZ, ne_eq] at hp1
 refine g_on (yi (t := 26) rfl rfl) ?_
 refine s_go (m_fieldAddr U27 (hi := ti3)) ?_
 try simp only [nY, fY, gY]
 refine g_on (yi (t := 26) rfl rfl) ?_
 refine s_go (m_load_obj U3 (hS := hS) (hv := by exact zi_get rfl (by omega))) ?_
 try simp only [nY, gY]
 rw [show x.getD 0 0 = opK x from rfl]
 refine g_on (yi (t := 26) rfl rfl) ?_
 refine s_go s_eql ?_
 try simp only [nY]
 refine s_go s_pick_f ?_
 try simp only [nY]
 refine z_nilf ?_
 refine hK10 _ _ ?_
 refine z_cond (ht := fun hc3 => ?_) (hf := fun hc3 => ?_)
 ·
  try simp only [dY] at hc3
  have hk23x : opK x = 2 ∨ opK x = 3 := by omega
  refine z_region ?_
  refine s_go s_move ?_
  try simp only [nY]
  refine s_go (m_fieldAddr U27 (hi := ti23)) ?_
  try simp only [nY, fY, gY]
  refine s_go (m_load_obj U23 (hS := hS) (hv := by exact zi_get rfl (by omega))) ?_
  try simp only [nY, gY]
  rw [hx.e1]
  refine s_go (m_fieldAddr U27 (hi := ti25)) ?_
  try simp only [nY, fY, gY]
  refine s_go (m_loada_obj U25 (hi := ti25) (hS := hS) (hfit := by omega)) ?_
  try simp only [nY, gY]
  rw [op_item hxl]
  refine s_call en34 ?_
  try simp only [nY, mY]
  refine CallR.mono (c_tagsPresent _ An cn s (hS.vecRd (by repeat (exact Has.head))) hso (by omega) _ hcx _ hil) ?_
  rintro _ w23 ⟨rfl, hE23⟩
  replace hS := hS.ext hE23
  try simp only [nY]
  rw [show decide (0 < (((tagS (normP s) (kn x 1) (kitem x) 1).map akey).length : Int)) = qtyB s (kn x 1) (kitem x) by rw [qtyB]; exact decide_eq_decide.2 (by omega)]
  refine zp_call en33 ?_
  try simp only [nY, mY]
  refine CallP.mono (c_need (qtyB s (kn x 1) (kitem x)) 6 _) ?zr24 ?zp24
  case zp24 =>
   rintro _ w24 ⟨hg24, rfl, hE24⟩
   have hd24 : dE s m r x = 6 := dE_n hE0 hr16 ⟨hk23x, hg24⟩
   exact ⟨gd, ge, _, 0, rfl, rfl, rfl, by rw [hd24]; decide, by rw [hd24], (hS.ext hE24).sel (by repeat (first | exact Sel.nil | (refine Sel.cons (by repeat (first | exact Del.head | apply Del.tail)) ?_)))⟩
  rintro _ w24 ⟨hg24, hE24⟩
  replace hS := hS.ext hE24
  have hP : ¬ ((opK x = 2 ∨ opK x = 3) ∧ qtyB s (kn x 1) (kitem x) = false) := fun q => by rw [hg24] at q; cases q.2
  try simp only [nY]
  refine z_nilf ?_
  refine hK9 _ _ ?_
  refine z_seq fun K15 hK15 => ?_
  refine z_mixed_c (Lc := [.obj gx (.cells (OA x) 27 (0, 0))]) [9] [38, 39, 40, 41, 42, 43, 44, 45, 46] (fun f w => ∃ (O : Option Addr) (oc : Nat), mkE s r x = 0 ∧ St NoB w0 w [.vec O oc 66 21 (mkP s r x).length (arows (mkP s r x)), .obj gd (.cells #[.slice O (mkP s r x).length oc] 22 (0, 0)), .obj ge (.cells #[.int .i64 0] 39 (0, 0)), .vec An cn 66 21 (s).length (arows (s))]) (by kernel_rfl) hS (fun w25 hS => ?mixpre902) ?mixrest902
  case mixpre902 =>
   simp only [List.length_cons, List.length_nil, Nat.reduceAdd, Nat.reduceSub]
   refine zny_go (lo := 10) (i := 0) (dpn_ok.wd) (by rfl) (by decide) (by decide +kernel) (by decide +kernel) (by unfold noLate; decide) (go_yields w_none (fun w hS => s_move)) ?_
   try simp only [nY]
   refine zny_go (lo := 10) (i := 1) (dpn_ok.wd) (by rfl) (by decide) (by decide +kernel) (by decide +kernel) (by unfold noLate; decide) (go_yields w_none (fun w hS => s_move)) ?_
   try simp only [nY]
   refine zny_go (lo := 10) (i := 2) (dpn_ok.wd) (by rfl) (by decide) (by decide +kernel) (by decide +kernel) (by unfold noLate; decide) (go_yields w_none (fun w hS => m_load_row U27 (hi := ti27) (hS := hS) (hfit := by omega))) ?_
   try simp only [nY, gY]
   refine zny_go (lo := 10) (i := 3) (dpn_ok.wd) (by rfl) (by decide) (by decide +kernel) (by decide +kernel) (by unfold noLate; decide) (go_yields w_none (fun w hS => s_build_struct (cells := (MA (.slice An s.length cn) r x)) U78 ti78 bp78 (hc := by simp only [List.map_toArray, List.map_cons, List.map_nil, nY, List.toList_toArray]; exact fill_ma (by rfl) (by rfl) (by rfl) hxl))) ?_
   try simp only [nY]
   refine zny_go (lo := 10) (i := 5) (dpn_ok.wd) (by rfl) (by decide) (by decide +kernel) (by decide +kernel) (by unfold noLate; decide) (go_yields w_none (fun w hS => m_fieldAddr U27 (hi := ti3))) ?_
   try simp only [nY, fY, gY]
   refine zny_go (lo := 10) (i := 6) (dpn_ok.wd) (by rfl) (by decide) (by decide +kernel) (by decide +kernel) (by unfold noLate; decide) (go_yields w_none (fun w hS => m_load_obj U3 (hS := hS) (hv := by exact zi_get rfl (by omega)))) ?_
   try simp only [nY, gY]
   rw [show x.getD 0 0 = opK x from rfl]
   refine zny_step [4] (by kernel_rfl) (by decide) (fun w26 hE => ⟨fun _ => (hS.ext hE).sel (by repeat (first | exact Sel.nil | (refine Sel.cons (by repeat (first | exact Del.head | apply Del.tail)) ?_))), ?_⟩)
   replace hS := hS.ext hE
   intro i hi
   simp only [List.mem_cons, List.not_mem_nil, or_false] at hi
   subst hi
   refine zny_op (by rfl) ?_
   refine s_call en35 ?_
   try simp only [nY, mY]
   refine CallR.mono (c_kinds (.slice An s.length cn) r x hx _) ?_
   rintro _ w27 ⟨q1, q3, rfl, hC27⟩
   replace hS := hS.call hC27
   simp only [List.cons_append, List.nil_append] at hS
   replace hS := hS.obj_rd (sz := 21) (n := 1) (by exact ma_size hxl) (.head)
   replace hS := hS.obj_rd (sz := 19) (n := 1) (by exact op_size hxl) (.tail .head)
   try simp only [nY]
   refine z_nil ?_
   refine zny_go (lo := 10) (i := 7) (dpn_ok.wd) (by rfl) (by decide) (by decide +kernel) (by decide +kernel) (by unfold noLate; decide) (go_yields w_none (fun w hS => s_index_one U76 ti75 U75 (hv := kf_get hK))) ?_
   try simp only [nY, Nat.mul_one, Nat.zero_add, Int.toNat_natCast, Int.reduceToNat]
   refine zny_step [8] (by kernel_rfl) (by decide) (fun w28 hE => ⟨fun _ => (hS.ext hE).sel (by repeat (first | exact Sel.nil | (refine Sel.cons (by repeat (first | exact Del.head | apply Del.tail)) ?_))), ?_⟩)
   replace hS := hS.ext hE
   intro i hi
   simp only [List.mem_cons, List.not_mem_nil, or_false] at hi
   subst hi
   refine zny_op (by rfl) ?_
   refine zp_callv (hv := rfl) (kf_en hK) ?_
   simp only [List.map_toArray, List.map_nil]
   rw [show ([] : List Value).toArray ++ kcap (opK x) q1 q3 = kcap (opK x) q1 q3 from by simp]
   refine CallP.mono (c_kindAny _ An cn s (hS.vecA) hso hsl r hr8 x hx hK hONN q1 q3 (hS.hasRd (by repeat (exact Has.head))) (hS.hasA)) ?zrk28 ?zpk28
   case zpk28 =>
    rintro _ w97 ⟨hg97, rfl, hE97⟩
    have hd97 : dE s m r x = mkE s r x := dE_m hE0 hr16 hP hg97
    exact ⟨gd, ge, _, 0, rfl, rfl, rfl, by rw [hd97]; exact hg97, by rw [hd97], (hS.ext hE97).sel (by repeat (first | exact Sel.nil | (refine Sel.cons (by repeat (first | exact Del.head | apply Del.tail)) ?_)))⟩
   rintro _ w98 ⟨hmk, Od, od, rfl, hC98⟩
   replace hS := hS.call hC98
   simp only [List.cons_append, List.nil_append] at hS
   try simp only [nY]
   refine z_nil ?_
   refine zny_step [9] (by kernel_rfl) (by decide) (fun w29 hE => ⟨fun _ => (hS.ext hE).sel (by repeat (first | exact Sel.nil | (refine Sel.cons (by repeat (first | exact Del.head | apply Del.tail)) ?_))), ?_⟩)
   replace hS := hS.ext hE
   intro i hi
   simp only [List.mem_cons, List.not_mem_nil, or_false] at hi
   subst hi
   refine zny_op (by rfl) ?_
   refine m_store_obj ti22 (hS := hS) (hc := by (exact splice_whole (by (simp [opv, Value.cells, *]; done)))) (hv := by rfl) (hfit := by (simp only [ic_size, List.length_map, List.size_toArray]; decide)) (h1 := by simp [opv, Value.cells, Value.oneCell']) (h := fun w30 hS => ?_)
   try simp only [nY, aY] at hS ⊢
   refine z_nil ?_
   refine zny_nil (by kernel_rfl) (fun w31 hE => ?_)
   replace hS := hS.ext hE
   refine ⟨fun hl => absurd (hl 9 (by decide)) (by decide +kernel), ?_⟩
   refine mix_leaf (by simp only [clob, List.foldl, nZ]) ?_
   try simp only [n1, n2]
   exact ⟨_, _, hmk, hS.selA⟩
  intro fm2 w32 hM
  obtain ⟨Od, od, hmk, hS⟩ := hM
  simp only [clob, List.foldl, n3, n4]
  refine hK15 _ _ ?_
  refine z_seq fun K16 hK16 => ?_
  refine z_region ?_
  refine s_go s_move ?_
  try simp only [nY]
  refine s_go (m_load_obj U22 (hS := hS) (hv := by rfl)) ?_
  try simp only [nY, gY]
  obtain ⟨hmo, hml⟩ := mkP_all hso hsl hr8 hx hONN
  refine s_call en28 ?_
  try simp only [nY, mY]
  refine CallR.mono (c_latJoin _ An cn s (hS.vecA) hso Od od (mkP s r x) (hS.vecRd (by repeat (exact Has.head))) hmo (by omega)) ?_
  rintro _ w33 ⟨Aj, cj, rfl, hC33⟩
  replace hS := hS.call hC33
  simp only [List.cons_append, List.nil_append] at hS
  try simp only [nY]
  refine s_go (s_len_sl U22) ?_
  try simp only [nY]
  refine s_go s_assign ?_
  try simp only [nY]
  refine z_nilf ?_
  refine hK16 _ _ ?_
  refine z_seq fun K17 hK17 => ?_
  refine z_region ?_
  refine s_go s_move ?_
  try simp only [nY]
  refine s_go s_move ?_
  try simp only [nY]
  refine s_go s_move ?_
  try simp only [nY]
  refine s_go (s_len_sl U22) ?_
  try simp only [nY]
  refine s_go s_max ?_
  try simp only [nY]
  refine s_go s_leq ?_
  try simp only [nY]
  refine zp_call en33 ?_
  try simp only [nY, mY]
  refine CallP.mono (c_need (decide (((normP (s ++ mkP s r x)).length : Int) ≤ max m (s.length : Int))) 7 _) ?zr34 ?zp34
  case zp34 =>
   rintro _ w34 ⟨hg34, rfl, hE34⟩
   have hd34 : dE s m r x = 7 := dE_f hE0 hr16 hP hmk (by have := of_decide_eq_false hg34; omega)
   exact ⟨gd, ge, _, 0, rfl, rfl, rfl, by rw [hd34]; decide, by rw [hd34], (hS.ext hE34).sel (by repeat (first | exact Sel.nil | (refine Sel.cons (by repeat (first | exact Del.head | apply Del.tail)) ?_)))⟩
  rintro _ w34 ⟨hg34, hE34⟩
  replace hS := hS.ext hE34
  have hD0 : dE s m r x = 0 := dE_0 hE0 hr16 hP hmk (by have := of_decide_eq_true hg34; omega)
  try simp only [nY]
  refine z_nilf ?_
  refine hK17 _ _ ?_
  refine z_seq fun K18 hK18 => ?_
  refine z_region ?_
  refine s_go (m_load_obj U22 (hS := hS) (hv := by rfl)) ?_
  try simp only [nY, gY]
  refine m_store_obj ti22 (hS := hS) (hc := by (exact splice_whole (by (simp [opv, Value.cells, *]; done)))) (hv := by rfl) (hfit := by (simp [*]; done)) (h1 := by simp [opv, Value.cells, Value.oneCell']) (h := fun w35 hS => ?_)
  try simp only [nY, aY] at hS ⊢
  refine m_store_obj ti39 (hS := hS) (hc := by (exact splice_whole (by (simp [opv, Value.cells, *]; done)))) (hv := by rfl) (hfit := by (simp only [ic_size, List.length_map, List.size_toArray]; decide)) (h1 := by simp [opv, Value.cells, Value.oneCell']) (h := fun w36 hS => ?_)
  try simp only [nY, aY] at hS ⊢
  refine z_nilf ?_
  refine hK18 _ _ ?_
  refine z_ret ?_
  refine do_ret (gd := gd) (ge := ge) (fun w99 hE99 => ?_)
  replace hS := hS.ext hE99
  refine r_cell_cell_oo rfl U22 U39 (hS := hS) (hR := ?_)
  rw [dP_yes hD0, hD0]
  exact ⟨_, _, rfl, hS.selA⟩
 try simp only [dY] at hc3
 have hP : ¬ ((opK x = 2 ∨ opK x = 3) ∧ qtyB s (kn x 1) (kitem x) = false) := fun q => by omega
 refine z_skip ?_
 refine hK9 _ _ ?_
 refine z_seq fun K19 hK19 => ?_
 refine z_mixed_c (Lc := [.obj gx (.cells (OA x) 27 (0, 0))]) [9] [38, 39, 40, 41, 42, 43, 44, 45, 46] (fun f w => ∃ (O : Option Addr) (oc : Nat), mkE s r x = 0 ∧ St NoB w0 w [.vec O oc 66 21 (mkP s r x).length (arows (mkP s r x)), .obj gd (.cells #[.slice O (mkP s r x).length oc] 22 (0, 0)), .obj ge (.cells #[.int .i64 0] 39 (0, 0)), .vec An cn 66 21 (s).length (arows (s))]) (by kernel_rfl) hS (fun w37 hS => ?mixpre903) ?mixrest903
 case mixpre903 =>
  simp only [List.length_cons, List.length_nil, Nat.reduceAdd, Nat.reduceSub]
  refine zny_go (lo := 10) (i := 0) (dpn_ok.wd) (by rfl) (by decide) (by decide +kernel) (by decide +kernel) (by unfold noLate; decide) (go_yields w_none (fun w hS => s_move)) ?_
  try simp only [nY]
  refine zny_go (lo := 10) (i := 1) (dpn_ok.wd) (by rfl) (by decide) (by decide +kernel) (by decide +kernel) (by unfold noLate; decide) (go_yields w_none (fun w hS => s_move)) ?_
  try simp only [nY]
  refine zny_go (lo := 10) (i := 2) (dpn_ok.wd) (by rfl) (by decide) (by decide +kernel) (by decide +kernel) (by unfold noLate; decide) (go_yields w_none (fun w hS => m_load_row U27 (hi := ti27) (hS := hS) (hfit := by omega))) ?_
  try simp only [nY, gY]
  refine zny_go (lo := 10) (i := 3) (dpn_ok.wd) (by rfl) (by decide) (by decide +kernel) (by decide +kernel) (by unfold noLate; decide) (go_yields w_none (fun w hS => s_build_struct (cells := (MA (.slice An s.length cn) r x)) U78 ti78 bp78 (hc := by simp only [List.map_toArray, List.map_cons, List.map_nil, nY, List.toList_toArray]; exact fill_ma (by rfl) (by rfl) (by rfl) hxl))) ?_
  try simp only [nY]
  refine zny_go (lo := 10) (i := 5) (dpn_ok.wd) (by rfl) (by decide) (by decide +kernel) (by decide +kernel) (by unfold noLate; decide) (go_yields w_none (fun w hS => m_fieldAddr U27 (hi := ti3))) ?_
  try simp only [nY, fY, gY]
  refine zny_go (lo := 10) (i := 6) (dpn_ok.wd) (by rfl) (by decide) (by decide +kernel) (by decide +kernel) (by unfold noLate; decide) (go_yields w_none (fun w hS => m_load_obj U3 (hS := hS) (hv := by exact zi_get rfl (by omega)))) ?_
  try simp only [nY, gY]
  rw [show x.getD 0 0 = opK x from rfl]
  refine zny_step [4] (by kernel_rfl) (by decide) (fun w38 hE => ⟨fun _ => (hS.ext hE).sel (by repeat (first | exact Sel.nil | (refine Sel.cons (by repeat (first | exact Del.head | apply Del.tail)) ?_))), ?_⟩)
  replace hS := hS.ext hE
  intro i hi
  simp only [List.mem_cons, List.not_mem_nil, or_false] at hi
  subst hi
  refine zny_op (by rfl) ?_
  refine s_call en35 ?_
  try simp only [nY, mY]
  refine CallR.mono (c_kinds (.slice An s.length cn) r x hx _) ?_
  rintro _ w39 ⟨q1, q3, rfl, hC39⟩
  replace hS := hS.call hC39
  simp only [List.cons_append, List.nil_append] at hS
  replace hS := hS.obj_rd (sz := 21) (n := 1) (by exact ma_size hxl) (.head)
  replace hS := hS.obj_rd (sz := 19) (n := 1) (by exact op_size hxl) (.tail .head)
  try simp only [nY]
  refine z_nil ?_
  refine zny_go (lo := 10) (i := 7) (dpn_ok.wd) (by rfl) (by decide) (by decide +kernel) (by decide +kernel) (by unfold noLate; decide) (go_yields w_none (fun w hS => s_index_one U76 ti75 U75 (hv := kf_get hK))) ?_
  try simp only [nY, Nat.mul_one, Nat.zero_add, Int.toNat_natCast, Int.reduceToNat]
  refine zny_step [8] (by kernel_rfl) (by decide) (fun w40 hE => ⟨fun _ => (hS.ext hE).sel (by repeat (first | exact Sel.nil | (refine Sel.cons (by repeat (first | exact Del.head | apply Del.tail)) ?_))), ?_⟩)
  replace hS := hS.ext hE
  intro i hi
  simp only [List.mem_cons, List.not_mem_nil, or_false] at hi
  subst hi
  refine zny_op (by rfl) ?_
  refine zp_callv (hv := rfl) (kf_en hK) ?_
  simp only [List.map_toArray, List.map_nil]
  rw [show ([] : List Value).toArray ++ kcap (opK x) q1 q3 = kcap (opK x) q1 q3 from by simp]
  refine CallP.mono (c_kindAny _ An cn s (hS.vecA) hso hsl r hr8 x hx hK hONN q1 q3 (hS.hasRd (by repeat (exact Has.head))) (hS.hasA)) ?zrk40 ?zpk40
  case zpk40 =>
   rintro _ w97 ⟨hg97, rfl, hE97⟩
   have hd97 : dE s m r x = mkE s r x := dE_m hE0 hr16 hP hg97
   exact ⟨gd, ge, _, 0, rfl, rfl, rfl, by rw [hd97]; exact hg97, by rw [hd97], (hS.ext hE97).sel (by repeat (first | exact Sel.nil | (refine Sel.cons (by repeat (first | exact Del.head | apply Del.tail)) ?_)))⟩
  rintro _ w98 ⟨hmk, Od, od, rfl, hC98⟩
  replace hS := hS.call hC98
  simp only [List.cons_append, List.nil_append] at hS
  try simp only [nY]
  refine z_nil ?_
  refine zny_step [9] (by kernel_rfl) (by decide) (fun w41 hE => ⟨fun _ => (hS.ext hE).sel (by repeat (first | exact Sel.nil | (refine Sel.cons (by repeat (first | exact Del.head | apply Del.tail)) ?_))), ?_⟩)
  replace hS := hS.ext hE
  intro i hi
  simp only [List.mem_cons, List.not_mem_nil, or_false] at hi
  subst hi
  refine zny_op (by rfl) ?_
  refine m_store_obj ti22 (hS := hS) (hc := by (exact splice_whole (by (simp [opv, Value.cells, *]; done)))) (hv := by rfl) (hfit := by (simp only [ic_size, List.length_map, List.size_toArray]; decide)) (h1 := by simp [opv, Value.cells, Value.oneCell']) (h := fun w42 hS => ?_)
  try simp only [nY, aY] at hS ⊢
  refine z_nil ?_
  refine zny_nil (by kernel_rfl) (fun w43 hE => ?_)
  replace hS := hS.ext hE
  refine ⟨fun hl => absurd (hl 9 (by decide)) (by decide +kernel), ?_⟩
  refine mix_leaf (by simp only [clob, List.foldl, nZ]) ?_
  try simp only [n1, n2]
  exact ⟨_, _, hmk, hS.selA⟩
 intro fm3 w44 hM
 obtain ⟨Od, od, hmk, hS⟩ := hM
 simp only [clob, List.foldl, n3, n4]
 refine hK19 _ _ ?_
 refine z_seq fun K20 hK20 => ?_
 refine z_region ?_
 refine s_go s_move ?_
 try simp only [nY]
 refine s_go (m_load_obj U22 (hS := hS) (hv := by rfl)) ?_
 try simp only [nY, gY]
 obtain ⟨hmo, hml⟩ := mkP_all hso hsl hr8 hx hONN
 refine s_call en28 ?_
 try simp only [nY, mY]
 refine CallR.mono (c_latJoin _ An cn s (hS.vecA) hso Od od (mkP s r x) (hS.vecRd (by repeat (exact Has.head))) hmo (by omega)) ?_
 rintro _ w45 ⟨Aj, cj, rfl, hC45⟩
 replace hS := hS.call hC45
 simp only [List.cons_append, List.nil_append] at hS
 try simp only [nY]
 refine s_go (s_len_sl U22) ?_
 try simp only [nY]
 refine s_go s_assign ?_
 try simp only [nY]
 refine z_nilf ?_
 refine hK20 _ _ ?_
 refine z_seq fun K21 hK21 => ?_
 refine z_region ?_
 refine s_go s_move ?_
 try simp only [nY]
 refine s_go s_move ?_
 try simp only [nY]
 refine s_go s_move ?_
 try simp only [nY]
 refine s_go (s_len_sl U22) ?_
 try simp only [nY]
 refine s_go s_max ?_
 try simp only [nY]
 refine s_go s_leq ?_
 try simp only [nY]
 refine zp_call en33 ?_
 try simp only [nY, mY]
 refine CallP.mono (c_need (decide (((normP (s ++ mkP s r x)).length : Int) ≤ max m (s.length : Int))) 7 _) ?zr46 ?zp46
 case zp46 =>
  rintro _ w46 ⟨hg46, rfl, hE46⟩
  have hd46 : dE s m r x = 7 := dE_f hE0 hr16 hP hmk (by have := of_decide_eq_false hg46; omega)
  exact ⟨gd, ge, _, 0, rfl, rfl, rfl, by rw [hd46]; decide, by rw [hd46], (hS.ext hE46).sel (by repeat (first | exact Sel.nil | (refine Sel.cons (by repeat (first | exact Del.head | apply Del.tail)) ?_)))⟩
 rintro _ w46 ⟨hg46, hE46⟩
 replace hS := hS.ext hE46
 have hD0 : dE s m r x = 0 := dE_0 hE0 hr16 hP hmk (by have := of_decide_eq_true hg46; omega)
 try simp only [nY]
 refine z_nilf ?_
 refine hK21 _ _ ?_
 refine z_seq fun K22 hK22 => ?_
 refine z_region ?_
 refine s_go (m_load_obj U22 (hS := hS) (hv := by rfl)) ?_
 try simp only [nY, gY]
 refine m_store_obj ti22 (hS := hS) (hc := by (exact splice_whole (by (simp [opv, Value.cells, *]; done)))) (hv := by rfl) (hfit := by (simp [*]; done)) (h1 := by simp [opv, Value.cells, Value.oneCell']) (h := fun w47 hS => ?_)
 try simp only [nY, aY] at hS ⊢
 refine m_store_obj ti39 (hS := hS) (hc := by (exact splice_whole (by (simp [opv, Value.cells, *]; done)))) (hv := by rfl) (hfit := by (simp only [ic_size, List.length_map, List.size_toArray]; decide)) (h1 := by simp [opv, Value.cells, Value.oneCell']) (h := fun w48 hS => ?_)
 try simp only [nY, aY] at hS ⊢
 refine z_nilf ?_
 refine hK22 _ _ ?_
 refine z_ret ?_
 refine do_ret (gd := gd) (ge := ge) (fun w99 hE99 => ?_)
 replace hS := hS.ext hE99
 refine r_cell_cell_oo rfl U22 U39 (hS := hS) (hR := ?_)
 rw [dP_yes hD0, hD0]
 exact ⟨_, _, rfl, hS.selA⟩
end Go.Proofs.YtpekghaodmeemaaGreat
set_option linter.unusedSimpArgs false
set_option linter.unusedVariables false
set_option maxHeartbeats 400000
set_option maxRecDepth 100000
namespace Go.Proofs.YtpekghaodmeemaaGreat
open Go.RowKit

abbrev orows (l : List (List Int)) : List Value := rowsZ opKs l
theorem orows_len (l : List (List Int)) : (orows l).length = l.length * 19 := rowsZ_len _ _
def OpsOk (xs : List (List Int)) : Prop := ∀ x ∈ xs, OpOk x
theorem orow_get {l : List (List Int)} {k : Nat} (hk : k < l.length) (hv : OpsOk l) : (((orows l).drop (k * 19)).take 19).toArray = OA (l.getD k []) := by
  have := rowsZ_get (ks := opKs) hk (by simpa using (hv _ (getD_mem' hk)).len)
  rw [show opKs.length = 19 from rfl] at this
  rw [this]
def runS (m : Int) (r : Nat) (s : List (List Int)) (xs : List (List Int)) : List (List Int) := xs.foldl (fun s o => normP (s ++ dP (normP s) m r o)) s
def runE (m : Int) (r : Nat) : List (List Int) → List (List Int) → List Int
  | _, [] => []
  | s, o :: xs => dE (normP s) m r o :: runE m r (normP (s ++ dP (normP s) m r o)) xs
section
variable {m : Int} {r : Nat} {s : List (List Int)}
theorem runS_snoc (xs : List (List Int)) (o : List Int) : runS m r s (xs ++ [o]) = normP (runS m r s xs ++ dP (normP (runS m r s xs)) m r o) := by rw [runS, List.foldl_append]; rfl
theorem runE_snoc : ∀ (xs : List (List Int)) (s : List (List Int)) (o : List Int), runE m r s (xs ++ [o]) = runE m r s xs ++ [dE (normP (runS m r s xs)) m r o]
  | [], _, _ => rfl
  | y :: xs, s, o => by
    rw [List.cons_append, runE, runE, runE_snoc xs]; rfl
theorem runE_len : ∀ (xs s : List (List Int)), (runE m r s xs).length = xs.length
  | [], _ => rfl
  | y :: xs, s => by rw [runE, List.length_cons, runE_len xs, List.length_cons]
theorem mk_keys {x : List Int} (hv : StaR s) (hn : s.length ≤ 40000000) (hr : r < 256) (hx : OpOk x) (hON : (opK x = 1 ∨ opK x = 3) → 0 ≤ opN x ∧ opN x ≤ 4294967295) : ∃ K : List (List Int), K.length ≤ s.length + 2 ∧ ∀ a ∈ mkP s r x, akey a ∈ s.map akey ++ K := by
  have hil := op_il hx.len
  have htl := op_tl hx.len
  have hb := hx.item
  have hc := hx.b1
  have hm2 := hx.m2
  have hni := norm_id hv
  unfold mkP
  split
  · refine ⟨[mkKey 1 (kn x 1) (kitem x) r (nextN s r).toNat, turnK 2 r (kn x 1) (kitem x)], by simp, fun a ha => ?_⟩
    have h1 := addP_aok (c := kn x 1) hv.ok hr hc hil hb
    have h2 := turnP_ok (n := opN x) hv.ok (.inl rfl) hr hc hil hb hm2
    obtain ⟨b, hb1, e⟩ := norm_keys (h1.app h2) ha
    rw [← e]
    refine List.mem_append_right _ ?_
    rcases List.mem_append.1 hb1 with h | h
    · unfold addP at h
      split at h
      · rw [List.mem_singleton] at h
        rw [h, add_key hil]; simp
      · cases h
    · rw [turn_key hil h]; simp
  · split
    · refine ⟨[turnK 3 r (kn x 1) (kitem x)], by simp, fun a ha => ?_⟩
      rcases rm_keys hv.ok hn hr hc hil hb ha with h | h
      · rw [hni] at h; exact List.mem_append_left _ h
      · rw [h]; simp
    · split
      · exact ⟨[turnK (shiftS (stN s x)) r (kn x 1) (kitem x)], by simp, fun a ha => by rw [turn_key hil ha]; simp⟩
      · split
        · refine ⟨[noteK (kn x 1)], by simp, fun a ha => ?_⟩
          unfold noteP at ha
          split at ha
          · rw [List.mem_singleton] at ha
            rw [ha, show akey (noteA s r (opT x) (kn x 1)) = noteK (kn x 1) from akey_kv (noteK_ok hc).len]; simp
          · cases ha
        · have h1 := cl_all (r := r) (c := kn x 1) hv.ok hn hr hc (itm_ok (norm_sta hv.ok).ok (kn x 1))
          refine ⟨(itmS (normP s) (kn x 1)).map (turnK 3 r (kn x 1)), ?_, fun a ha => ?_⟩
          · have h2 := itm_len (normP s) (kn x 1)
            have h3 := norm_len s
            rw [List.length_map]; omega
          · have := h1.2 a ha
            rw [hni] at this ⊢; exact this
theorem stp_all {x : List Int} (hv : StaR s) (hn : s.length ≤ 40000000) (hr : r < 256) (hx : OpOk x) : AOks (dP (normP s) m r x) ∧ (dP (normP s) m r x).length ≤ 2 * s.length + 2 ∧ (normP (s ++ dP (normP s) m r x)).length ≤ 2 * s.length + 2 := by
  rw [norm_id hv]
  by_cases h : dE s m r x = 0
  · have hE : opE x = 0 := by
      by_cases h2 : opE x = 0
      · exact h2
      · rw [dE_e h2] at h; exact absurd h h2
    obtain ⟨_, _, hON, _⟩ := opE_ok hE
    have h1 := mkP_all hv.ok hn hr hx hON
    obtain ⟨K, hK, hk⟩ := mk_keys hv hn hr hx hON
    rw [dP_yes h]
    refine ⟨h1.1, h1.2, ?_⟩
    have h2 := len_keys (K := s.map akey ++ K) (norm_sta (hv.ok.app h1.1)) fun a ha => by
      obtain ⟨b, hb, e⟩ := norm_keys (hv.ok.app h1.1) ha
      rw [← e]
      rcases List.mem_append.1 hb with h | h
      · exact List.mem_append_left _ (List.mem_map.2 ⟨b, h, rfl⟩)
      · exact hk b h
    rw [List.length_append, List.length_map] at h2
    omega
  · rw [dP_no h, List.append_nil, norm_id hv]
    exact ⟨AOks.nil, by simp, by omega⟩
theorem run_all (hv : StaR s) (hr : r < 256) : ∀ {xs : List (List Int)}, OpsOk xs → (s.length + 2) * 2 ^ xs.length ≤ 40000000 → StaR (runS m r s xs) ∧ (runS m r s xs).length + 2 ≤ (s.length + 2) * 2 ^ xs.length := by
  intro xs
  induction xs generalizing s with
  | nil => intro _ _; exact ⟨hv, by simp [runS]⟩
  | cons o xs ih =>
    intro hx hb
    have h2 : (s.length + 2) * 2 ^ (xs.length + 1) = ((s.length + 2) * 2) * 2 ^ xs.length := by rw [Nat.pow_succ, Nat.mul_comm (2 ^ xs.length), ← Nat.mul_assoc]
    rw [List.length_cons, h2] at hb
    have hp : 1 ≤ 2 ^ xs.length := Nat.one_le_two_pow
    have h3 : (s.length + 2) * 2 ≤ ((s.length + 2) * 2) * 2 ^ xs.length := Nat.le_mul_of_pos_right _ hp
    have h1 := stp_all (m := m) (r := r) hv (by omega) hr (hx o (by simp))
    have h4 : ((normP (s ++ dP (normP s) m r o)).length + 2) * 2 ^ xs.length ≤ ((s.length + 2) * 2) * 2 ^ xs.length := Nat.mul_le_mul_right _ (by omega)
    have h5 := ih (s := normP (s ++ dP (normP s) m r o)) (norm_sta (hv.ok.app h1.1)) (fun x hx' => hx x (by simp [hx'])) (Nat.le_trans h4 hb)
    refine ⟨h5.1, ?_⟩
    rw [List.length_cons, h2]
    exact Nat.le_trans h5.2 h4
theorem pow_b {n k : Nat} (hn : n ≤ 30) (hk : k ≤ 20) : (n + 2) * 2 ^ k ≤ 40000000 := by
  have h1 : 2 ^ k ≤ 2 ^ 20 := Nat.pow_le_pow_right (by decide) hk
  have h2 : (n + 2) * 2 ^ k ≤ 32 * 2 ^ 20 := Nat.mul_le_mul (by omega) h1
  omega
/-- the state before the next operation -/
theorem run_at (hv : StaR s) (hr : r < 256) (hn : s.length ≤ 30) {xs : List (List Int)} (hx : OpsOk xs) (hk : xs.length ≤ 20) (k : Nat) : StaR (runS m r s (xs.take k)) ∧ (runS m r s (xs.take k)).length ≤ 40000000 := by
  have hl : (xs.take k).length ≤ 20 := by rw [List.length_take]; omega
  have h := run_all (m := m) hv hr (xs := xs.take k) (fun x h => hx x (List.mem_of_mem_take h)) (pow_b hn hl)
  exact ⟨h.1, by have := pow_b hn hl; omega⟩
end
theorem set_mid {e : List Int} {n : Nat} {x : Int} : (e ++ List.replicate (n + 1) 0).set e.length x = (e ++ [x]) ++ List.replicate n 0 := by
  rw [List.set_append_right _ _ (Nat.le_refl _), Nat.sub_self, List.replicate_succ, List.set_cons_zero, List.append_assoc]; rfl

theorem c_shopRun (w0 : World) (A : Option Addr) (c : Nat) (l : List (List Int)) (hr : Rd w0 A 21 l.length (arows l)) (hv : AOks l) (hn : l.length ≤ 30) (mr : Int) (r : Nat) (hr8 : r < 256) (B : Option Addr) (d : Nat) (xs : List (List Int)) (hr2 : Rd w0 B 19 xs.length (orows xs)) (hxs : OpsOk xs) (hk20 : xs.length ≤ 20)  :
    CallR Tryz.prog 8 #[.slice A l.length c, .int .i64 mr, .int .u8 (r : Int), .slice B xs.length d] w0 fun v w' => ∃ (O : Option Addr) (oc : Nat) (O2 : Option Addr) (oc2 : Nat), v = .tuple #[.slice O (runS mr r (normP l) xs).length oc, .slice O2 (runE mr r (normP l) xs).length oc2] ∧ St NoB w0 w' [.vec O oc 66 21 (runS mr r (normP l) xs).length (arows (runS mr r (normP l) xs)), .vec O2 oc2 39 1 (runE mr r (normP l) xs).length ((runE mr r (normP l) xs).map (Value.int .i64))] := by
 have hS := St.rd2 (S := NoB) hr hr2
 have hst := norm_sta hv
 have hnb := norm_len l
 have hol := orows_len xs
 obtain ⟨s, hs⟩ : ∃ s, normP l = s := ⟨_, rfl⟩
 rw [hs] at hst hnb ⊢
 have hsl : s.length ≤ 30 := by omega
 have hat := run_at (m := mr) hst hr8 hsl hxs hk20
 refine c_enter (l := [.slice A l.length c, .int .i64 mr, .int .u8 (r : Int), .slice B xs.length d, undef, undef, undef, undef, undef, undef, undef, undef, undef, undef, undef, undef, undef, undef, undef, undef, undef, undef, undef, undef, undef, undef, undef, undef, undef, undef, undef, undef, undef, undef, undef, undef, undef, undef, undef, undef, undef, undef, undef]) Tryz.func8 rfl (by simp only [Tryz.ntmps8, List.size_toArray, List.length_cons, List.length_nil, Nat.reduceAdd, Nat.reduceSub, Array.replicate_succ, Array.replicate_zero, List.push_toArray, List.append_toArray, List.nil_append, List.cons_append]) ?_
 refine x_seq fun K1 hK1 => x_region ?_
 refine s_go s_assign ?_
 try simp only [nY]
 refine s_go s_assign ?_
 try simp only [nY]
 refine x_nil (hK1 _ _ ?_)
 refine x_seq fun K2 hK2 => x_region ?_
 refine s_go s_move ?_
 try simp only [nY]
 refine s_call en27 ?_
 try simp only [nY, mY]
 refine CallR.mono (c_latNorm _ A c l (hS.hasRd (by repeat (exact Has.head))) hv (by omega)) ?_
 rintro _ w1 ⟨An, cn, rfl, hC1⟩
 replace hS := hS.call hC1
 simp only [List.cons_append, List.nil_append] at hS
 rw [hs] at hS ⊢
 try simp only [nY]
 refine s_go s_assign ?_
 try simp only [nY]
 refine x_nil (hK2 _ _ ?_)
 refine x_seq fun K3 hK3 => x_region ?_
 refine s_go s_move ?_
 try simp only [nY]
 refine s_go (s_len_sl U30) ?_
 try simp only [nY]
 refine m_make (n := _) U32 ti39 (hx := rfl) (hy := rfl) (h63 := by (simp only [maxLen]; omega)) (hS := hS) (h := fun w2 A2 hS => ?_)
 try simp only [nY, aY] at hS ⊢
 rw [made_int] at hS
 obtain ⟨Oe, hOe⟩ : ∃ z, z = A2 := ⟨_, rfl⟩
 rw [← hOe] at hS ⊢
 refine s_go s_assign ?_
 try simp only [nY]
 refine x_nil (hK3 _ _ ?_)
 refine x_seq fun K4 hK4 => ?_
 refine x_seq fun K5 hK5 => x_region ?_
 refine s_go s_move ?_
 try simp only [nY]
 refine s_go (s_len_sl U30) ?_
 try simp only [nY]
 refine s_go s_move ?_
 try simp only [nY]
 refine x_nil (hK5 _ _ ?_)
 refine x_block ?_
 refine x_loop [0, 11, 12, 13, 21, 22, 23, 24, 25, 26, 27, 28, 29, 30, 31, 32, 33, 34, 35, 36, 37, 38, 39, 40] (fun m f w => ∃ (k : Nat) (O : Option Addr) (oc : Nat), k ≤ xs.length ∧ m = xs.length - k ∧ f 21 = .int .i64 (k : Int) ∧ f 0 = .slice O (runS mr r s (xs.take k)).length oc ∧ St NoB w0 w [.vec O oc 66 21 (runS mr r s (xs.take k)).length (arows (runS mr r s (xs.take k))), .vec Oe xs.length 39 1 xs.length ((runE mr r s (xs.take k) ++ List.replicate (xs.length - k) 0).map (Value.int .i64)), .rd B 19 xs.length (orows xs)]) (xs.length) ?init1 (fun m1 f1 wl1 hI => ?_)
 case init1 =>
  try simp only [nY]
  exact ⟨0, _, _, by omega, rfl, rfl, rfl, hS.selA⟩
 obtain ⟨k, O, oc, hk0, hmk, hfi, hfs, hS⟩ := hI
 simp only [clob, List.foldl, n3, n4, hfi, hfs]
 obtain ⟨x, hxx⟩ : ∃ x, xs.getD k [] = x := ⟨_, rfl⟩
 obtain ⟨hts, htl⟩ := hat k
 have hel := runE_len (m := mr) (r := r) (xs.take k) s
 have htk : (xs.take k).length = k := by rw [List.length_take]; omega
 rw [htk] at hel
 refine x_seq fun K6 hK6 => x_region ?_
 refine s_go s_lss ?_
 try simp only [nY]
 refine x_nil (hK6 _ _ ?_)
 refine x_seq fun K7 hK7 => ?_
 refine x_cond (ht := fun hc1 => ?_) (hf := fun hc1 => ?_)
 ·
  try simp only [dY] at hc1
  have hx : OpOk x := by rw [← hxx]; exact hxs _ (getD_mem' (by omega))
  have hxl := hx.len
  have hosz := op_size hxl
  have hsa := stp_all (m := mr) (r := r) hts htl hr8 hx
  have hsn : runS mr r s (xs.take (k + 1)) = normP (runS mr r s (xs.take k) ++ dP (normP (runS mr r s (xs.take k))) mr r x) := by rw [take_snoc (by omega), hxx, runS_snoc]
  have hen : runE mr r s (xs.take (k + 1)) = runE mr r s (xs.take k) ++ [dE (normP (runS mr r s (xs.take k))) mr r x] := by rw [take_snoc (by omega), hxx, runE_snoc]
  refine x_skip ?_
  refine hK7 _ _ ?_
  refine x_seq fun K8 hK8 => ?_
  refine x_block ?_
  refine x_seq fun K9 hK9 => x_region ?_
  refine s_go s_move ?_
  try simp only [nY]
  refine s_go (m_indexAddr_rd U30 ti27 (hS := hS)) ?_
  try simp only [nY, Nat.mul_one, Nat.zero_add, Int.toNat_natCast, Int.reduceToNat]
  refine s_go (m_loada_rd U27 (hi := ti27) (hS := hS) (hfit := by rw [orows_len]; omega)) ?_
  try simp only [nY, gY]
  rw [orow_get (by omega) hxs, hxx]
  refine m_alloc ti27 hS (fun w3 g3 hS => ?_)
  try simp only [nY, aY] at hS ⊢
  replace hS : St NoB w0 w3 (.obj g3 (.cells (OA (List.replicate 19 0)) 27 (0, 0)) :: _) := hS
  obtain ⟨gx, hgx⟩ : ∃ z, z = g3 := ⟨_, rfl⟩
  rw [← hgx] at hS ⊢
  refine s_go s_assign ?_
  try simp only [nY]
  refine m_store_obj ti27 (hS := hS) (hc := by exact zi_whole (by rfl) (by exact hxl)) (hv := by (show (zi _ _).toArray.size = _; rw [zi_size (by omega)]; rfl)) (hfit := by (simp only [ic_size, List.length_map, List.size_toArray]; decide)) (h1 := by exact zi_one _ _) (h := fun w4 hS => ?_)
  try simp only [nY, aY] at hS ⊢
  refine x_nil (hK9 _ _ ?_)
  refine x_seq fun K10 hK10 => x_region ?_
  refine s_go s_assign ?_
  try simp only [nY]
  refine x_nil (hK10 _ _ ?_)
  refine x_seq fun K11 hK11 => x_region ?_
  refine s_go s_move ?_
  try simp only [nY]
  refine s_go s_move ?_
  try simp only [nY]
  refine s_go s_move ?_
  try simp only [nY]
  refine s_go s_move ?_
  try simp only [nY]
  refine s_go s_move ?_
  try simp only [nY]
  refine s_go (m_load_row U27 (hi := ti27) (hS := hS) (hfit := by omega)) ?_
  try simp only [nY, gY]
  refine s_call en13 ?_
  try simp only [nY, mY]
  refine CallR.mono (c_shopDo _ O oc (runS mr r s (xs.take k)) (hS.vecA) hts.ok htl mr r hr8 x hx) ?_
  rintro _ w5 ⟨Od, od, rfl, hC5⟩
  replace hS := hS.call hC5
  simp only [List.cons_append, List.nil_append] at hS
  try simp only [nY]
  refine s_go s_move ?_
  try simp only [nY]
  refine s_go (s_extract (hv := rfl)) ?_
  try simp only [gY]
  try simp only [nY]
  refine s_go (s_extract (hv := rfl)) ?_
  try simp only [gY]
  try simp only [nY]
  refine s_go s_assign ?_
  try simp only [nY]
  refine s_go (m_indexAddr_vec U32 ti39 (hS := hS)) ?_
  try simp only [nY, Nat.mul_one, Nat.zero_add, Int.toNat_natCast, Int.reduceToNat]
  refine m_store_vec ti39 (hS := hS) (hc := by (exact splice_ic (by (simp [*]; omega)))) (hv := by rfl) (hfit := by (simp [*]; omega)) (h1 := by simp [opv, Value.cells, Value.oneCell']) (h := fun w6 hS => ?_)
  try simp only [nY, aY] at hS ⊢
  rw [show (runE mr r s (xs.take k) ++ List.replicate (xs.length - k) (0 : Int)).set k (dE (normP (runS mr r s (xs.take k))) mr r x) = (runE mr r s (xs.take k) ++ [dE (normP (runS mr r s (xs.take k))) mr r x]) ++ List.replicate (xs.length - (k + 1)) 0 from by
    rw [show xs.length - k = (xs.length - (k + 1)) + 1 by omega]
    have := set_mid (e := runE mr r s (xs.take k)) (n := xs.length - (k + 1)) (x := dE (normP (runS mr r s (xs.take k))) mr r x)
    rw [hel] at this; exact this] at hS
  refine x_nil (hK11 _ _ ?_)
  refine x_region ?_
  refine s_go s_move ?_
  try simp only [nY]
  refine s_go s_move ?_
  try simp only [nY]
  refine s_call en28 ?_
  try simp only [nY, mY]
  refine CallR.mono (c_latJoin _ O oc (runS mr r s (xs.take k)) (hS.vecA) hts.ok Od od (dP (normP (runS mr r s (xs.take k))) mr r x) (hS.vecRd (by repeat (exact Has.head))) hsa.1 (by omega)) ?_
  rintro _ w7 ⟨Oj, oj, rfl, hC7⟩
  replace hS := hS.call hC7
  simp only [List.cons_append, List.nil_append] at hS
  try simp only [nY]
  refine s_go s_assign ?_
  try simp only [nY]
  refine x_nil (hK8 _ _ ?_)
  refine x_region ?_
  refine s_go (s_add (hc := by exact wr_i64 (by omega) (by omega))) ?_
  try simp only [nY]
  refine s_go s_move ?_
  try simp only [nY]
  refine x_nil ?_
  refine loop_back (m' := xs.length - (k + 1)) (by simp only [clob, List.foldl, nZ]) ?_ ?_
  · try simp only [nY]
    exact ⟨k + 1, _, _, by omega, by omega, by rfl, by rw [hsn], by rw [hsn, hen]; exact hS.selA⟩
  · omega
 try simp only [dY] at hc1
 obtain rfl : k = xs.length := by omega
 rw [List.take_of_length_le (Nat.le_refl _)] at hS ⊢
 rw [Nat.sub_self, List.replicate_zero, List.append_nil] at hS
 refine x_exit (look_here ?_)
 refine hK4 _ _ ?_
 refine x_seq fun K12 hK12 => x_region ?_
 refine s_go s_move ?_
 try simp only [nY]
 refine s_go s_move ?_
 try simp only [nY]
 refine s_go s_assign ?_
 try simp only [nY]
 refine s_go s_assign ?_
 try simp only [nY]
 refine x_nil (hK12 _ _ ?_)
 refine x_ret (r_tmp2 rfl ?_)
 rw [runE_len]
 exact ⟨_, _, _, _, rfl, hS.sel (by repeat (first | exact Sel.nil | (refine Sel.cons (by repeat (exact Del.head)) ?_)))⟩
end Go.Proofs.YtpekghaodmeemaaGreat
set_option linter.unusedSimpArgs false
set_option linter.unusedVariables false
set_option maxHeartbeats 2000000
set_option maxRecDepth 100000
namespace Go.Proofs.YtpekghaodmeemaaGreat
open Go.RowKit

abbrev lnKs : List IntKind := [.u8, .u8, .u8, .u8, .u8, .u8, .u8, .u8, .i64]
abbrev LA (y : List Int) : Array Value := (zi lnKs y).toArray
abbrev lrows (l : List (List Int)) : List Value := rowsZ lnKs l
def lnL (l : List (List Int)) (c : Nat) (it : List Int) : List Int := it ++ [qtyN l c it]
def linesL (l : List (List Int)) (c : Nat) : List (List Int) := (itmS (normP l) c).map (lnL l c)
theorem ln_len {l : List (List Int)} {c : Nat} {it : List Int} (h : it.length = 8) : (lnL l c it).length = 9 := by simp [lnL, h]
theorem ln_size {y : List Int} (h : y.length = 9) : (LA y).size = 9 := by simpa using zi_len (ks := lnKs) (by simpa using h)
theorem lrow_one {y : List Int} (h : y.length = 9) : (LA y).toList = lrows [y] := by
  show (zi lnKs y).toArray.toList = rowsZ lnKs [y]
  rw [rowsZ_one, padL_zi (by simpa using h)]
theorem ladd_one {o : List (List Int)} {y : List Int} : lrows o ++ lrows [y] = lrows (o ++ [y]) := (rowsZ_app _ _ _).symm
theorem fill_line {pl : Nat → Option (Nat × Nat)} {it : List Int} {q : Int} (h0 : pl 0 = some (0, 8)) (h1 : pl 1 = some (8, 1)) (hl : it.length = 8) :
    Instr.fill pl #[.int .u8 0, .int .u8 0, .int .u8 0, .int .u8 0, .int .u8 0, .int .u8 0, .int .u8 0, .int .u8 0, .int .i64 0] [(0, .agg (ic .u8 it)), (1, .int .i64 q)] = some (LA (it ++ [q])) := by
  match it, hl with
  | [_, _, _, _, _, _, _, _], _ =>
    refine fill_cons h0 rfl (Nat.le_of_ble_eq_true rfl) ?_
    refine fill_cons h1 rfl (Nat.le_of_ble_eq_true rfl) ?_
    rfl
theorem ln_take {l : List (List Int)} {c : Nat} {t : List (List Int)} {k : Nat} {x : List Int} (hk : k < t.length) (hx : t.getD k [] = x) : (t.take (k + 1)).map (lnL l c) = (t.take k).map (lnL l c) ++ [lnL l c x] := by rw [take_snoc hk, hx, List.map_append]; rfl
theorem c_ref17Lines (w0 : World) (A : Option Addr) (c : Nat) (l : List (List Int)) (hr : Rd w0 A 21 l.length (arows l)) (hv : AOks l) (hn : l.length ≤ 1000000000) (ct : Nat) (hct : ct < 65536)  :
    CallR Tryz.prog 24 #[.slice A l.length c, .int .u16 (ct : Int)] w0 fun v w' => ∃ (O : Option Addr) (oc : Nat), v = .slice O (linesL l ct).length oc ∧ St NoB w0 w' [.vec O oc 92 9 (linesL l ct).length (lrows (linesL l ct))] := by
 have hS := St.rd1 (S := NoB) hr
 have hno := (norm_sta hv).ok
 refine c_enter (l := [.slice A l.length c, .int .u16 (ct : Int), undef, undef, undef, undef, undef, undef, undef, undef, undef, undef, undef, undef, undef, undef, undef, undef, undef, undef, undef, undef, undef, undef, undef, undef, undef, undef, undef, undef, undef, undef, undef, undef, undef, undef, undef, undef, undef]) Tryz.func24 rfl (by simp only [Tryz.ntmps24, List.size_toArray, List.length_cons, List.length_nil, Nat.reduceAdd, Nat.reduceSub, Array.replicate_succ, Array.replicate_zero, List.push_toArray, List.append_toArray, List.nil_append, List.cons_append]) ?_
 refine x_seq fun K1 hK1 => x_region ?_
 refine s_go s_assign ?_
 try simp only [nY]
 refine x_nil (hK1 _ _ ?_)
 refine x_seq fun K2 hK2 => x_region ?_
 refine s_go s_assign ?_
 try simp only [nY]
 refine x_nil (hK2 _ _ ?_)
 refine x_seq fun K3 hK3 => x_region ?_
 refine s_go s_move ?_
 try simp only [nY]
 refine s_go s_move ?_
 try simp only [nY]
 refine s_call en48 ?_
 try simp only [nY, mY]
 refine CallR.mono (c_ref14Items _ A c l (hS.hasRd (by repeat (exact Has.head))) hv hn ct hct) ?_
 rintro _ w1 ⟨Ot, ot, rfl, hC1⟩
 replace hS := hS.call hC1
 simp only [List.cons_append, List.nil_append] at hS
 replace hS := hS.vec_rd (by exact Upd.head)
 have hio := itm_ok hno ct
 have hil := itm_len (normP l) ct
 have hnb := norm_len l
 obtain ⟨t, ht⟩ : ∃ t, itmS (normP l) ct = t := ⟨_, rfl⟩
 rw [ht] at hS hio hil ⊢
 have hn8 := nrows_len t
 have hi8 : ∀ x ∈ t, x.length = 8 := fun x hx => (hio x hx).1
 try simp only [nY]
 refine s_go s_assign ?_
 try simp only [nY]
 refine x_nil (hK3 _ _ ?_)
 refine x_seq fun K4 hK4 => ?_
 refine x_seq fun K5 hK5 => x_region ?_
 refine s_go s_assign ?_
 try simp only [nY]
 refine x_nil (hK5 _ _ ?_)
 refine x_block ?_
 refine x_loop [5, 7, 8, 9, 13, 14, 15, 16, 17, 18, 19, 20, 21, 22, 23, 24, 25, 26, 27, 28, 29, 30, 31, 32, 33, 34, 35, 36, 37] (fun m f w => ∃ (k : Nat) (O : Option Addr) (oc : Nat), k ≤ t.length ∧ m = t.length - k ∧ f 7 = .int .i64 (k : Int) ∧ f 5 = .slice O ((t.take k).map (lnL l ct)).length oc ∧ St NoB w0 w [.vec O oc 92 9 ((t.take k).map (lnL l ct)).length (lrows ((t.take k).map (lnL l ct))), .rd Ot 8 t.length (nrows t), .rd A 21 (l).length (arows (l))]) (t.length) ?init1 (fun m1 f1 wl1 hI => ?_)
 case init1 =>
  try simp only [nY]
  replace hS := hS.nil_vec 92 9
  exact ⟨0, none, 0, by omega, rfl, rfl, rfl, hS.sel (by repeat (first | exact Sel.nil | (refine Sel.cons (by repeat (exact Del.head)) ?_)))⟩
 obtain ⟨k, O, oc, hk0, hmk, hf7, hf5, hS⟩ := hI
 simp only [clob, List.foldl, n3, n4, hf7, hf5]
 obtain ⟨x, hx⟩ : ∃ x, t.getD k [] = x := ⟨_, rfl⟩
 have hml : ((t.take k).map (lnL l ct)).length = k := by rw [List.length_map, List.length_take]; omega
 refine x_seq fun K6 hK6 => ?_
 refine x_seq fun K7 hK7 => x_region ?_
 refine s_go s_move ?_
 try simp only [nY]
 refine s_go s_move ?_
 try simp only [nY]
 refine s_go (s_len_sl U89) ?_
 try simp only [nY]
 refine s_go s_lss ?_
 try simp only [nY]
 refine x_nil (hK7 _ _ ?_)
 refine x_cond (ht := fun hc1 => ?_) (hf := fun hc1 => ?_)
 ·
  try simp only [dY] at hc1
  have hxo : x.length = 8 ∧ Byt x := by rw [← hx]; exact hio _ (getD_mem' (by omega))
  have hx8 := hxo.1
  have hst := ln_take (l := l) (c := ct) (by omega) hx
  have hy9 := ln_len (l := l) (c := ct) hx8
  refine x_skip ?_
  refine hK6 _ _ ?_
  refine x_seq fun K8 hK8 => ?_
  refine x_block ?_
  refine x_seq fun K9 hK9 => x_region ?_
  refine s_go s_move ?_
  try simp only [nY]
  refine s_go s_move ?_
  try simp only [nY]
  refine s_go s_move ?_
  try simp only [nY]
  refine s_go s_move ?_
  try simp only [nY]
  refine s_go (m_indexAddr_rd U89 ti25 (hS := hS)) ?_
  try simp only [nY, Nat.mul_one, Nat.zero_add, Int.toNat_natCast, Int.reduceToNat]
  refine s_go (m_loada_rd U25 (hi := ti25) (hS := hS) (hfit := by rw [nrows_len]; omega)) ?_
  try simp only [nY, gY]
  rw [nrow_get (by omega) hi8, hx]
  refine s_call en22 ?_
  try simp only [nY, mY]
  refine CallR.mono (c_ref17Quantity _ A c l (hS.hasA) hv hn ct hct x hx8 hxo.2) ?_
  rintro _ w2 ⟨rfl, hE2⟩
  replace hS := hS.ext hE2
  try simp only [nY]
  refine s_go s_move ?_
  try simp only [nY]
  refine s_go (s_extract (hv := rfl)) ?_
  try simp only [gY]
  try simp only [nY]
  refine s_go (s_extract (hv := rfl)) ?_
  try simp only [gY]
  try simp only [nY]
  refine s_go s_assign ?_
  try simp only [nY]
  refine s_go s_assign ?_
  try simp only [nY]
  refine x_nil (hK9 _ _ ?_)
  refine x_region ?_
  refine s_go s_move ?_
  try simp only [nY]
  refine s_go s_move ?_
  try simp only [nY]
  refine s_go s_move ?_
  try simp only [nY]
  refine s_go (m_indexAddr_rd U89 ti25 (hS := hS)) ?_
  try simp only [nY, Nat.mul_one, Nat.zero_add, Int.toNat_natCast, Int.reduceToNat]
  refine s_go (m_loada_rd U25 (hi := ti25) (hS := hS) (hfit := by rw [nrows_len]; omega)) ?_
  try simp only [nY, gY]
  rw [nrow_get (by omega) hi8, hx]
  refine s_go s_move ?_
  try simp only [nY]
  refine s_go (s_build_struct (cells := (LA (lnL l ct x))) U92 ti92 bp92 (hc := by simp only [List.map_toArray, List.map_cons, List.map_nil, nY, List.toList_toArray]; exact fill_line (by rfl) (by rfl) hx8)) ?_
  try simp only [nY]
  refine m_buildRow (cells := (LA (lnL l ct x))) U54 ti92 (hc := by simp only [List.map_toArray, List.map_cons, List.map_nil, nY, List.toList_toArray]; exact fill_one (by rfl) (ln_size hy9) (by rfl)) (hS := hS) (h := fun w3 g3 hS => ?_)
  try simp only [nY, aY] at hS ⊢
  replace hS := hS.obj_rd (sz := 9) (n := 1) (by exact ln_size hy9) .head
  rw [lrow_one hy9] at hS
  refine m_append U54 ti92 (hS := hS) (h1 := rowsZ_cells _ _) (h := fun w4 A4 C4 hS => ?_)
  try simp only [← List.map_append, ← List.map_drop, ← List.map_take, Nat.mul_one, Nat.zero_mul, Nat.sub_zero, List.drop_zero, List.nil_append, Nat.zero_add] at hS ⊢
  try simp only [nY, aY] at hS ⊢
  rw [ladd_one] at hS
  refine s_go s_assign ?_
  try simp only [nY]
  refine x_nil (hK8 _ _ ?_)
  refine x_region ?_
  refine s_go s_move ?_
  try simp only [nY]
  refine s_go (s_add (hc := by exact wr_i64 (by omega) (by omega))) ?_
  try simp only [nY]
  refine s_go s_assign ?_
  try simp only [nY]
  refine x_nil ?_
  refine loop_back (m' := t.length - (k + 1)) (by simp only [clob, List.foldl, nZ]) ?_ ?_
  · try simp only [nY]
    exact ⟨k + 1, _, _, by omega, by omega, by rfl, by rw [hst, List.length_append]; rfl, by rw [hst, List.length_append]; exact hS.selA⟩
  · omega
 try simp only [dY] at hc1
 obtain rfl : k = t.length := by omega
 rw [List.take_of_length_le (Nat.le_refl _)] at hS ⊢
 refine x_exit (look_here ?_)
 refine hK4 _ _ ?_
 refine x_seq fun K10 hK10 => x_region ?_
 refine s_go s_move ?_
 try simp only [nY]
 refine s_go s_assign ?_
 try simp only [nY]
 refine x_nil (hK10 _ _ ?_)
 refine x_ret (r_tmp rfl ?_)
 unfold linesL
 rw [ht]
 exact ⟨_, _, rfl, hS.sel (by repeat (first | exact Sel.nil | (refine Sel.cons (by repeat (exact Del.head)) ?_)))⟩
end Go.Proofs.YtpekghaodmeemaaGreat
set_option linter.unusedSimpArgs false
set_option linter.unusedVariables false
set_option maxHeartbeats 400000
set_option maxRecDepth 100000
namespace Go.Proofs.YtpekghaodmeemaaGreat
open Go.RowKit

def o1 : List Int := [1, 1] ++ cup8 ++ [3] ++ nm0
def o2 : List Int := [3, 1] ++ cup8 ++ [1] ++ nm0
def o3 : List Int := [2, 1] ++ cup8 ++ [0] ++ nm0
theorem oo_ok : OpsOk [o1, o2, o3] := by
  intro x hx
  simp only [List.mem_cons, List.not_mem_nil, or_false] at hx
  rcases hx with rfl | rfl | rfl
  · exact ⟨rfl, by decide, by decide, rfl, by decide, by unfold Byt; decide, by decide, by decide, by unfold Byt; decide⟩
  · exact ⟨rfl, by decide, by decide, rfl, by decide, by unfold Byt; decide, by decide, by decide, by unfold Byt; decide⟩
  · exact ⟨rfl, by decide, by decide, rfl, by decide, by unfold Byt; decide, by decide, by decide, by unfold Byt; decide⟩
def alS : List (List Int) := runS 99 0 (normP []) [o1, o2, o3]
theorem al_e : runE 99 0 (normP []) [o1, o2, o3] = [0, 0, 0] := by decide +kernel
theorem al_ok : AOks alS := (run_at (m := 99) (r := 0) (s := normP []) StaR.nil (by decide) (by decide) oo_ok (by decide) 3).1.ok
theorem al_len : alS.length = 3 := by decide +kernel
theorem al_ln : (linesL alS 1).length = 0 := by decide +kernel
theorem al_tot : totL (normP alS) 1 cup8 = 0 := by decide +kernel

theorem c_law18alive  (w0 : World) :
    CallR Tryz.prog 7 #[] w0 fun v w' => v = .bool true ∧ Ext w0 w' := by
 have hS : St NoB w0 w0 [] := St.start w0
 have hc8 : cup8.length = 8 := rfl
 have hn8 : nm0.length = 8 := rfl
 have hlen := al_len
 refine c_enter (l := [undef, undef, undef, undef, undef, undef, undef, undef, undef, undef, undef, undef, undef, undef, undef, undef, undef, undef, undef, undef, undef, undef, undef, undef, undef, undef, undef, undef, undef, undef, undef, undef, undef, undef, undef, undef, undef, undef, undef, undef, undef, undef]) Tryz.func7 rfl (by simp only [Tryz.ntmps7, List.size_toArray, List.length_cons, List.length_nil, Nat.reduceAdd, Nat.reduceSub, Array.replicate_succ, Array.replicate_zero, List.push_toArray, List.append_toArray, List.nil_append, List.cons_append]) ?_
 refine x_seq fun K1 hK1 => x_region ?_
 refine s_go s_assign ?_
 try simp only [nY]
 refine x_nil (hK1 _ _ ?_)
 refine x_seq fun K2 hK2 => x_region ?_
 refine s_go (s_build_arr (cells := #[_, _, _, .int .u8 0, .int .u8 0, .int .u8 0, .int .u8 0, .int .u8 0]) U25 ti25 ti5 (hc := by simp only [List.map_toArray, List.map_cons, List.map_nil, nY, List.toList_toArray]; (repeat (refine fill_cons rfl rfl (Nat.le_of_ble_eq_true rfl) ?_)); rfl)) ?_
 try simp only [nY]
 rw [show (#[.int .u8 99, .int .u8 117, .int .u8 112, .int .u8 0, .int .u8 0, .int .u8 0, .int .u8 0, .int .u8 0] : Array Value) = ic .u8 cup8 from rfl]
 refine m_alloc ti25 hS (fun w1 g1 hS => ?_)
 try simp only [nY, aY] at hS ⊢
 replace hS : St _ _ w1 (.obj g1 (.cells (ic .u8 nm0) 25 (0, 0)) :: _) := hS
 obtain ⟨gc, hgc⟩ : ∃ z, z = g1 := ⟨_, rfl⟩
 rw [← hgc] at hS ⊢
 refine m_store_obj ti25 (hS := hS) (h := fun w2 hS => ?_)
 try simp only [nY, aY] at hS ⊢
 refine x_nil (hK2 _ _ ?_)
 refine x_seq fun K3 hK3 => x_region ?_
 refine s_go (m_load_row U25 (hi := ti25) (hS := hS)) ?_
 try simp only [nY, gY]
 refine s_go (s_build_struct (cells := (OA o1)) U27 ti27 bp27 (hc := by simp only [List.map_toArray, List.map_cons, List.map_nil, nY, List.toList_toArray]; (repeat (refine fill_cons rfl rfl (Nat.le_of_ble_eq_true rfl) ?_)); rfl)) ?_
 try simp only [nY]
 refine s_go (m_load_row U25 (hi := ti25) (hS := hS)) ?_
 try simp only [nY, gY]
 refine s_go (s_build_struct (cells := (OA o2)) U27 ti27 bp27 (hc := by simp only [List.map_toArray, List.map_cons, List.map_nil, nY, List.toList_toArray]; (repeat (refine fill_cons rfl rfl (Nat.le_of_ble_eq_true rfl) ?_)); rfl)) ?_
 try simp only [nY]
 refine s_go (m_load_row U25 (hi := ti25) (hS := hS)) ?_
 try simp only [nY, gY]
 refine s_go (s_build_struct (cells := (OA o3)) U27 ti27 bp27 (hc := by simp only [List.map_toArray, List.map_cons, List.map_nil, nY, List.toList_toArray]; (repeat (refine fill_cons rfl rfl (Nat.le_of_ble_eq_true rfl) ?_)); rfl)) ?_
 try simp only [nY]
 refine m_buildRow (cells := (orows [o1, o2, o3]).toArray) U30 ti27 (hc := by simp only [List.map_toArray, List.map_cons, List.map_nil, nY, List.toList_toArray]; (repeat (refine fill_cons rfl rfl (Nat.le_of_ble_eq_true rfl) ?_)); rfl) (hS := hS) (h := fun w3 g3 hS => ?_)
 try simp only [nY, aY] at hS ⊢
 replace hS := hS.obj_rd (sz := 19) (n := 3) rfl .head
 replace hS := hS.rd_none none 21
 refine s_call en8 ?_
 try simp only [nY, mY]
 refine CallR.mono (c_shopRun _ none 0 [] (hS.hasRd (by repeat (exact Has.head))) AOks.nil (by decide) 99 0 (by decide) _ _ [o1, o2, o3] (hS.hasA) oo_ok (by decide)) ?_
 rintro _ w4 ⟨Os, os, Oe, oe, rfl, hC4⟩
 replace hS := hS.call hC4
 simp only [List.cons_append, List.nil_append] at hS
 rw [al_e] at hS ⊢
 replace hS : St NoB w0 w4 (.vec Os os _ _ (alS).length (arows (alS)) :: _) := hS
 rw [show runS 99 0 (normP []) [o1, o2, o3] = alS from rfl]
 simp only [List.length_cons, List.length_nil, Nat.reduceAdd, Nat.zero_add] at hS ⊢
 try simp only [nY]
 refine s_go s_move ?_
 try simp only [nY]
 refine s_go (s_extract (hv := rfl)) ?_
 try simp only [gY]
 try simp only [nY]
 refine s_go (s_extract (hv := rfl)) ?_
 try simp only [gY]
 try simp only [nY]
 refine s_go s_assign ?_
 try simp only [nY]
 refine s_go s_assign ?_
 try simp only [nY]
 refine x_nil (hK3 _ _ ?_)
 refine x_seq fun K4 hK4 => x_region ?_
 refine s_go s_move ?_
 try simp only [nY]
 refine s_go (s_len_sl U32) ?_
 try simp only [nY]
 refine s_go s_eql ?_
 try simp only [nY]
 try simp only [decide_true, eq_self]
 refine s_go s_move ?_
 try simp only [nY]
 refine g_on (yi (t := 19) rfl rfl) ?_
 refine s_go s_move ?_
 try simp only [nY]
 refine g_on (yi (t := 19) rfl rfl) ?_
 refine s_go (m_indexAddr_vec U32 ti39 (hS := hS)) ?_
 try simp only [nY, Nat.mul_one, Nat.zero_add, Int.toNat_natCast, Int.reduceToNat]
 refine g_on (yi (t := 19) rfl rfl) ?_
 refine s_go (m_load_vec U39 (hS := hS)) ?_
 try simp only [nY, gY]
 try rw [show ([0, 0, 0] : List Int).getD 2 0 = 0 from rfl]
 refine g_on (yi (t := 19) rfl rfl) ?_
 refine s_go s_eql ?_
 try simp only [nY]
 try simp only [eq_self, decide_true, beq_self_eq_true, Bool.and_self]
 refine s_go s_pick_t ?_
 try simp only [nY]
 refine s_go s_move ?_
 try simp only [nY]
 refine g_on (yi (t := 25) rfl rfl) ?_
 refine s_go s_move ?_
 try simp only [nY]
 refine g_on (yi (t := 25) rfl rfl) ?_
 refine s_call en24 ?_
 try simp only [nY, mY]
 refine CallR.mono (c_ref17Lines _ Os os alS (hS.vecRd (by repeat (exact Has.head))) al_ok (by omega) 1 (by decide)) ?_
 rintro _ w5 ⟨Ol, ol, rfl, hC5⟩
 replace hS := hS.call hC5
 simp only [List.cons_append, List.nil_append] at hS
 rw [al_ln] at hS ⊢
 try simp only [nY]
 refine g_on (yi (t := 25) rfl rfl) ?_
 refine s_go (s_len_sl U54) ?_
 try simp only [nY]
 refine g_on (yi (t := 25) rfl rfl) ?_
 refine s_go s_eql ?_
 try simp only [nY]
 try simp only [eq_self, decide_true, beq_self_eq_true, Bool.and_self]
 refine s_go s_pick_t ?_
 try simp only [nY]
 refine s_go s_move ?_
 try simp only [nY]
 refine g_on (yi (t := 31) rfl rfl) ?_
 refine s_go s_move ?_
 try simp only [nY]
 refine g_on (yi (t := 31) rfl rfl) ?_
 refine s_go (m_load_row U25 (hi := ti25) (hS := hS)) ?_
 try simp only [nY, gY]
 refine g_on (yi (t := 31) rfl rfl) ?_
 refine s_call en20 ?_
 try simp only [nY, mY]
 refine CallR.mono (c_ref15Total _ Os os alS (hS.vecA) al_ok (by omega) 1 (by decide) cup8 rfl cup8_byt) ?_
 rintro _ w6 ⟨rfl, hE6⟩
 replace hS := hS.ext hE6
 try simp only [nY]
 rw [al_tot]
 refine g_on (yi (t := 31) rfl rfl) ?_
 refine s_go s_eql ?_
 try simp only [nY]
 try simp only [eq_self, decide_true, beq_self_eq_true, Bool.and_self]
 refine s_go s_pick_t ?_
 try simp only [nY]
 refine s_go s_move ?_
 try simp only [nY]
 refine g_on (yi (t := 37) rfl rfl) ?_
 refine s_go s_move ?_
 try simp only [nY]
 refine g_on (yi (t := 37) rfl rfl) ?_
 refine s_go (s_len_sl U22) ?_
 try simp only [nY]
 refine g_on (yi (t := 37) rfl rfl) ?_
 refine s_go s_gtr ?_
 try simp only [nY]
 rw [show decide ((0 : Int) < (alS.length : Int)) = true by rw [al_len]; rfl]
 refine s_go s_pick_t ?_
 try simp only [nY]
 refine s_go s_assign ?_
 try simp only [nY]
 refine x_nil (hK4 _ _ ?_)
 refine x_ret (r_tmp rfl ?_)
 exact ⟨rfl, hS.ext_of⟩
end Go.Proofs.YtpekghaodmeemaaGreat
set_option linter.unusedSimpArgs false
set_option linter.unusedVariables false
set_option maxHeartbeats 400000
set_option maxRecDepth 100000
namespace Go.Proofs.YtpekghaodmeemaaGreat
open Go.RowKit

def qaL (r : Nat) (x : List Int) (m : Int) : List Value := .int .u8 (r : Int) :: (zi opKs x ++ [.int .i64 m])
abbrev QA (r : Nat) (x : List Int) (m : Int) : Array Value := (qaL r x m).toArray
section
variable {r : Nat} {x : List Int} {m : Int}
theorem qa_size (h : x.length = 19) : (QA r x m).size = 21 := by simp [QA, qaL, op_llen h]
theorem qa_0 : (QA r x m)[0]? = some (.int .u8 (r : Int)) := by simp [QA, qaL]
theorem qa_m (h : x.length = 19) : (QA r x m)[20]? = some (.int .i64 m) := by
  have := op_llen h
  simp [QA, qaL, List.getElem?_append_right, this]
end

end Go.Proofs.YtpekghaodmeemaaGreat
set_option linter.unusedSimpArgs false
set_option linter.unusedVariables false
set_option maxHeartbeats 400000
set_option maxRecDepth 100000
namespace Go.Proofs.YtpekghaodmeemaaGreat
open Go.RowKit

section
variable {P : Program} {l : List Value} {w : World} {d : Nat} {ty : TypeId} {pos : String} {aft : Array Edge}
theorem s_max3 {x y z : Operand} {k : IntKind} {a b c : Int} {tys : Array TypeId} (hx : opv l x = .int k a := by rfl) (hy : opv l y = .int k b := by rfl) (hz : opv l z = .int k c := by rfl) : Go1 P l w ⟨some d, .call { callee := .builtin .max, args := #[x, y, z], argTypes := tys }, ty, pos, aft, none⟩ (.int k (max (max a b) c)) := by
  have e1 : (if b > a then b else a) = max a b := by simp only [Int.max_def]; split <;> split <;> omega
  have e2 : (if c > max a b then c else max a b) = max (max a b) c := by
    rw [Int.max_def (max a b) c]; split <;> split <;> omega
  unfold Go1
  rw [← e2, ← e1]
  simp [execOp, resolve, invoke, builtin, hx, hy, hz, Builtin.max_, Builtin.max2]
end
section
variable {s : List (List Int)} {m : Int} {r : Nat} {x : List Int}
theorem turnE_v (s : List (List Int)) (k r c : Nat) (it : List Int) (n : Int) : ¬ turnE s k r c it n = 7 := by unfold turnE; split <;> (try split) <;> decide
theorem mkE_v (s : List (List Int)) (r : Nat) (x : List Int) : ¬ mkE s r x = 7 := by
  have hc : ∀ ns : List (List Int), ¬ clE s r (kn x 1) ns = 7 := by
    intro ns
    induction ns with
    | nil => rw [clE]; decide
    | cons it ns ih => rw [clE]; split; exact turnE_v _ _ _ _ _ _; exact ih
  have ha : ¬ addE s r (kitem x) = 7 := by
    unfold addE bumpE
    split
    · decide
    · split
      · decide
      · split <;> decide
  unfold mkE
  split
  · unfold adE; split
    · exact ha
    · exact turnE_v _ _ _ _ _ _
  · split
    · exact turnE_v _ _ _ _ _ _
    · split
      · exact turnE_v _ _ _ _ _ _
      · split
        · unfold noteE; split
          · decide
          · split <;> decide
        · exact hc _
theorem opE_v (x : List Int) : ¬ opE x = 7 := by
  unfold opE
  split
  · decide
  · split
    · decide
    · split
      · decide
      · split <;> decide
theorem room_7 (h : dE s m r x = 7) : opE x = 0 ∧ ¬ 16 ≤ r ∧ ¬ ((opK x = 2 ∨ opK x = 3) ∧ qtyB s (kn x 1) (kitem x) = false) ∧ mkE s r x = 0 ∧ max m (s.length : Int) < ((normP (s ++ mkP s r x)).length : Int) := by
  unfold dE at h
  split at h
  · exact absurd h (opE_v x)
  · next h1 =>
    split at h
    · cases h
    · next h2 =>
      split at h
      · cases h
      · next h3 =>
        split at h
        · exact absurd h (mkE_v s r x)
        · next h4 =>
          split at h
          · next h5 => exact ⟨by omega, h2, h3, by omega, h5⟩
          · cases h
theorem more_len {s d : List (List Int)} (hs : StaR s) (hd : AOks d) : s.length ≤ (normP (s ++ d)).length := by
  have h := len_keys (K := (normP (s ++ d)).map akey) hs fun a ha => by
    have h1 := (mem_fnd hs.knd).2 ha
    have h2 := val_join hs.ok hd (akey a)
    rw [norm_id hs, h1] at h2
    cases hf : fnd (akey a) (normP (s ++ d)) with
    | none => rw [hf] at h2; simp only [rnk] at h2; omega
    | some v =>
      obtain ⟨b, hb, e, _⟩ := fnd_mem hf
      exact List.mem_map.2 ⟨b, hb, e⟩
  rwa [List.length_map] at h
theorem room_free {l : List (List Int)} (hv : AOks l) (hn : l.length ≤ 40000000) (hr : r < 256) (hx : OpOk x) (h : dE (normP l) m r x = 7) : dE (normP l) 1099511627776 r x = 0 ∧ max m ((normP l).length : Int) < ((normP (l ++ dP (normP l) 1099511627776 r x)).length : Int) ∧ AOks (dP (normP l) 1099511627776 r x) ∧ (dP (normP l) 1099511627776 r x).length ≤ 80000002 := by
  have hs := norm_sta hv
  have hnl := norm_len l
  obtain ⟨h1, h2, h3, h4, h5⟩ := room_7 h
  have ha := stp_all (m := 1099511627776) (r := r) hs (by omega) hr hx
  rw [norm_id hs] at ha
  have hle : (normP (normP l ++ mkP (normP l) r x)).length ≤ 80000002 := by
    obtain ⟨_, _, hON, _⟩ := opE_ok h1
    obtain ⟨K, hK, hk⟩ := mk_keys hs (by omega) hr hx hON
    have hm := mkP_all hs.ok (by omega) hr hx hON
    have h6 := len_keys (K := (normP l).map akey ++ K) (norm_sta (hs.ok.app hm.1)) fun a ha => by
      obtain ⟨b, hb, e⟩ := norm_keys (hs.ok.app hm.1) ha
      rw [← e]
      rcases List.mem_append.1 hb with h | h
      · exact List.mem_append_left _ (List.mem_map.2 ⟨b, h, rfl⟩)
      · exact hk b h
    rw [List.length_append, List.length_map] at h6
    omega
  have h0 : dE (normP l) 1099511627776 r x = 0 := dE_0 h1 h2 h3 h4 (by omega)
  refine ⟨h0, ?_, ha.1, by omega⟩
  rw [dP_yes h0, ← norm_app_l hv (by rw [dP_yes h0] at ha; exact ha.1)]
  exact h5
theorem room_step {l : List (List Int)} (hv : AOks l) (hn : l.length ≤ 40000000) (hr : r < 256) (hx : OpOk x) : ((normP (l ++ dP (normP l) m r x)).length : Int) ≤ max m ((normP l).length : Int) ∧ (normP l).length ≤ (normP (l ++ dP (normP l) m r x)).length ∧ AOks (dP (normP l) m r x) ∧ (dP (normP l) m r x).length ≤ 80000002 ∧ (normP (l ++ dP (normP l) m r x)).length ≤ 2 * l.length + 2 := by
  have hs := norm_sta hv
  have hnl := norm_len l
  have ha := stp_all (m := m) (r := r) hs (by omega) hr hx
  rw [norm_id hs] at ha
  rw [← norm_app_l hv ha.1]
  refine ⟨?_, more_len hs ha.1, ha.1, by omega, by omega⟩
  by_cases h : dE (normP l) m r x = 0
  · rw [dP_yes h]
    by_cases h7 : max m ((normP l).length : Int) < ((normP (normP l ++ mkP (normP l) r x)).length : Int)
    · exfalso
      unfold dE at h
      split at h
      · next q => exact q h
      · split at h
        · cases h
        · split at h
          · cases h
          · split at h
            · next q => exact q h
            · cases h
    · omega
  · rw [dP_no h, List.append_nil, norm_id hs]; omega
theorem raw_at {l : List (List Int)} (hv : AOks l) (hn : l.length ≤ 30) (hr : r < 256) {xs : List (List Int)} (hx : OpsOk xs) : ∀ k, k ≤ 20 → AOks (runS m r l (xs.take k)) ∧ (runS m r l (xs.take k)).length + 2 ≤ 32 * 2 ^ k
  | 0, _ => ⟨hv, by simp [runS]; omega⟩
  | k + 1, hk => by
    obtain ⟨h1, h2⟩ := raw_at hv hn hr hx k (by omega)
    have hp : 32 * 2 ^ k ≤ 32 * 2 ^ 20 := Nat.mul_le_mul_left _ (Nat.pow_le_pow_right (by decide) (by omega))
    by_cases hl : k < xs.length
    · have hst := room_step (m := m) (r := r) h1 (by omega) hr (hx _ (getD_mem' (d := []) hl))
      rw [take_snoc hl, runS_snoc]
      refine ⟨(norm_sta (h1.app hst.2.2.1)).ok, ?_⟩
      have h4 : 32 * 2 ^ (k + 1) = (32 * 2 ^ k) * 2 := by rw [Nat.pow_succ, Nat.mul_assoc]
      omega
    · rw [List.take_of_length_le (by omega)]
      rw [List.take_of_length_le (by omega)] at h1 h2
      have h4 : 32 * 2 ^ (k + 1) = (32 * 2 ^ k) * 2 := by rw [Nat.pow_succ, Nat.mul_assoc]
      exact ⟨h1, by omega⟩
end

theorem c_ShopRoom (w0 : World) (A : Option Addr) (c : Nat) (l : List (List Int)) (hr : Rd w0 A 21 l.length (arows l)) (hv : AOks l) (hn : l.length ≤ 900000000000000) (r : Nat) (hr8 : r < 256) (x0 : List Int) (hx0 : OpOk x0) (mr : Int) (B : Option Addr) (d : Nat) (xs : List (List Int)) (hr2 : Rd w0 B 19 xs.length (orows xs)) (hxs : OpsOk xs)  :
    CallR Tryz.prog 4 #[.slice A l.length c, .agg (QA r x0 mr), .slice B xs.length d] w0 fun v w' => v = .bool true ∧ Ext w0 w' := by
 have hS := St.rd2 (S := NoB) hr hr2
 have hxl0 := hx0.len
 have hqs := qa_size (r := r) (m := mr) hxl0
 have hol := orows_len xs
 refine c_enter (l := [.slice A l.length c, .agg (QA r x0 mr), .slice B xs.length d, undef, undef, undef, undef, undef, undef, undef, undef, undef, undef, undef, undef, undef, undef, undef, undef, undef, undef, undef, undef, undef, undef, undef, undef, undef, undef, undef, undef, undef, undef, undef, undef, undef, undef, undef, undef, undef, undef, undef, undef, undef, undef, undef, undef, undef, undef, undef, undef, undef, undef, undef, undef, undef, undef, undef, undef, undef, undef, undef, undef, undef, undef, undef, undef, undef, undef, undef, undef, undef, undef, undef, undef, undef, undef, undef, undef, undef]) Tryz.func4 rfl (by simp only [Tryz.ntmps4, List.size_toArray, List.length_cons, List.length_nil, Nat.reduceAdd, Nat.reduceSub, Array.replicate_succ, Array.replicate_zero, List.push_toArray, List.append_toArray, List.nil_append, List.cons_append]) ?_
 refine x_seq fun K1 hK1 => x_region ?_
 refine m_box hS (fun w1 g1 hS => ?_)
 try simp only [nY, aY] at hS ⊢
 obtain ⟨gq, hgq⟩ : ∃ z, z = g1 := ⟨_, rfl⟩
 rw [← hgq] at hS ⊢
 refine s_go s_assign ?_
 try simp only [nY]
 refine x_nil (hK1 _ _ ?_)
 refine x_seq fun K2 hK2 => ?_
 refine x_seq fun K3 hK3 => x_region ?_
 refine s_go s_move ?_
 try simp only [nY]
 refine s_go (s_len_sl U22) ?_
 try simp only [nY]
 refine s_go s_gtr ?_
 try simp only [nY]
 refine s_go s_move ?_
 try simp only [nY]
 refine s_part 17 rfl (fun hp1 => ?_) (fun hp1 => ?_)
 ·
  try simp only [n3, n4]
  try simp only [dZ, ne_eq] at hp1
  refine g_off (yi (t := 17) rfl rfl) ?_
  try simp only [nY]
  refine g_off (yi (t := 17) rfl rfl) ?_
  try simp only [nY]
  refine g_off (yi (t := 17) rfl rfl) ?_
  try simp only [nY]
  refine s_go s_pick_t ?_
  try simp only [nY]
  refine x_nil (hK3 _ _ ?_)
  refine x_cond_t (h := ?_)
  refine x_seq fun K4 hK4 => x_region ?_
  refine s_call en7 ?_
  try simp only [nY, mY]
  refine CallR.mono (c_law18alive _) ?_
  rintro _ w2 ⟨rfl, hE2⟩
  replace hS := hS.ext hE2
  try simp only [nY]
  refine s_go s_assign ?_
  try simp only [nY]
  refine x_nil (hK4 _ _ ?_)
  refine x_ret (r_tmp rfl ?_)
  exact ⟨rfl, hS.ext_of⟩
 try simp only [n3, n4]
 try simp only [dZ, ne_eq] at hp1
 refine g_on (yi (t := 17) rfl rfl) ?_
 refine s_go s_move ?_
 try simp only [nY]
 refine g_on (yi (t := 17) rfl rfl) ?_
 refine s_go (s_len_sl U30) ?_
 try simp only [nY]
 refine g_on (yi (t := 17) rfl rfl) ?_
 refine s_go s_gtr ?_
 try simp only [nY]
 refine s_go s_pick_f ?_
 try simp only [nY]
 refine x_nil (hK3 _ _ ?_)
 refine x_cond (ht := fun hc2 => ?_) (hf := fun hc2 => ?_)
 ·
  try simp only [dY] at hc2
  refine x_seq fun K5 hK5 => x_region ?_
  refine s_call en7 ?_
  try simp only [nY, mY]
  refine CallR.mono (c_law18alive _) ?_
  rintro _ w3 ⟨rfl, hE3⟩
  replace hS := hS.ext hE3
  try simp only [nY]
  refine s_go s_assign ?_
  try simp only [nY]
  refine x_nil (hK5 _ _ ?_)
  refine x_ret (r_tmp rfl ?_)
  exact ⟨rfl, hS.ext_of⟩
 try simp only [dY] at hc2
 have hl30 : l.length ≤ 30 := by omega
 have hx20 : xs.length ≤ 20 := by omega
 have hraw := raw_at (m := mr) hv hl30 hr8 hxs
 refine x_skip ?_
 refine hK2 _ _ ?_
 refine x_seq fun K6 hK6 => x_region ?_
 refine s_go s_move ?_
 try simp only [nY]
 refine s_call en12 ?_
 try simp only [nY, mY]
 refine CallR.mono (c_ref10Norm _ A c l (hS.hasA) hv (by omega)) ?_
 rintro _ w4 ⟨Bn, cn, rfl, hR4⟩
 replace hS := hS.ext hR4.ext
 try simp only [nY]
 refine s_go (s_len_sl U22) ?_
 try simp only [nY]
 refine s_go s_assign ?_
 try simp only [nY]
 refine x_nil (hK6 _ _ ?_)
 refine x_seq fun K7 hK7 => x_region ?_
 refine s_go s_move ?_
 try simp only [nY]
 refine s_go (m_fieldAddr U29 (hi := ti3)) ?_
 try simp only [nY, fY, gY]
 refine s_go (m_load_obj U3 (hS := hS) (hv := qa_m hxl0)) ?_
 try simp only [nY, gY]
 refine s_go s_max3 ?_
 obtain ⟨most, hmo⟩ : ∃ z, max (max ((normP l).length : Int) mr) 0 = z := ⟨_, rfl⟩
 try simp only [nY]
 rw [hmo]
 refine s_go s_assign ?_
 try simp only [nY]
 refine x_nil (hK7 _ _ ?_)
 refine x_seq fun K8 hK8 => ?_
 refine x_seq fun K9 hK9 => x_region ?_
 refine s_go s_assign ?_
 try simp only [nY]
 refine x_nil (hK9 _ _ ?_)
 refine x_block ?_
 refine x_loop [0, 6, 9, 10, 11, 12, 13, 30, 31, 32, 33, 34, 35, 36, 37, 38, 39, 40, 41, 42, 43, 44, 45, 46, 47, 48, 49, 50, 51, 52, 53, 54, 55, 56, 57, 58, 59, 60, 61, 62, 63, 64, 65, 66, 67, 68, 69, 70, 71, 72, 73, 74, 75, 76, 77, 78] (fun m f w => ∃ (k : Nat) (O : Option Addr) (oc : Nat), k ≤ xs.length ∧ m = xs.length - k ∧ f 9 = .int .i64 (k : Int) ∧ f 0 = .slice O (runS mr r l (xs.take k)).length oc ∧ (normP l).length ≤ (normP (runS mr r l (xs.take k))).length ∧ ((normP (runS mr r l (xs.take k))).length : Int) ≤ most ∧ St NoB w0 w [.rd O 21 (runS mr r l (xs.take k)).length (arows (runS mr r l (xs.take k))), .rd B 19 xs.length (orows xs), .obj gq (.cells (QA r x0 mr) 29 (0, 0))]) (xs.length) ?init1 (fun m1 f1 wl1 hI => ?_)
 case init1 =>
  try simp only [nY]
  exact ⟨0, _, _, by omega, rfl, rfl, rfl, Nat.le_refl _, (show ((normP l).length : Int) ≤ most by omega), hS.selA⟩
 obtain ⟨k, O, oc, hk0, hmk, hfi, hfs, hlo, hhi, hS⟩ := hI
 simp only [clob, List.foldl, n3, n4, hfi, hfs]
 obtain ⟨x, hxx⟩ : ∃ x, xs.getD k [] = x := ⟨_, rfl⟩
 obtain ⟨hco, hcl⟩ := hraw k (by omega)
 have hpw : 32 * 2 ^ k ≤ 32 * 2 ^ 20 := Nat.mul_le_mul_left _ (Nat.pow_le_pow_right (by decide) (by omega))
 have hcq : (runS mr r l (xs.take k)).length ≤ 40000000 := by omega
 refine x_seq fun K10 hK10 => ?_
 refine x_seq fun K11 hK11 => x_region ?_
 refine s_go s_move ?_
 try simp only [nY]
 refine s_go s_move ?_
 try simp only [nY]
 refine s_go (s_len_sl U30) ?_
 try simp only [nY]
 refine s_go s_lss ?_
 try simp only [nY]
 refine x_nil (hK11 _ _ ?_)
 refine x_cond (ht := fun hc3 => ?_) (hf := fun hc3 => ?_)
 ·
  try simp only [dY] at hc3
  have hx : OpOk x := by rw [← hxx]; exact hxs _ (getD_mem' (by omega))
  have hxl := hx.len
  have hosz := op_size hxl
  obtain ⟨hrs1, hrs2, hdo, hdl, _⟩ := room_step (m := mr) hco hcq hr8 hx
  have hda := hco.app hdo
  have hcn : runS mr r l (xs.take (k + 1)) = normP (runS mr r l (xs.take k) ++ dP (normP (runS mr r l (xs.take k))) mr r x) := by rw [take_snoc (by omega), hxx, runS_snoc]
  refine x_skip ?_
  refine hK10 _ _ ?_
  refine x_seq fun K12 hK12 => ?_
  refine x_block ?_
  refine x_seq fun K13 hK13 => ?_
  refine x_mixed_f [] 0 [10, 11, 36, 37, 38, 39, 40, 41, 42, 43, 44, 45, 46, 47, 48] (fun f w => ∃ (O2 : Option Addr) (oc2 : Nat), f 10 = .slice O2 (dP (normP (runS mr r l (xs.take k))) mr r x).length oc2 ∧ f 11 = .int .i64 (dE (normP (runS mr r l (xs.take k))) mr r x) ∧ St NoB w0 w [.vec O2 oc2 66 21 (dP (normP (runS mr r l (xs.take k))) mr r x).length (arows (dP (normP (runS mr r l (xs.take k))) mr r x)), .rd O 21 (runS mr r l (xs.take k)).length (arows (runS mr r l (xs.take k))), .rd B 19 xs.length (orows xs), .obj gq (.cells (QA r x0 mr) 29 (0, 0))]) (by kernel_rfl) (by kernel_rfl) (by kernel_rfl) (by decide) hS (fun w5 hS => ?mixpre801) ?mixrest801
  case mixpre801 =>
   refine p_nil ?_
   simp only [List.length_cons, List.length_nil, Nat.reduceAdd, Nat.reduceSub]
   refine any_gn 0 rfl (go_yields w_none (fun w hS => s_move)) ?_
   try simp only [nY]
   refine any_gn 1 rfl (go_yields w_none (fun w hS => m_fieldAddr U29 (hi := ti3))) ?_
   try simp only [nY, fY, gY]
   refine any_gn 2 rfl (go_yields w_none (fun w hS => m_load_obj U3 (hS := hS) (hv := qa_m hxl0))) ?_
   try simp only [nY, gY]
   refine any_gn 3 rfl (go_yields w_none (fun w hS => m_fieldAddr U29 (hi := ti5))) ?_
   try simp only [nY, fY, gY]
   refine any_gn 4 rfl (go_yields w_none (fun w hS => m_load_obj U5 (hS := hS) (hv := qa_0))) ?_
   try simp only [nY, gY]
   refine any_gn 5 rfl (go_yields w_none (fun w hS => s_move)) ?_
   try simp only [nY]
   refine any_gn 6 rfl (go_yields w_none (fun w hS => s_move)) ?_
   try simp only [nY]
   refine any_gn 7 rfl (go_yields w_none (fun w hS => m_indexAddr_rd U30 ti27 (hS := hS))) ?_
   try simp only [nY, Nat.mul_one, Nat.zero_add, Int.toNat_natCast, Int.reduceToNat]
   refine any_gn 8 rfl (go_yields w_none (fun w hS => m_loada_rd U27 (hi := ti27) (hS := hS) (hfit := by rw [orows_len]; omega))) ?_
   try simp only [nY, gY]
   rw [orow_get (by omega) hxs, hxx]
   refine any_step [9] (by kernel_rfl) (by decide) (fun w6 hE => ⟨fun _ => (hS.ext hE).sel (by repeat (first | exact Sel.nil | (refine Sel.cons (by repeat (exact Del.head)) ?_))), ?_⟩)
   replace hS := hS.ext hE
   intro i hi
   simp only [List.mem_cons, List.not_mem_nil, or_false] at hi
   subst hi
   refine any_op (by rfl) ?_
   refine s_call en13 ?_
   try simp only [nY, mY]
   refine CallR.mono (c_shopDo _ O oc (runS mr r l (xs.take k)) (hS.hasRd (by repeat (exact Has.head))) hco hcq mr r hr8 x hx) ?_
   rintro _ w7 ⟨O2, oc2, rfl, hC7⟩
   replace hS := hS.call hC7
   simp only [List.cons_append, List.nil_append] at hS
   try simp only [nY]
   refine x_nil ?_
   refine any_gn 10 rfl (go_yields w_none (fun w hS => s_move)) ?_
   try simp only [nY]
   refine any_gn 11 rfl (go_yields w_none (fun w hS => s_extract (hv := rfl))) ?_
   try simp only [gY]
   try simp only [nY]
   refine any_gn 12 rfl (go_yields w_none (fun w hS => s_extract (hv := rfl))) ?_
   try simp only [gY]
   try simp only [nY]
   refine any_gn 13 rfl (go_yields w_none (fun w hS => s_assign)) ?_
   try simp only [nY]
   refine any_gn 14 rfl (go_yields w_none (fun w hS => s_assign)) ?_
   try simp only [nY]
   refine any_nil (by kernel_rfl) (fun w8 hE => ?_)
   replace hS := hS.ext hE
   refine ⟨fun _ => hS.selA, ?_⟩
   refine mix_leaf (by simp only [clob, List.foldl, nZ]) ?_
   try simp only [n1, n2]
   exact ⟨_, _, by trivial, by trivial, hS.sel (by repeat (first | exact Sel.nil | (refine Sel.cons (by repeat (exact Del.head)) ?_)))⟩
  intro fm1 w9 hM
  obtain ⟨O2, oc2, hf10, hf11, hS⟩ := hM
  simp only [clob, List.foldl, n3, n4, hf10, hf11]
  refine hK13 _ _ ?_
  refine x_seq fun K14 hK14 => ?_
  refine x_seq fun K15 hK15 => x_region ?_
  refine s_go s_move ?_
  try simp only [nY]
  refine s_go s_eql ?_
  try simp only [nY]
  refine x_nil (hK15 _ _ ?_)
  refine x_cond (ht := fun hc4 => ?_) (hf := fun hc4 => ?_)
  ·
   try simp only [dY] at hc4
   obtain ⟨hfr0, hfrl, hfro, hfrn⟩ := room_free (m := mr) hco hcq hr8 hx hc4
   refine x_seq fun K16 hK16 => ?_
   refine x_mixed_f [] 0 [12, 13, 51, 52, 53, 54, 55, 56, 57, 58, 59, 60, 61] (fun f w => ∃ (O3 : Option Addr) (oc3 : Nat), f 12 = .slice O3 (dP (normP (runS mr r l (xs.take k))) 1099511627776 r x).length oc3 ∧ f 13 = .int .i64 (dE (normP (runS mr r l (xs.take k))) 1099511627776 r x) ∧ St NoB w0 w [.vec O3 oc3 66 21 (dP (normP (runS mr r l (xs.take k))) 1099511627776 r x).length (arows (dP (normP (runS mr r l (xs.take k))) 1099511627776 r x)), .vec O2 oc2 66 21 (dP (normP (runS mr r l (xs.take k))) mr r x).length (arows (dP (normP (runS mr r l (xs.take k))) mr r x)), .rd O 21 (runS mr r l (xs.take k)).length (arows (runS mr r l (xs.take k))), .rd B 19 xs.length (orows xs), .obj gq (.cells (QA r x0 mr) 29 (0, 0))]) (by kernel_rfl) (by kernel_rfl) (by kernel_rfl) (by decide) hS (fun w10 hS => ?mixpre1002) ?mixrest1002
   case mixpre1002 =>
    refine p_nil ?_
    simp only [List.length_cons, List.length_nil, Nat.reduceAdd, Nat.reduceSub]
    refine any_gn 0 rfl (go_yields w_none (fun w hS => s_move)) ?_
    try simp only [nY]
    refine any_gn 1 rfl (go_yields w_none (fun w hS => m_fieldAddr U29 (hi := ti5))) ?_
    try simp only [nY, fY, gY]
    refine any_gn 2 rfl (go_yields w_none (fun w hS => m_load_obj U5 (hS := hS) (hv := qa_0))) ?_
    try simp only [nY, gY]
    refine any_gn 3 rfl (go_yields w_none (fun w hS => s_move)) ?_
    try simp only [nY]
    refine any_gn 4 rfl (go_yields w_none (fun w hS => s_move)) ?_
    try simp only [nY]
    refine any_gn 5 rfl (go_yields w_none (fun w hS => m_indexAddr_rd U30 ti27 (hS := hS))) ?_
    try simp only [nY, Nat.mul_one, Nat.zero_add, Int.toNat_natCast, Int.reduceToNat]
    refine any_gn 6 rfl (go_yields w_none (fun w hS => m_loada_rd U27 (hi := ti27) (hS := hS) (hfit := by rw [orows_len]; omega))) ?_
    try simp only [nY, gY]
    rw [orow_get (by omega) hxs, hxx]
    refine any_step [7] (by kernel_rfl) (by decide) (fun w11 hE => ⟨fun _ => (hS.ext hE).sel (by repeat (first | exact Sel.nil | (refine Sel.cons (by repeat (exact Del.head)) ?_))), ?_⟩)
    replace hS := hS.ext hE
    intro i hi
    simp only [List.mem_cons, List.not_mem_nil, or_false] at hi
    subst hi
    refine any_op (by rfl) ?_
    refine s_call en13 ?_
    try simp only [nY, mY]
    refine CallR.mono (c_shopDo _ O oc (runS mr r l (xs.take k)) (hS.hasA) hco hcq 1099511627776 r hr8 x hx) ?_
    rintro _ w12 ⟨O3, oc3, rfl, hC12⟩
    replace hS := hS.call hC12
    simp only [List.cons_append, List.nil_append] at hS
    try simp only [nY]
    refine x_nil ?_
    refine any_gn 8 rfl (go_yields w_none (fun w hS => s_move)) ?_
    try simp only [nY]
    refine any_gn 9 rfl (go_yields w_none (fun w hS => s_extract (hv := rfl))) ?_
    try simp only [gY]
    try simp only [nY]
    refine any_gn 10 rfl (go_yields w_none (fun w hS => s_extract (hv := rfl))) ?_
    try simp only [gY]
    try simp only [nY]
    refine any_gn 11 rfl (go_yields w_none (fun w hS => s_assign)) ?_
    try simp only [nY]
    refine any_gn 12 rfl (go_yields w_none (fun w hS => s_assign)) ?_
    try simp only [nY]
    refine any_nil (by kernel_rfl) (fun w13 hE => ?_)
    replace hS := hS.ext hE
    refine ⟨fun _ => hS.selA, ?_⟩
    refine mix_leaf (by simp only [clob, List.foldl, nZ]) ?_
    try simp only [n1, n2]
    exact ⟨_, _, by trivial, by trivial, hS.sel (by repeat (first | exact Sel.nil | (refine Sel.cons (by repeat (exact Del.head)) ?_)))⟩
   intro fm2 w14 hM
   obtain ⟨O3, oc3, hf12, hf13, hS⟩ := hM
   simp only [clob, List.foldl, n3, n4, hf12, hf13]
   refine hK16 _ _ ?_
   refine x_seq fun K17 hK17 => x_region ?_
   refine s_go s_move ?_
   try simp only [nY]
   rw [hfr0]
   refine s_go s_neq ?_
   try simp only [nY]
   try simp only [ne_eq, not_true_eq_false, decide_false, eq_self, decide_true]
   refine s_go s_move ?_
   try simp only [nY]
   refine g_on (yi (t := 64) rfl rfl) ?_
   refine s_go s_move ?_
   try simp only [nY]
   refine g_on (yi (t := 64) rfl rfl) ?_
   refine s_go s_move ?_
   try simp only [nY]
   refine g_on (yi (t := 64) rfl rfl) ?_
   refine s_call en14 ?_
   try simp only [nY, mY]
   refine CallR.mono (c_ref10Join _ O oc (runS mr r l (xs.take k)) (hS.hasA) hco O3 oc3 (dP (normP (runS mr r l (xs.take k))) 1099511627776 r x) (hS.vecRd (by repeat (exact Has.head))) hfro (by omega)) ?_
   rintro _ w15 ⟨Oj, oj, rfl, hC15⟩
   replace hS := hS.call hC15
   simp only [List.cons_append, List.nil_append] at hS
   try simp only [nY]
   refine g_on (yi (t := 64) rfl rfl) ?_
   refine s_go (s_len_sl U22) ?_
   try simp only [nY]
   refine g_on (yi (t := 64) rfl rfl) ?_
   refine s_go s_move ?_
   try simp only [nY]
   refine g_on (yi (t := 64) rfl rfl) ?_
   refine s_go s_leq ?_
   try simp only [nY]
   refine s_go s_pick_f ?_
   try simp only [nY]
   refine x_nil (hK17 _ _ ?_)
   refine x_cond (ht := fun hc5 => ?_) (hf := fun hc5 => ?_)
   ·
    try simp only [dY] at hc5
    (exfalso; omega)
   try simp only [dY] at hc5
   refine x_skip ?_
   refine hK14 _ _ ?_
   refine x_seq fun K19 hK19 => x_region ?_
   refine s_go s_move ?_
   try simp only [nY]
   refine s_go s_move ?_
   try simp only [nY]
   refine s_call en14 ?_
   try simp only [nY, mY]
   refine CallR.mono (c_ref10Join _ O oc (runS mr r l (xs.take k)) (hS.hasA) hco O2 oc2 (dP (normP (runS mr r l (xs.take k))) mr r x) (hS.vecA) hdo (by omega)) ?_
   rintro _ w16 ⟨Oj2, oj2, rfl, hC16⟩
   replace hS := hS.call hC16
   simp only [List.cons_append, List.nil_append] at hS
   replace hS := hS.vec_rd (by exact Upd.head)
   try simp only [nY]
   refine s_go s_assign ?_
   try simp only [nY]
   refine x_nil (hK19 _ _ ?_)
   refine x_seq fun K20 hK20 => x_region ?_
   refine s_go s_move ?_
   try simp only [nY]
   refine s_go (s_len_sl U22) ?_
   try simp only [nY]
   refine s_go s_move ?_
   try simp only [nY]
   refine s_go s_gtr ?_
   try simp only [nY]
   refine x_nil (hK20 _ _ ?_)
   refine x_cond (ht := fun hc6 => ?_) (hf := fun hc6 => ?_)
   ·
    try simp only [dY] at hc6
    (exfalso; omega)
   try simp only [dY] at hc6
   refine x_skip ?_
   refine hK12 _ _ ?_
   refine x_region ?_
   refine s_go s_move ?_
   try simp only [nY]
   refine s_go (s_add (hc := by exact wr_i64 (by omega) (by omega))) ?_
   try simp only [nY]
   refine s_go s_assign ?_
   try simp only [nY]
   refine x_nil ?_
   refine loop_back (m' := xs.length - (k + 1)) (by simp only [clob, List.foldl, nZ]) ?_ ?_
   · try simp only [nY]
     exact ⟨k + 1, _, _, by omega, by omega, by rfl, by rw [hcn], by rw [hcn, norm_norm hda]; omega, by rw [hcn, norm_norm hda]; omega, by rw [hcn]; exact hS.selA⟩
   · omega
  try simp only [dY] at hc4
  refine x_skip ?_
  refine hK14 _ _ ?_
  refine x_seq fun K22 hK22 => x_region ?_
  refine s_go s_move ?_
  try simp only [nY]
  refine s_go s_move ?_
  try simp only [nY]
  refine s_call en14 ?_
  try simp only [nY, mY]
  refine CallR.mono (c_ref10Join _ O oc (runS mr r l (xs.take k)) (hS.hasA) hco O2 oc2 (dP (normP (runS mr r l (xs.take k))) mr r x) (hS.vecRd (by repeat (exact Has.head))) hdo (by omega)) ?_
  rintro _ w17 ⟨Oj2, oj2, rfl, hC17⟩
  replace hS := hS.call hC17
  simp only [List.cons_append, List.nil_append] at hS
  replace hS := hS.vec_rd (by exact Upd.head)
  try simp only [nY]
  refine s_go s_assign ?_
  try simp only [nY]
  refine x_nil (hK22 _ _ ?_)
  refine x_seq fun K23 hK23 => x_region ?_
  refine s_go s_move ?_
  try simp only [nY]
  refine s_go (s_len_sl U22) ?_
  try simp only [nY]
  refine s_go s_move ?_
  try simp only [nY]
  refine s_go s_gtr ?_
  try simp only [nY]
  refine x_nil (hK23 _ _ ?_)
  refine x_cond (ht := fun hc7 => ?_) (hf := fun hc7 => ?_)
  ·
   try simp only [dY] at hc7
   (exfalso; omega)
  try simp only [dY] at hc7
  refine x_skip ?_
  refine hK12 _ _ ?_
  refine x_region ?_
  refine s_go s_move ?_
  try simp only [nY]
  refine s_go (s_add (hc := by exact wr_i64 (by omega) (by omega))) ?_
  try simp only [nY]
  refine s_go s_assign ?_
  try simp only [nY]
  refine x_nil ?_
  refine loop_back (m' := xs.length - (k + 1)) (by simp only [clob, List.foldl, nZ]) ?_ ?_
  · try simp only [nY]
    exact ⟨k + 1, _, _, by omega, by omega, by rfl, by rw [hcn], by rw [hcn, norm_norm hda]; omega, by rw [hcn, norm_norm hda]; omega, by rw [hcn]; exact hS.selA⟩
  · omega
 try simp only [dY] at hc3
 obtain rfl : k = xs.length := by omega
 refine x_exit (look_here ?_)
 refine hK8 _ _ ?_
 refine x_seq fun K25 hK25 => x_region ?_
 refine s_call en7 ?_
 try simp only [nY, mY]
 refine CallR.mono (c_law18alive _) ?_
 rintro _ w18 ⟨rfl, hE18⟩
 replace hS := hS.ext hE18
 try simp only [nY]
 refine s_go s_assign ?_
 try simp only [nY]
 refine x_nil (hK25 _ _ ?_)
 refine x_ret (r_tmp rfl ?_)
 exact ⟨rfl, hS.ext_of⟩
end Go.Proofs.YtpekghaodmeemaaGreat
set_option linter.unusedSimpArgs false
set_option linter.unusedVariables false
set_option maxHeartbeats 800000
set_option maxRecDepth 100000
namespace Go.Proofs.YtpekghaodmeemaaGreat
open Go.ChangeShapes Go.WideShapes Go.ChangeAt Go.RowKit

theorem rows_aok {l : List (List Int)} (h : ∀ x ∈ l, x.length = atomKs.length ∧ ∀ i k, atomKs[i]? = some k → (Lit.int k (x.getD i 0)).wf = true) : AOks l := fun x hx => by
  obtain ⟨h1, h2⟩ := h x hx
  have W : World := { heap := #[], tape := fun _ _ => 0, drawn := 0, os := default, output := #[] }
  obtain ⟨a, e, ha⟩ := atom_open (w := W) (allOk_of h1 h2)
  rw [zi_inj h1 (by simpa using ha.len) e]; exact ha
theorem open_rows {w : World} {n : Nat} {xs : List Value} {A : Option Addr} (hr : Rd w A 21 n xs) (h : ∀ i, i < n → AllOk w (atomKs.map LK.int) ((xs.drop (i * 21)).take 21)) : ∃ l : List (List Int), l.length = n ∧ xs = arows l ∧ AOks l := by
  obtain ⟨l, hl, e, hok⟩ := rowsZ_open (w := w) (ks := atomKs) (n := n) (xs := xs) hr.1 h
  exact ⟨l, hl, e, rows_aok hok⟩
end Go.Proofs.YtpekghaodmeemaaGreat
set_option linter.unusedSimpArgs false
set_option linter.unusedVariables false
set_option maxHeartbeats 800000
set_option maxRecDepth 100000
namespace Go.Proofs.YtpekghaodmeemaaGreat
open Go.ChangeShapes Go.WideShapes Go.ChangeAt Go.RowKit

theorem byt_cut {x : List Int} {i n : Nat} (h : ∀ j, j < n → ∃ v, x[i + j]? = some v ∧ 0 ≤ v ∧ v ≤ 255) : Byt ((x.drop i).take n) := by
  intro y hy
  obtain ⟨j, hj, rfl⟩ := List.getElem_of_mem hy
  rw [List.length_take] at hj
  obtain ⟨v, hv, h1⟩ := h j (by omega)
  have : ((x.drop i).take n)[j]? = some v := by rw [List.getElem?_take, if_pos (by omega), List.getElem?_drop]; exact hv
  rw [List.getElem?_eq_getElem (by rw [List.length_take]; omega)] at this
  rw [Option.some.inj this]; exact h1
theorem op_of_wf {x : List Int} (hl : x.length = 19) (hx : ∀ i k, opKs[i]? = some k → (Lit.int k (x.getD i 0)).wf = true) : OpOk x := by
  have hbt : ∀ i n, (∀ j, j < n → opKs[i + j]? = some .u8) → Byt ((x.drop i).take n) := fun i n hk => byt_cut fun j hj => by
    have h1 := hk j hj
    have h2 := bounds_u8 (hx _ _ h1)
    have h3 : i + j < 19 := (List.getElem?_eq_some_iff.1 h1).1
    rw [List.getD_eq_getElem?_getD, List.getElem?_eq_getElem (by omega)] at h2
    exact ⟨_, List.getElem?_eq_getElem (by omega), h2⟩
  have hi : ∀ j, j < 8 → opKs[2 + j]? = some .u8 := fun j hj => by
    have : j = 0 ∨ j = 1 ∨ j = 2 ∨ j = 3 ∨ j = 4 ∨ j = 5 ∨ j = 6 ∨ j = 7 := by omega
    rcases this with rfl | rfl | rfl | rfl | rfl | rfl | rfl | rfl <;> rfl
  have ht : ∀ j, j < 8 → opKs[11 + j]? = some .u8 := fun j hj => by
    have : j = 0 ∨ j = 1 ∨ j = 2 ∨ j = 3 ∨ j = 4 ∨ j = 5 ∨ j = 6 ∨ j = 7 := by omega
    rcases this with rfl | rfl | rfl | rfl | rfl | rfl | rfl | rfl <;> rfl
  have b0 := bounds_i64 (hx 0 .i64 rfl)
  have b1 := wf_u16 (hx 1 .u16 rfl)
  have b10 := bounds_i64 (hx 10 .i64 rfl)
  exact ⟨hl, b0.1, b0.2, b1.1, b1.2, hbt 2 8 hi, b10.1, b10.2, hbt 11 8 ht⟩
abbrev ask18Ks : List IntKind := .u8 :: (opKs ++ [.i64])
theorem ask18_open {w : World} {cs : List Value} (h : AllOk w (ask18Ks.map LK.int) cs) : ∃ (r : Nat) (x : List Int) (m : Int), cs = qaL r x m ∧ r < 256 ∧ OpOk x := by
  obtain ⟨z, rfl, hl, hz⟩ := allOk_zi h
  have hl : z.length = 21 := hl
  have b0 := wf_u8 (hz 0 .u8 rfl)
  have hx : OpOk ((z.drop 1).take 19) := op_of_wf (by simp [hl]) fun i k hk => by
    have h1 : i < 19 := (List.getElem?_eq_some_iff.1 hk).1
    have h2 := hz (i + 1) k (by
      rw [show ask18Ks = .u8 :: (opKs ++ [.i64]) from rfl, List.getElem?_cons_succ, List.getElem?_append_left (by exact h1)]; exact hk)
    have h3 : ((z.drop 1).take 19).getD i 0 = z.getD (i + 1) 0 := by
      rw [List.getD_eq_getElem?_getD, List.getElem?_take, if_pos h1, List.getElem?_drop, Nat.add_comm, ← List.getD_eq_getElem?_getD]
    rw [h3]; exact h2
  refine ⟨(z.getD 0 0).toNat, (z.drop 1).take 19, z.getD 20 0, ?_, b0.2, hx⟩
  match z, hl with
  | [a0, a1, a2, a3, a4, a5, a6, a7, a8, a9, a10, a11, a12, a13, a14, a15, a16, a17, a18, a19, a20], _ =>
    have e : a0 = ((a0.toNat : Nat) : Int) := b0.1
    show zi ask18Ks [a0, a1, a2, a3, a4, a5, a6, a7, a8, a9, a10, a11, a12, a13, a14, a15, a16, a17, a18, a19, a20] = .int .u8 ((a0.toNat : Nat) : Int) :: (zi opKs [a1, a2, a3, a4, a5, a6, a7, a8, a9, a10, a11, a12, a13, a14, a15, a16, a17, a18, a19] ++ [.int .i64 a20])
    rw [← e]; rfl
theorem open_ops {w : World} {n : Nat} {xs : List Value} {A : Option Addr} (hr : Rd w A 19 n xs) (h : ∀ i, i < n → AllOk w (opKs.map LK.int) ((xs.drop (i * 19)).take 19)) : ∃ l : List (List Int), l.length = n ∧ xs = orows l ∧ OpsOk l := by
  obtain ⟨l, hl, e, hok⟩ := rowsZ_open (w := w) (ks := opKs) (n := n) (xs := xs) hr.1 h
  exact ⟨l, hl, e, fun x hx => op_of_wf (hok x hx).1 (hok x hx).2⟩
end Go.Proofs.YtpekghaodmeemaaGreat
namespace Go.Proofs.YtpekghaodmeemaaGreat
open Go.ChangeShapes Go.WideShapes Go.ChangeAt Go.RowKit
theorem own0 : ownKnob Tryz.prog.godebug = none := by kernel_rfl
theorem laidOut0 : laidOutB Tryz.prog = true := by kernel_rfl
theorem fl5 : Flat Tryz.prog 5 [LK.int .u8] := flat_int U5
theorem fl23 : Flat Tryz.prog 23 [LK.int .u16] := flat_int U23
theorem fl25 : Flat Tryz.prog 25 (List.replicate 8 [LK.int .u8]).flatten := flat_arr U25 fl5 rfl (by kernel_rfl) (by kernel_rfl)
theorem fl51 : Flat Tryz.prog 51 [LK.int .u32] := flat_int U51
theorem fl61 : Flat Tryz.prog 61 ([LK.int .u8] ++ ([LK.int .u16] ++ ((List.replicate 8 [LK.int .u8]).flatten ++ ([LK.int .u8] ++ ([LK.int .u32] ++ ([])))))) := flat_struct U61 (.cons rfl fl5 rfl (by kernel_rfl) (.cons rfl fl23 rfl (by kernel_rfl) (.cons rfl fl25 rfl (by kernel_rfl) (.cons rfl fl5 rfl (by kernel_rfl) (.cons rfl fl51 rfl (by kernel_rfl) (.nil)))))) (by kernel_rfl)
theorem fl62 : Flat Tryz.prog 62 [LK.int .u64] := flat_int U62
theorem fl64 : Flat Tryz.prog 64 ([LK.int .u64] ++ ((List.replicate 8 [LK.int .u8]).flatten ++ ([]))) := flat_struct U64 (.cons rfl fl62 rfl (by kernel_rfl) (.cons rfl fl25 rfl (by kernel_rfl) (.nil))) (by kernel_rfl)
theorem fl66 : Flat Tryz.prog 66 (([LK.int .u8] ++ ([LK.int .u16] ++ ((List.replicate 8 [LK.int .u8]).flatten ++ ([LK.int .u8] ++ ([LK.int .u32] ++ ([])))))) ++ (([LK.int .u64] ++ ((List.replicate 8 [LK.int .u8]).flatten ++ ([]))) ++ ([]))) := flat_struct U66 (.cons rfl fl61 rfl (by kernel_rfl) (.cons rfl fl64 rfl (by kernel_rfl) (.nil))) (by kernel_rfl)
theorem fl3 : Flat Tryz.prog 3 [LK.int .i64] := flat_int U3
theorem fl27 : Flat Tryz.prog 27 ([LK.int .i64] ++ ([LK.int .u16] ++ ((List.replicate 8 [LK.int .u8]).flatten ++ ([LK.int .i64] ++ ((List.replicate 8 [LK.int .u8]).flatten ++ ([])))))) := flat_struct U27 (.cons rfl fl3 rfl (by kernel_rfl) (.cons rfl fl23 rfl (by kernel_rfl) (.cons rfl fl25 rfl (by kernel_rfl) (.cons rfl fl3 rfl (by kernel_rfl) (.cons rfl fl25 rfl (by kernel_rfl) (.nil)))))) (by kernel_rfl)
theorem fl29 : Flat Tryz.prog 29 ([LK.int .u8] ++ (([LK.int .i64] ++ ([LK.int .u16] ++ ((List.replicate 8 [LK.int .u8]).flatten ++ ([LK.int .i64] ++ ((List.replicate 8 [LK.int .u8]).flatten ++ ([])))))) ++ ([LK.int .i64] ++ ([])))) := flat_struct U29 (.cons rfl fl5 rfl (by kernel_rfl) (.cons rfl fl27 rfl (by kernel_rfl) (.cons rfl fl3 rfl (by kernel_rfl) (.nil)))) (by kernel_rfl)
end Go.Proofs.YtpekghaodmeemaaGreat
namespace Go.Proofs.YtpekghaodmeemaaGreat
theorem ws_cons {c : Char} (h : c ≠ Char.ofNat 32) (x : List Char) : wordsSigns (c :: x) = (match wordsSigns x with | w :: ws => (c :: w) :: ws | [] => [[c]]) := by
  conv => lhs; unfold wordsSigns
  split
  · simp_all
  · next h1 => exact absurd (by simpa using (List.cons.inj h1).1) h
  · next h1 => obtain ⟨rfl, rfl⟩ := List.cons.inj h1; rfl
theorem ws_app (b : List Char) : ∀ (a : List Char), (∀ c ∈ a, c ≠ Char.ofNat 32) → wordsSigns (a ++ Char.ofNat 32 :: b) = a :: wordsSigns b
  | [], _ => rfl
  | c :: r, h => by
    rw [List.cons_append, ws_cons (h c (by simp)), ws_app b r (fun x hx => h x (by simp [hx]))]
/-- the head's words: harness, a sum, cut -/
theorem head_words {P : Program} {s b : List Char} (he : P.initOrder = String.ofList ("harness".toList ++ Char.ofNat 32 :: (s ++ Char.ofNat 32 :: ("cut".toList ++ Char.ofNat 32 :: b)))) (hs : isSumSigns s = true) (hb : ∀ c ∈ s, c ≠ Char.ofNat 32) :
    ∃ R, behindMainWord (wordsSigns P.initOrder.toList) = "cut".toList :: R := by
  refine ⟨wordsSigns b, ?_⟩
  rw [he, String.toList_ofList, ws_app _ _ (by decide), ws_app _ _ hb, ws_app _ _ (by decide)]
  simp only [behindMainWord, hs, beq_self_eq_true, Bool.true_or, Bool.and_self, if_true]
theorem e_gc : ("cut".toList == "gc".toList) = false := by decide
theorem e_spec : ("cut".toList == "spec".toList) = false := by decide
theorem e_car : ("cut".toList == "carried".toList) = false := by decide
theorem e_sl (R : List (List Char)) : stripLifts liftWords ("cut".toList :: R) = ([], "cut".toList :: R) := by
  have h : ∀ (l : List String), (∀ o ∈ l, ("cut".toList == o.toList) = false) → stripLifts l ("cut".toList :: R) = ([], "cut".toList :: R) := by
    intro l
    induction l with
    | nil => intro _; rfl
    | cons o os ih => intro hl; rw [stripLifts, hl o (by simp)]; simp only [Bool.false_eq_true, if_false]; exact ih fun x hx => hl x (by simp [hx])
  exact h liftWords (by decide)
section
variable {P : Program} (h : ∃ R, behindMainWord (wordsSigns P.initOrder.toList) = "cut".toList :: R)
include h
theorem make_of : P.make = some .cut := by
  obtain ⟨R, h⟩ := h
  unfold Program.make
  rw [h]
  simp only [e_gc, e_spec, beq_self_eq_true, Bool.or_self, Bool.true_or, Bool.false_eq_true, if_false, if_true]
theorem lifts_of : P.liftsFinal = false := by
  obtain ⟨R, h⟩ := h
  unfold Program.liftsFinal Program.headLifts
  rw [h, e_sl]
  show (_ || _) = false
  rfl
theorem enter_of (hl : P.laysLater = false) (hr : P.bearsReflect = false) (hd : P.doorFits [] = true) : P.mayEnter = true := by
  obtain ⟨R, h⟩ := h
  unfold Program.mayEnter
  rw [h]
  dsimp only
  rw [e_sl, hl, hr]
  simp only [hd, e_gc, e_spec, e_car, beq_self_eq_true, Bool.or_self, Bool.false_and, Bool.not_false, Bool.or_true, Bool.and_true, List.head?_cons, List.contains_nil]
end
theorem closed_of {P : Program} {f : FuncId} {fn : Func} {s : ChangeSpec} {c : OpenClaim} (hm : P.make = some .cut) (hl : P.liftsFinal = false) (he : P.mayEnter = true) (h2 : laidOutB P = true) (h3 : mapsRowed P = true) (hst : (P.stops == []) = true) (hk : (P.stopKnobs == []) = true)
    (hp : P.plainKeys = c.plainKeys) (hh : P.stopsHeard = true) (i1 : P.inPlace f = c.inPlace) (i2 : P.unfollowed f = c.unfollowed) (i3 : P.recurses f = c.recurses) (i4 : P.varsNamed f = c.named)
    (rest : (c.wf (OpenSpec.ofChange s) && fn.params.all (P.readableRec ·) && namedTie P c.named s.vars && (c.stops == []) && (c.knobs == []) &&
      (c.maps == (fn.params.toList ++ s.plain.varTypes P).any (P.mapsRec ·)) && (c.ifaces == (fn.params.toList ++ s.plain.varTypes P).any (P.ifacesRec ·)) && (c.mapsOut == P.mapsAmong fn.resultTypes.toList) &&
      (c.loops == (fn.params.toList ++ s.plain.varTypes P).any (P.loopsFrom ·)) && (c.wideKeys == (fn.params.toList ++ s.plain.varTypes P ++ fn.resultTypes.toList).any (P.wideKeysFrom ·)) &&
      s.vars.all (P.varReadable ·) && fn.resultTypes.all (fun t => P.readableRec t && decide (t < P.types.size)) && (c.ifacesOut == fn.resultTypes.toList.any (P.ifacesRec ·)) && (c.loopsOut == fn.resultTypes.toList.any (P.loopsFrom ·)) && c.shortTexts.isNone && (c.lifted == false) && (some Make.cut == some c.make) &&
      (c.kinds == (if c.domain.isEmpty then [] else fn.params.toList.map fun t => match P.underlying t with | some (.int k) => some k | _ => none)) && (c.pinned == c.pinnedBy) &&
      (c.veiled == (fn.params.toList ++ s.plain.varTypes P ++ fn.resultTypes.toList).any (P.veiledRec ·)) && c.veiledFits P fn.params.toList (fn.params.toList ++ s.plain.varTypes P ++ fn.resultTypes.toList)) = true) : joinedFacts P f fn s c = true := by
  simp only [Bool.and_eq_true] at rest
  unfold joinedFacts
  rw [hm, hl, he, h2, h3, hst, hk, hp, hh, i1, i2, i3, i4]
  simp only [beq_self_eq_true, Bool.and_eq_true, Bool.and_true]
  have hkd := rest.1.1.1.2
  simp only [rest, and_self]
  exact ⟨⟨⟨⟨trivial, hkd⟩, trivial⟩, trivial⟩, trivial⟩
end Go.Proofs.YtpekghaodmeemaaGreat
namespace Go.Proofs.YtpekghaodmeemaaGreat
def ioS : List Nat := [101, 49, 100, 50, 55, 101, 57, 54, 54, 50, 53, 99, 56, 101, 50, 52, 100, 50, 100, 56, 97, 100, 98, 57, 57, 49, 99, 56, 97, 55, 54, 101, 48, 51, 98, 98, 48, 54, 101, 56, 56, 55, 55, 52, 50, 99, 102, 53, 55, 99, 99, 57, 100, 100, 50, 48, 57, 56, 57, 97, 56, 55, 98, 52]
def ioB : List Nat := [97, 116, 32, 104, 97, 110, 100, 99, 97, 114, 116, 47, 104, 97, 110, 100, 99, 97, 114, 116, 108, 97, 119, 49, 56, 46, 83, 104, 111, 112, 82, 117, 110, 115, 32, 104, 97, 110, 100, 99, 97, 114, 116, 47, 104, 97, 110, 100, 99, 97, 114, 116, 108, 97, 119, 49, 56, 46, 83, 104, 111, 112, 82, 111, 111, 109, 32, 104, 97, 110, 100, 99, 97, 114, 116, 47, 104, 97, 110, 100, 99, 97, 114, 116, 108, 97, 119, 49, 56, 46, 83, 104, 111, 112, 68, 111, 101, 115, 32, 104, 97, 110, 100, 99, 97, 114, 116, 47, 104, 97, 110, 100, 99, 97, 114, 116, 108, 97, 119, 49, 56, 46, 83, 104, 111, 112, 82, 101, 97, 100, 115]
theorem io_eq : Tryz.prog.initOrder = String.ofList ("harness".toList ++ Char.ofNat 32 :: (ioS.map Char.ofNat ++ Char.ofNat 32 :: ("cut".toList ++ Char.ofNat 32 :: ioB.map Char.ofNat))) := by kernel_rfl
theorem io_sum : isSumSigns (ioS.map Char.ofNat) = true := by kernel_rfl
theorem io_hd : ∃ R, behindMainWord (wordsSigns Tryz.prog.initOrder.toList) = "cut".toList :: R := head_words io_eq io_sum (by decide)
theorem p_make : Tryz.prog.make = some .cut := make_of io_hd
theorem p_lifts : Tryz.prog.liftsFinal = false := lifts_of io_hd
theorem p_ll : Tryz.prog.laysLater = false := by kernel_rfl
theorem p_br : Tryz.prog.bearsReflect = false := by kernel_rfl
theorem p_df : Tryz.prog.doorFits [] = true := by kernel_rfl
theorem p_enter : Tryz.prog.mayEnter = true := enter_of io_hd p_ll p_br p_df
theorem p_rowed : mapsRowed Tryz.prog = true := by kernel_rfl
theorem p_stops : (Tryz.prog.stops == []) = true := by kernel_rfl
theorem p_knobs : (Tryz.prog.stopKnobs == []) = true := by kernel_rfl
theorem p_keys : Tryz.prog.plainKeys = false := by kernel_rfl
theorem p_heard : Tryz.prog.stopsHeard = true := by kernel_rfl
end Go.Proofs.YtpekghaodmeemaaGreat
