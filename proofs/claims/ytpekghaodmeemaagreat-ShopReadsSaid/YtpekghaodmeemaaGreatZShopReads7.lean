/- Rules, plain words and walks that the claim leans on: Sc, Sw, Sz, Sl, Sm, Szz, Saa, Sbb, Sbc, Sbd, Lzopen, Lzopen6, Tb, Vj, Tc. -/
import Derived.Test.YtpekghaodmeemaaGreatZShopReads6
set_option linter.unusedSimpArgs false
set_option linter.unusedVariables false
set_option linter.unusedSimpArgs false
set_option linter.unusedVariables false
set_option maxHeartbeats 2000000
set_option maxRecDepth 100000
namespace Go.Proofs.YtpekghaodmeemaaGreat
open Go.RowKit
theorem c_ref14Items (w0 : World) (A : Option Addr) (c : Nat) (l : List (List Int)) (hr : Rd w0 A 21 l.length (arows l)) (hv : AOks l) (hn : l.length ≤ 1000000000) (ct : Nat) (hct : ct < 65536)  :
    CallR Tryz.prog 48 #[.slice A l.length c, .int .u16 (ct : Int)] w0 fun v w' => ∃ (O : Option Addr) (oc : Nat), v = .slice O (itmS (normP l) ct).length oc ∧ St NoB w0 w' [.vec O oc 25 8 (itmS (normP l) ct).length (nrows (itmS (normP l) ct))] := by
 have hS := St.rd1 (S := NoB) hr
 have hsn := norm_sta hv
 have hno := hsn.ok
 have hnb := norm_len l
 have hnl := arows_len (normP l)
 refine c_enter (l := [.slice A l.length c, .int .u16 (ct : Int), undef, undef, undef, undef, undef, undef, undef, undef, undef, undef, undef, undef, undef, undef, undef, undef, undef, undef, undef, undef, undef, undef, undef, undef, undef, undef, undef, undef, undef, undef, undef, undef, undef, undef, undef, undef, undef, undef, undef, undef, undef, undef, undef, undef, undef, undef, undef, undef, undef, undef, undef, undef, undef, undef, undef, undef, undef, undef, undef]) Tryz.func48 rfl (by simp only [Tryz.ntmps48, List.size_toArray, List.length_cons, List.length_nil, Nat.reduceAdd, Nat.reduceSub, Array.replicate_succ, Array.replicate_zero, List.push_toArray, List.append_toArray, List.nil_append, List.cons_append]) ?_
 refine x_seq fun K1 hK1 => x_region ?_
 refine s_go s_assign ?_
 try simp only [nY]
 refine x_nil (hK1 _ _ ?_)
 refine x_seq fun K2 hK2 => x_region ?_
 refine s_go s_move ?_
 try simp only [nY]
 refine s_call en12 ?_
 try simp only [nY, mY]
 refine CallR.mono (c_ref10Norm _ A c l (hS.hasRd (by repeat (exact Has.head))) hv hn) ?_
 rintro _ w1 ⟨Bn, cn, rfl, hR1⟩
 replace hS := hS.back hR1
 try simp only [nY]
 refine s_go s_assign ?_
 try simp only [nY]
 refine x_nil (hK2 _ _ ?_)
 refine x_seq fun K3 hK3 => x_region ?_
 refine s_go s_assign ?_
 try simp only [nY]
 refine x_nil (hK3 _ _ ?_)
 refine x_seq fun K4 hK4 => ?_
 refine x_seq fun K5 hK5 => x_region ?_
 refine s_go s_assign ?_
 try simp only [nY]
 refine x_nil (hK5 _ _ ?_)
 refine x_block ?_
 refine x_loop [5, 6, 7, 10, 11, 12, 13, 14, 15, 16, 17, 18, 19, 20, 21, 22, 23, 24, 25, 26, 27, 28, 29, 30, 31, 32, 33, 34, 35, 36, 37, 38, 39, 40, 41, 42, 43, 44, 45, 46, 47, 48, 49, 50, 51, 52, 53, 54, 55, 56, 57, 58, 59] (fun m f w => ∃ (k : Nat) (O : Option Addr) (oc : Nat), k ≤ (normP l).length ∧ m = (normP l).length - k ∧ f 6 = .int .i64 (k : Int) ∧ f 5 = .slice O (adjS (nmsS ((normP l).take k) ct)).length oc ∧ St NoB w0 w [.vec O oc 25 8 ((adjS (nmsS ((normP l).take k) ct))).length (nrows ((adjS (nmsS ((normP l).take k) ct)))), .rd Bn 21 (normP l).length (arows (normP l))]) ((normP l).length) ?init1 (fun m1 f1 wl1 hI => ?_)
 case init1 =>
  try simp only [nY]
  replace hS := hS.nil_vec 25 8
  exact ⟨0, none, 0, by omega, rfl, rfl, rfl, hS.sel (by repeat (first | exact Sel.nil | (refine Sel.cons (by repeat (exact Del.head)) ?_)))⟩
 obtain ⟨k, O, oc, hk0, hmk, hf6, hf5, hS⟩ := hI
 simp only [clob, List.foldl, n3, n4, hf6, hf5]
 obtain ⟨x, hx⟩ : ∃ x, (normP l).getD k [] = x := ⟨_, rfl⟩
 have hol : (adjS (nmsS ((normP l).take k) ct)).length ≤ k := Nat.le_trans (adj_len _) (Nat.le_trans (nms_len _ _) (by rw [List.length_take]; omega))
 have ho8 := adj_eight (nms_eight (hno.take k) ct)
 obtain ⟨o, hoe⟩ : ∃ o, (adjS (nmsS ((normP l).take k) ct)) = o := ⟨_, rfl⟩
 rw [hoe] at hS hol ho8
 simp only [hoe]
 have honl := nrows_len o
 refine x_seq fun K6 hK6 => ?_
 refine x_seq fun K7 hK7 => x_region ?_
 refine s_go s_move ?_
 try simp only [nY]
 refine s_go s_move ?_
 try simp only [nY]
 refine s_go (s_len_sl U22) ?_
 try simp only [nY]
 refine s_go s_lss ?_
 try simp only [nY]
 refine x_nil (hK7 _ _ ?_)
 refine x_cond (ht := fun hc1 => ?_) (hf := fun hc1 => ?_)
 ·
  try simp only [dY] at hc1
  have ha : AtomOk x := by rw [← hx]; exact hno.get (by omega)
  have hal := ha.len
  have hkx := ha.key
  have hk12 := hkx.len
  have hvx := ha.val
  have hk01 := akey_k hal
  have hil := kitem_len hkx.len
  have hnt := nms_take (c := ct) (k := k) (by omega) hx
  have hlv : liveQ ct x = (decide (kn x 0 = 1) && decide (kn x 1 = ct) && decide (kn (aval x) 0 = 1)) := rfl
  have hno_ : liveQ ct x = false → (adjS (nmsS ((normP l).take (k + 1)) ct)) = o := fun h => by rw [hnt.2 h, hoe]
  have hyes : liveQ ct x = true → (adjS (nmsS ((normP l).take (k + 1)) ct)) = adjF o (kitem (akey x)) := fun h => by rw [hnt.1 h, adj_snoc, hoe]
  refine x_skip ?_
  refine hK6 _ _ ?_
  refine x_seq fun K8 hK8 => ?_
  refine x_block ?_
  refine x_seq fun K9 hK9 => x_region ?_
  refine s_go s_move ?_
  try simp only [nY]
  refine s_go s_move ?_
  try simp only [nY]
  refine s_go (m_indexAddr_rd U22 ti66 (hS := hS)) ?_
  try simp only [nY, Nat.mul_one, Nat.zero_add, Int.toNat_natCast, Int.reduceToNat]
  refine s_go (m_fieldAddr_rd U66 (hi := ti61) (hS := hS)) ?_
  try simp only [nY, fY, gY]
  refine s_go (m_loada_rd U61 (hi := ti61) (hS := hS) (hfit := by rw [arows_len]; omega)) ?_
  try simp only [nY, gY]
  rw [arow_key (by omega) hno, hx]
  refine m_alloc ti61 hS (fun w2 g2 hS => ?_)
  try simp only [nY, aY] at hS ⊢
  have h0l : key0.length = 12 := rfl
  replace hS : St _ _ w2 (.obj g2 (.cells (KA key0) 61 (0, 0)) :: _) := hS
  refine m_store_obj ti61 (hS := hS) (hc := by exact zi_whole (by omega) (by omega)) (hv := by (show (zi _ _).toArray.size = _; rw [zi_size (by omega)]; rfl)) (hfit := by (rw [zi_size (by omega)]; decide)) (h1 := by exact zi_one _ _) (h := fun w3 hS => ?_)
  try simp only [nY, aY] at hS ⊢
  refine x_nil (hK9 _ _ ?_)
  refine x_seq fun K10 hK10 => ?_
  refine x_quiet (by kernel_rfl) (by kernel_rfl) hS ?_
  refine q_go (fun w hS => m_fieldAddr U61 (hi := ti5)) ?_
  try simp only [nY, fY, gY]
  refine q_go (fun w hS => m_load_obj U5 (hS := hS) (hv := by exact zi_get rfl (by omega))) ?_
  try simp only [nY, gY]
  rw [hkx.e0, hk01.1]
  refine q_go (fun w hS => s_eql) ?_
  try simp only [nY]
  refine q_go (fun w hS => s_move) ?_
  try simp only [nY]
  refine q_part 24 rfl (fun hp1 => ?_) (fun hp1 => ?_)
  ·
   try simp only [n3, n4]
   try simp only [dZ, ne_eq] at hp1
   have q1 : decide (kn x 0 = 1) = true := decide_eq_true (by omega)
   refine q_on (yi (t := 24) rfl rfl) ?_
   refine q_go (fun w hS => m_fieldAddr U61 (hi := ti23)) ?_
   try simp only [nY, fY, gY]
   refine q_on (yi (t := 24) rfl rfl) ?_
   refine q_go (fun w hS => m_load_obj U23 (hS := hS) (hv := by exact zi_get rfl (by omega))) ?_
   try simp only [nY, gY]
   rw [hkx.e1, hk01.2]
   refine q_on (yi (t := 24) rfl rfl) ?_
   refine q_go (fun w hS => s_move) ?_
   try simp only [nY]
   refine q_on (yi (t := 24) rfl rfl) ?_
   refine q_go (fun w hS => s_eql) ?_
   try simp only [nY]
   refine q_go (fun w hS => s_pick_t) ?_
   try simp only [nY]
   refine q_go (fun w hS => s_move) ?_
   try simp only [nY]
   refine q_part 30 rfl (fun hp2 => ?_) (fun hp2 => ?_)
   ·
    try simp only [n3, n4]
    try simp only [dZ, ne_eq] at hp2
    have q2 : decide (kn x 1 = ct) = true := decide_eq_true (by omega)
    refine q_on (yi (t := 30) rfl rfl) ?_
    refine q_go (fun w hS => s_move) ?_
    try simp only [nY]
    refine q_on (yi (t := 30) rfl rfl) ?_
    refine q_go (fun w hS => s_move) ?_
    try simp only [nY]
    refine q_on (yi (t := 30) rfl rfl) ?_
    refine q_go (fun w hS => m_indexAddr_rd U22 ti66 (hS := hS)) ?_
    try simp only [nY, Nat.mul_one, Nat.zero_add, Int.toNat_natCast, Int.reduceToNat]
    refine q_on (yi (t := 30) rfl rfl) ?_
    refine q_go (fun w hS => m_fieldAddr_rd U66 (hi := ti64) (hS := hS)) ?_
    try simp only [nY, fY, gY]
    refine q_on (yi (t := 30) rfl rfl) ?_
    refine q_go (fun w hS => m_fieldAddr_rd U64 (hi := ti62) (hS := hS)) ?_
    try simp only [nY, fY, gY]
    refine q_on (yi (t := 30) rfl rfl) ?_
    refine q_go (fun w hS => m_load_rd U62 (hS := hS) (hv := arow_num (by omega) hno)) ?_
    try simp only [nY, gY]
    rw [hx, hvx.e0]
    refine q_on (yi (t := 30) rfl rfl) ?_
    refine q_go (fun w hS => s_eql) ?_
    try simp only [nY]
    refine q_go (fun w hS => s_pick_t) ?_
    try simp only [nY]
    refine q_go (fun w hS => s_move) ?_
    try simp only [nY]
    refine q_part 39 rfl (fun hp3 => ?_) (fun hp3 => ?_)
    ·
     try simp only [n3, n4]
     try simp only [dZ, ne_eq] at hp3
     have q3 : decide (kn (aval x) 0 = 1) = true := decide_eq_true (by omega)
     have hyy := hyes (by rw [hlv, q1, q2, q3]; rfl)
     refine q_on (yi (t := 39) rfl rfl) ?_
     refine q_go (fun w hS => s_move) ?_
     try simp only [nY]
     refine q_on (yi (t := 39) rfl rfl) ?_
     refine q_go (fun w hS => s_len_sl U89) ?_
     try simp only [nY]
     refine q_on (yi (t := 39) rfl rfl) ?_
     refine q_go (fun w hS => s_eql) ?_
     try simp only [nY]
     refine q_on (yi (t := 39) rfl rfl) ?_
     refine q_go (fun w hS => s_move) ?_
     try simp only [nY]
     refine q_part 43 rfl (fun hp4 => ?_) (fun hp4 => ?_)
     ·
      try simp only [n3, n4]
      try simp only [dZ, ne_eq] at hp4
      have hst : (adjS (nmsS ((normP l).take (k + 1)) ct)) = o ++ [kitem (akey x)] := by rw [hyy, adjF, List.eq_nil_of_length_eq_zero (show o.length = 0 by omega)]; rfl
      refine q_off (yi (t := 43) rfl rfl) ?_
      try simp only [nY]
      refine q_off (yi (t := 43) rfl rfl) ?_
      try simp only [nY]
      refine q_off (yi (t := 43) rfl rfl) ?_
      try simp only [nY]
      refine q_off (yi (t := 43) rfl rfl) ?_
      try simp only [nY]
      refine q_off (yi (t := 43) rfl rfl) ?_
      try simp only [nY]
      refine q_off (yi (t := 43) rfl rfl) ?_
      try simp only [nY]
      refine q_off (yi (t := 43) rfl rfl) ?_
      try simp only [nY]
      refine q_off (yi (t := 43) rfl rfl) ?_
      try simp only [nY]
      refine q_off (yi (t := 43) rfl rfl) ?_
      try simp only [nY]
      refine q_on (yi (t := 39) rfl rfl) ?_
      refine q_go (fun w hS => s_pick_t) ?_
      try simp only [nY]
      refine q_go (fun w hS => s_pick_t) ?_
      try simp only [nY]
      clear hS
      refine q_nil fun w4 hS => ?_
      refine hK10 _ _ ?_
      refine x_cond_t (h := ?_)
      try have hst : (adjS (nmsS ((normP l).take (k + 1)) ct)) = o ++ [kitem (akey x)] := by rw [hyy, adjF, if_neg (fun q => by rw [hlg] at q; simp [q] at @c)]
      refine x_region ?_
      refine s_go s_move ?_
      try simp only [nY]
      refine s_go (m_fieldAddr U61 (hi := ti25)) ?_
      try simp only [nY, fY, gY]
      refine s_go (m_loada_obj U25 (hi := ti25) (hS := hS) (hfit := by (rw [zi_size (by omega)]; decide))) ?_
      try simp only [nY, gY]
      rw [key_item hk12]
      refine m_buildRow (cells := (ic .u8 (kitem (akey x)))) U89 ti25 (hc := by simp only [List.map_toArray, List.map_cons, List.map_nil, nY, List.toList_toArray]; exact fill_one (by rfl) (by rw [ic_size]; exact hil) (by rfl)) (hS := hS) (h := fun w5 g5 hS => ?_)
      try simp only [nY, aY] at hS ⊢
      replace hS := hS.obj_rd (sz := 8) (n := 1) (by rw [ic_size]; exact hil) .head
      rw [nrow_one hil] at hS
      refine m_append U89 ti25 (hS := hS) (h1 := rowsZ_cells _ _) (h := fun w6 A6 C6 hS => ?_)
      try simp only [← List.map_append, ← List.map_drop, ← List.map_take, Nat.mul_one, Nat.zero_mul, Nat.sub_zero, List.drop_zero, List.nil_append, Nat.zero_add] at hS ⊢
      try simp only [nY, aY] at hS ⊢
      rw [nadd_one] at hS
      refine s_go s_assign ?_
      try simp only [nY]
      refine x_nil (hK8 _ _ ?_)
      refine x_region ?_
      refine s_go s_move ?_
      try simp only [nY]
      refine s_go (s_add (hc := by exact wr_i64 (by omega) (by omega))) ?_
      try simp only [nY]
      refine s_go s_assign ?_
      try simp only [nY]
      refine x_nil ?_
      refine loop_back (m' := (normP l).length - (k + 1)) (by simp only [clob, List.foldl, nZ]) ?_ ?_
      · try simp only [nY]
        exact ⟨k + 1, _, _, by omega, by omega, by rfl, by rw [hst, List.length_append]; rfl, by rw [hst, List.length_append]; exact hS.selA⟩
      · omega
     try simp only [n3, n4]
     try simp only [dZ, ne_eq] at hp4
     have hol0 : 0 < o.length := by omega
     obtain ⟨y, hy⟩ : ∃ y, o.getD (o.length - 1) [] = y := ⟨_, rfl⟩
     have hy8 : y.length = 8 := by rw [← hy]; exact ho8 _ (getD_mem' (by omega))
     have hlg := last_get (x := kitem (akey x)) hol0
     rw [hy] at hlg
     refine q_on (yi (t := 43) rfl rfl) ?_
     refine q_go (fun w hS => s_move) ?_
     try simp only [nY]
     refine q_on (yi (t := 43) rfl rfl) ?_
     refine q_go (fun w hS => s_move) ?_
     try simp only [nY]
     refine q_on (yi (t := 43) rfl rfl) ?_
     refine q_go (fun w hS => s_len_sl U89) ?_
     try simp only [nY]
     refine q_on (yi (t := 43) rfl rfl) ?_
     refine q_go (fun w hS => s_sub (hc := by exact wr_i64 (by omega) (by omega))) ?_
     try simp only [nY]
     rw [show ((o.length : Nat) : Int) - 1 = ((o.length - 1 : Nat) : Int) by omega]
     refine q_on (yi (t := 43) rfl rfl) ?_
     refine q_go (fun w hS => m_indexAddr_vec U89 ti25 (hS := hS)) ?_
     try simp only [nY, Nat.mul_one, Nat.zero_add, Int.toNat_natCast, Int.reduceToNat]
     refine q_on (yi (t := 43) rfl rfl) ?_
     refine q_go (fun w hS => m_loada_vec U25 (hi := ti25) (hS := hS) (hfit := by rw [nrows_len]; omega)) ?_
     try simp only [nY, gY]
     rw [nrow_get (by omega) ho8, hy]
     refine q_on (yi (t := 43) rfl rfl) ?_
     refine q_go (fun w hS => m_fieldAddr U61 (hi := ti25)) ?_
     try simp only [nY, fY, gY]
     refine q_on (yi (t := 43) rfl rfl) ?_
     refine q_go (fun w hS => m_loada_obj U25 (hi := ti25) (hS := hS) (hfit := by (rw [zi_size (by omega)]; decide))) ?_
     try simp only [nY, gY]
     rw [key_item hk12]
     refine q_on (yi (t := 43) rfl rfl) ?_
     refine q_go (fun w hS => s_neq_agg eqv25 (hg := eg25) (hX := zi_ic (by assumption)) (hY := zi_ic (by assumption)) (h1 := by assumption) (h2 := by assumption)) ?_
     try simp only [nY]
     refine q_on (yi (t := 39) rfl rfl) ?_
     refine q_go (fun w hS => s_pick_f) ?_
     try simp only [nY]
     refine q_go (fun w hS => s_pick_t) ?_
     try simp only [nY]
     clear hS
     refine q_nil fun w7 hS => ?_
     refine hK10 _ _ ?_
     refine x_cond (ht := fun hc3 => ?_) (hf := fun hc3 => ?_)
     ·
      try simp only [dY] at hc3
      try have hst : (adjS (nmsS ((normP l).take (k + 1)) ct)) = o ++ [kitem (akey x)] := by rw [hyy, adjF, if_neg (fun q => by rw [hlg] at q; simp [q] at hc3)]
      refine x_region ?_
      refine s_go s_move ?_
      try simp only [nY]
      refine s_go (m_fieldAddr U61 (hi := ti25)) ?_
      try simp only [nY, fY, gY]
      refine s_go (m_loada_obj U25 (hi := ti25) (hS := hS) (hfit := by (rw [zi_size (by omega)]; decide))) ?_
      try simp only [nY, gY]
      rw [key_item hk12]
      refine m_buildRow (cells := (ic .u8 (kitem (akey x)))) U89 ti25 (hc := by simp only [List.map_toArray, List.map_cons, List.map_nil, nY, List.toList_toArray]; exact fill_one (by rfl) (by rw [ic_size]; exact hil) (by rfl)) (hS := hS) (h := fun w8 g8 hS => ?_)
      try simp only [nY, aY] at hS ⊢
      replace hS := hS.obj_rd (sz := 8) (n := 1) (by rw [ic_size]; exact hil) .head
      rw [nrow_one hil] at hS
      refine m_append U89 ti25 (hS := hS) (h1 := rowsZ_cells _ _) (h := fun w9 A9 C9 hS => ?_)
      try simp only [← List.map_append, ← List.map_drop, ← List.map_take, Nat.mul_one, Nat.zero_mul, Nat.sub_zero, List.drop_zero, List.nil_append, Nat.zero_add] at hS ⊢
      try simp only [nY, aY] at hS ⊢
      rw [nadd_one] at hS
      refine s_go s_assign ?_
      try simp only [nY]
      refine x_nil (hK8 _ _ ?_)
      refine x_region ?_
      refine s_go s_move ?_
      try simp only [nY]
      refine s_go (s_add (hc := by exact wr_i64 (by omega) (by omega))) ?_
      try simp only [nY]
      refine s_go s_assign ?_
      try simp only [nY]
      refine x_nil ?_
      refine loop_back (m' := (normP l).length - (k + 1)) (by simp only [clob, List.foldl, nZ]) ?_ ?_
      · try simp only [nY]
        exact ⟨k + 1, _, _, by omega, by omega, by rfl, by rw [hst, List.length_append]; rfl, by rw [hst, List.length_append]; exact hS.selA⟩
      · omega
     try simp only [dY] at hc3
     try have hst : (adjS (nmsS ((normP l).take (k + 1)) ct)) = o := by rw [hyy, adjF, if_pos (by rw [hlg]; simpa using hc3)]
     refine x_skip ?_
     refine hK8 _ _ ?_
     refine x_region ?_
     refine s_go s_move ?_
     try simp only [nY]
     refine s_go (s_add (hc := by exact wr_i64 (by omega) (by omega))) ?_
     try simp only [nY]
     refine s_go s_assign ?_
     try simp only [nY]
     refine x_nil ?_
     refine loop_back (m' := (normP l).length - (k + 1)) (by simp only [clob, List.foldl, nZ]) ?_ ?_
     · try simp only [nY]
       exact ⟨k + 1, _, _, by omega, by omega, by rfl, by rw [hst], by rw [hst]; exact hS.selA⟩
     · omega
    try simp only [n3, n4]
    try simp only [dZ, ne_eq] at hp3
    try have hst := hno_ (by rw [hlv, q1, q2, decide_eq_false (show ¬ kn (aval x) 0 = 1 by omega)]; rfl)
    refine q_off (yi (t := 39) rfl rfl) ?_
    try simp only [nY]
    refine q_off (yi (t := 39) rfl rfl) ?_
    try simp only [nY]
    refine q_off (yi (t := 39) rfl rfl) ?_
    try simp only [nY]
    refine q_off (yi (t := 39) rfl rfl) ?_
    try simp only [nY]
    refine q_un (yn (t := 43) rfl rfl) ?_
    try simp only [nY]
    refine q_un (yn (t := 43) rfl rfl) ?_
    try simp only [nY]
    refine q_un (yn (t := 43) rfl rfl) ?_
    try simp only [nY]
    refine q_un (yn (t := 43) rfl rfl) ?_
    try simp only [nY]
    refine q_un (yn (t := 43) rfl rfl) ?_
    try simp only [nY]
    refine q_un (yn (t := 43) rfl rfl) ?_
    try simp only [nY]
    refine q_un (yn (t := 43) rfl rfl) ?_
    try simp only [nY]
    refine q_un (yn (t := 43) rfl rfl) ?_
    try simp only [nY]
    refine q_un (yn (t := 43) rfl rfl) ?_
    try simp only [nY]
    refine q_off (yi (t := 39) rfl rfl) ?_
    try simp only [nY]
    refine q_go (fun w hS => s_pick_f) ?_
    try simp only [nY]
    clear hS
    refine q_nil fun w10 hS => ?_
    refine hK10 _ _ ?_
    refine x_cond_f (h := ?_)
    try have hst : (adjS (nmsS ((normP l).take (k + 1)) ct)) = o := by rw [hyy, adjF, if_pos (by rw [hlg]; simpa using @c)]
    refine x_skip ?_
    refine hK8 _ _ ?_
    refine x_region ?_
    refine s_go s_move ?_
    try simp only [nY]
    refine s_go (s_add (hc := by exact wr_i64 (by omega) (by omega))) ?_
    try simp only [nY]
    refine s_go s_assign ?_
    try simp only [nY]
    refine x_nil ?_
    refine loop_back (m' := (normP l).length - (k + 1)) (by simp only [clob, List.foldl, nZ]) ?_ ?_
    · try simp only [nY]
      exact ⟨k + 1, _, _, by omega, by omega, by rfl, by rw [hst], by rw [hst]; exact hS.selA⟩
    · omega
   try simp only [n3, n4]
   try simp only [dZ, ne_eq] at hp2
   try have hst := hno_ (by rw [hlv, q1, decide_eq_false (show ¬ kn x 1 = ct by omega)]; rfl)
   refine q_off (yi (t := 30) rfl rfl) ?_
   try simp only [nY]
   refine q_off (yi (t := 30) rfl rfl) ?_
   try simp only [nY]
   refine q_off (yi (t := 30) rfl rfl) ?_
   try simp only [nY]
   refine q_off (yi (t := 30) rfl rfl) ?_
   try simp only [nY]
   refine q_off (yi (t := 30) rfl rfl) ?_
   try simp only [nY]
   refine q_off (yi (t := 30) rfl rfl) ?_
   try simp only [nY]
   refine q_off (yi (t := 30) rfl rfl) ?_
   try simp only [nY]
   refine q_go (fun w hS => s_pick_f) ?_
   try simp only [nY]
   refine q_go (fun w hS => s_move) ?_
   try simp only [nY]
   refine q_off (yi (t := 39) rfl rfl) ?_
   try simp only [nY]
   refine q_off (yi (t := 39) rfl rfl) ?_
   try simp only [nY]
   refine q_off (yi (t := 39) rfl rfl) ?_
   try simp only [nY]
   refine q_off (yi (t := 39) rfl rfl) ?_
   try simp only [nY]
   refine q_un (yn (t := 43) rfl rfl) ?_
   try simp only [nY]
   refine q_un (yn (t := 43) rfl rfl) ?_
   try simp only [nY]
   refine q_un (yn (t := 43) rfl rfl) ?_
   try simp only [nY]
   refine q_un (yn (t := 43) rfl rfl) ?_
   try simp only [nY]
   refine q_un (yn (t := 43) rfl rfl) ?_
   try simp only [nY]
   refine q_un (yn (t := 43) rfl rfl) ?_
   try simp only [nY]
   refine q_un (yn (t := 43) rfl rfl) ?_
   try simp only [nY]
   refine q_un (yn (t := 43) rfl rfl) ?_
   try simp only [nY]
   refine q_un (yn (t := 43) rfl rfl) ?_
   try simp only [nY]
   refine q_off (yi (t := 39) rfl rfl) ?_
   try simp only [nY]
   refine q_go (fun w hS => s_pick_f) ?_
   try simp only [nY]
   clear hS
   refine q_nil fun w11 hS => ?_
   refine hK10 _ _ ?_
   refine x_cond_f (h := ?_)
   try have hst : (adjS (nmsS ((normP l).take (k + 1)) ct)) = o := by rw [hyy, adjF, if_pos (by rw [hlg]; simpa using @c)]
   refine x_skip ?_
   refine hK8 _ _ ?_
   refine x_region ?_
   refine s_go s_move ?_
   try simp only [nY]
   refine s_go (s_add (hc := by exact wr_i64 (by omega) (by omega))) ?_
   try simp only [nY]
   refine s_go s_assign ?_
   try simp only [nY]
   refine x_nil ?_
   refine loop_back (m' := (normP l).length - (k + 1)) (by simp only [clob, List.foldl, nZ]) ?_ ?_
   · try simp only [nY]
     exact ⟨k + 1, _, _, by omega, by omega, by rfl, by rw [hst], by rw [hst]; exact hS.selA⟩
   · omega
  try simp only [n3, n4]
  try simp only [dZ, ne_eq] at hp1
  have hst := hno_ (by rw [hlv, decide_eq_false (show ¬ kn x 0 = 1 by omega)]; rfl)
  refine q_off (yi (t := 24) rfl rfl) ?_
  try simp only [nY]
  refine q_off (yi (t := 24) rfl rfl) ?_
  try simp only [nY]
  refine q_off (yi (t := 24) rfl rfl) ?_
  try simp only [nY]
  refine q_off (yi (t := 24) rfl rfl) ?_
  try simp only [nY]
  refine q_go (fun w hS => s_pick_f) ?_
  try simp only [nY]
  refine q_go (fun w hS => s_move) ?_
  try simp only [nY]
  refine q_off (yi (t := 30) rfl rfl) ?_
  try simp only [nY]
  refine q_off (yi (t := 30) rfl rfl) ?_
  try simp only [nY]
  refine q_off (yi (t := 30) rfl rfl) ?_
  try simp only [nY]
  refine q_off (yi (t := 30) rfl rfl) ?_
  try simp only [nY]
  refine q_off (yi (t := 30) rfl rfl) ?_
  try simp only [nY]
  refine q_off (yi (t := 30) rfl rfl) ?_
  try simp only [nY]
  refine q_off (yi (t := 30) rfl rfl) ?_
  try simp only [nY]
  refine q_go (fun w hS => s_pick_f) ?_
  try simp only [nY]
  refine q_go (fun w hS => s_move) ?_
  try simp only [nY]
  refine q_off (yi (t := 39) rfl rfl) ?_
  try simp only [nY]
  refine q_off (yi (t := 39) rfl rfl) ?_
  try simp only [nY]
  refine q_off (yi (t := 39) rfl rfl) ?_
  try simp only [nY]
  refine q_off (yi (t := 39) rfl rfl) ?_
  try simp only [nY]
  refine q_un (yn (t := 43) rfl rfl) ?_
  try simp only [nY]
  refine q_un (yn (t := 43) rfl rfl) ?_
  try simp only [nY]
  refine q_un (yn (t := 43) rfl rfl) ?_
  try simp only [nY]
  refine q_un (yn (t := 43) rfl rfl) ?_
  try simp only [nY]
  refine q_un (yn (t := 43) rfl rfl) ?_
  try simp only [nY]
  refine q_un (yn (t := 43) rfl rfl) ?_
  try simp only [nY]
  refine q_un (yn (t := 43) rfl rfl) ?_
  try simp only [nY]
  refine q_un (yn (t := 43) rfl rfl) ?_
  try simp only [nY]
  refine q_un (yn (t := 43) rfl rfl) ?_
  try simp only [nY]
  refine q_off (yi (t := 39) rfl rfl) ?_
  try simp only [nY]
  refine q_go (fun w hS => s_pick_f) ?_
  try simp only [nY]
  clear hS
  refine q_nil fun w12 hS => ?_
  refine hK10 _ _ ?_
  refine x_cond_f (h := ?_)
  try have hst : (adjS (nmsS ((normP l).take (k + 1)) ct)) = o := by rw [hyy, adjF, if_pos (by rw [hlg]; simpa using @c)]
  refine x_skip ?_
  refine hK8 _ _ ?_
  refine x_region ?_
  refine s_go s_move ?_
  try simp only [nY]
  refine s_go (s_add (hc := by exact wr_i64 (by omega) (by omega))) ?_
  try simp only [nY]
  refine s_go s_assign ?_
  try simp only [nY]
  refine x_nil ?_
  refine loop_back (m' := (normP l).length - (k + 1)) (by simp only [clob, List.foldl, nZ]) ?_ ?_
  · try simp only [nY]
    exact ⟨k + 1, _, _, by omega, by omega, by rfl, by rw [hst], by rw [hst]; exact hS.selA⟩
  · omega
 try simp only [dY] at hc1
 obtain rfl : k = (normP l).length := by omega
 rw [List.take_of_length_le (Nat.le_refl _), adj_itm hsn] at hoe
 subst hoe
 refine x_exit (look_here ?_)
 refine hK4 _ _ ?_
 refine x_seq fun K11 hK11 => x_region ?_
 refine s_go s_move ?_
 try simp only [nY]
 refine s_go s_assign ?_
 try simp only [nY]
 refine x_nil (hK11 _ _ ?_)
 refine x_ret (r_tmp rfl ?_)
 exact ⟨_, _, rfl, hS.sel (by repeat (first | exact Sel.nil | (refine Sel.cons (by repeat (exact Del.head)) ?_)))⟩
end Go.Proofs.YtpekghaodmeemaaGreat
set_option linter.unusedSimpArgs false
set_option linter.unusedVariables false
set_option maxHeartbeats 400000
set_option maxRecDepth 100000
namespace Go.Proofs.YtpekghaodmeemaaGreat
open Go.RowKit
theorem c_shopDo (w0 : World) (A : Option Addr) (c : Nat) (l : List (List Int)) (hr : Rd w0 A 21 l.length (arows l)) (hv : AOks l) (hn : l.length ≤ 40000000) (m : Int) (r : Nat) (hr8 : r < 256) (x : List Int) (hx : OpOk x)  :
    CallR Tryz.prog 13 #[.slice A l.length c, .int .i64 m, .int .u8 (r : Int), .agg (OA x)] w0 fun v w' => ∃ (O : Option Addr) (oc : Nat), v = .tuple #[.slice O (dP (normP l) m r x).length oc, .int .i64 (dE (normP l) m r x)] ∧ St NoB w0 w' [.vec O oc 66 21 (dP (normP l) m r x).length (arows (dP (normP l) m r x))] := by
 obtain ⟨s, hs⟩ : ∃ s, normP l = s := ⟨_, rfl⟩
 have hst := norm_sta hv
 have hnb := norm_len l
 rw [hs] at hst hnb ⊢
 have hso := hst.ok
 have hsl : s.length ≤ 40000000 := by omega
 have hS := St.rd1 (S := NoB) hr
 have hxl := hx.len
 have hil := op_il hxl
 have htl := op_tl hxl
 have hk1 := hx.k1
 have hk2 := hx.k2
 have hm1 := hx.m1
 have hm2 := hx.m2
 have hbi := hx.item
 have hbt := hx.text
 have hcx := hx.b1
 have hxs := op_size hxl
 refine d_enter (pn := DPN s m r x w0) (l := [.slice A l.length c, .int .i64 m, .int .u8 (r : Int), .agg (OA x), undef, undef, undef, undef, undef, undef, undef, undef, undef, undef, undef, undef, undef, undef, undef, undef, undef, undef, undef, undef, undef, undef, undef, undef, undef, undef, undef, undef, undef, undef, undef, undef, undef, undef, undef, undef, undef, undef, undef, undef, undef, undef, undef, undef, undef, undef, undef, undef, undef, undef, undef, undef, undef, undef, undef]) Tryz.func13 rfl (by simp only [Tryz.ntmps13, List.size_toArray, List.length_cons, List.length_nil, Nat.reduceAdd, Nat.reduceSub, Array.replicate_succ, Array.replicate_zero, List.push_toArray, List.append_toArray, List.nil_append, List.cons_append]) ?_ ?pnok
 case pnok =>
  exact fun a v w h => do_pan a v w h
 refine z_seq fun K1 hK1 => ?_
 refine z_region ?_
 refine m_box hS (fun w1 g1 hS => ?_)
 try simp only [nY, aY] at hS ⊢
 obtain ⟨gx, hgx⟩ : ∃ z, z = g1 := ⟨_, rfl⟩
 rw [← hgx] at hS ⊢
 refine m_alloc ti22 hS (fun w2 g2 hS => ?_)
 try simp only [nY, aY] at hS ⊢
 obtain ⟨gd, hgd⟩ : ∃ z, z = g2 := ⟨_, rfl⟩
 rw [← hgd] at hS ⊢
 refine m_alloc ti39 hS (fun w3 g3 hS => ?_)
 try simp only [nY, aY] at hS ⊢
 obtain ⟨ge, hge⟩ : ∃ z, z = g3 := ⟨_, rfl⟩
 rw [← hge] at hS ⊢
 refine z_nilf ?_
 refine hK1 _ _ ?_
 refine z_seq fun K2 hK2 => ?_
 refine z_defer 1 rfl ?_
 simp only [List.take_succ_cons, List.take_zero]
 refine s_go s_makeFunc ?_
 try simp only [nY, List.map_toArray, List.map_cons, List.map_nil]
 refine z_nil ⟨_, _, _, rfl, rfl, ?_⟩
 refine hK2 _ _ ?_
 refine z_seq fun K3 hK3 => ?_
 refine z_seq fun K4 hK4 => ?_
 refine z_region ?_
 refine s_go (m_load_row U27 (hi := ti27) (hS := hS) (hfit := by omega)) ?_
 try simp only [nY, gY]
 refine s_call en16 ?_
 try simp only [nY, mY]
 refine CallR.mono (c_shopRight _ (by assumption) _) ?_
 rintro _ w4 ⟨rfl, hE4⟩
 replace hS := hS.ext hE4
 try simp only [nY]
 refine s_go s_assign ?_
 try simp only [nY]
 refine z_nilf ?_
 refine hK4 _ _ ?_
 refine z_seq fun K5 hK5 => ?_
 refine z_region ?_
 refine s_go s_move ?_
 try simp only [nY]
 refine s_go s_neq ?_
 try simp only [nY]
 refine z_nilf ?_
 refine hK5 _ _ ?_
 refine z_cond (ht := fun hc1 => ?_) (hf := fun hc1 => ?_)
 ·
  try simp only [dY] at hc1
  have hE : ¬ opE x = 0 := hc1
  refine z_seq fun K6 hK6 => ?_
  refine z_region ?_
  refine s_go s_move ?_
  try simp only [nY]
  refine m_store_obj ti22 (hS := hS) (hc := by (exact splice_whole (by (simp [opv, Value.cells, *]; done)))) (hv := by rfl) (hfit := by (simp only [ic_size, List.length_map, List.size_toArray]; decide)) (h1 := by simp [opv, Value.cells, Value.oneCell']) (h := fun w5 hS => ?_)
  try simp only [nY, aY] at hS ⊢
  refine m_store_obj ti39 (hS := hS) (hc := by (exact splice_whole (by (simp [opv, Value.cells, *]; done)))) (hv := by rfl) (hfit := by (simp only [ic_size, List.length_map, List.size_toArray]; decide)) (h1 := by simp [opv, Value.cells, Value.oneCell']) (h := fun w6 hS => ?_)
  try simp only [nY, aY] at hS ⊢
  refine z_nilf ?_
  refine hK6 _ _ ?_
  refine z_ret ?_
  refine do_ret (gd := gd) (ge := ge) (fun w99 hE99 => ?_)
  replace hS := hS.ext hE99
  refine r_cell_cell_oo rfl U22 U39 (hS := hS) (hR := ?_)
  rw [dP_no (by rw [dE_e hE]; exact hE), dE_e hE]
  exact ⟨_, _, rfl, (hS.nil_vec 66 21).sel (by repeat (first | exact Sel.nil | (refine Sel.cons (by repeat (exact Del.head)) ?_)))⟩
 try simp only [dY] at hc1
 have hE0 : opE x = 0 := by omega
 obtain ⟨hK, hOn, hONN, hOt⟩ := opE_ok hE0
 refine z_skip ?_
 refine hK3 _ _ ?_
 refine z_seq fun K7 hK7 => ?_
 refine z_region ?_
 refine s_go s_move ?_
 try simp only [nY]
 refine s_go s_lss ?_
 try simp only [nY]
 refine zp_call en33 ?_
 try simp only [nY, mY]
 refine CallP.mono (c_need (decide ((r : Int) < 16)) 1 _) ?zr7 ?zp7
 case zp7 =>
  rintro _ w7 ⟨hg7, rfl, hE7⟩
  have hd7 : dE s m r x = 1 := dE_r hE0 (by have := of_decide_eq_false hg7; omega)
  exact ⟨gd, ge, _, 0, rfl, rfl, rfl, by rw [hd7]; decide, by rw [hd7], (hS.ext hE7).sel (by repeat (first | exact Sel.nil | (refine Sel.cons (by repeat (first | exact Del.head | apply Del.tail)) ?_)))⟩
 rintro _ w7 ⟨hg7, hE7⟩
 replace hS := hS.ext hE7
 have hr16 : ¬ 16 ≤ r := by have := of_decide_eq_true hg7; omega
 try simp only [nY]
 refine z_nilf ?_
 refine hK7 _ _ ?_
 refine z_seq fun K8 hK8 => ?_
 refine z_region ?_
 refine s_go s_move ?_
 try simp only [nY]
 refine s_call en27 ?_
 try simp only [nY, mY]
 refine CallR.mono (c_latNorm _ A c l (hS.hasA) hv (by omega)) ?_
 rintro _ w8 ⟨An, cn, rfl, hC8⟩
 replace hS := hS.call hC8
 simp only [List.cons_append, List.nil_append] at hS
 rw [hs] at hS ⊢
 try simp only [nY]
 refine s_go s_assign ?_
 try simp only [nY]
 refine z_nilf ?_
 refine hK8 _ _ ?_
 refine z_seq fun K9 hK9 => ?_
 refine z_seq fun K10 hK10 => ?_
 refine z_region ?_
 refine s_go (m_fieldAddr U27 (hi := ti3)) ?_
 try simp only [nY, fY, gY]
 refine s_go (m_load_obj U3 (hS := hS) (hv := by exact zi_get rfl (by omega))) ?_
 try simp only [nY, gY]
 rw [show x.getD 0 0 = opK x from rfl]
 refine s_go s_eql ?_
 try simp only [nY]
 refine s_go s_move ?_
 try simp only [nY]
 refine s_part 26 rfl (fun hp1 => ?_) (fun hp1 => ?_)
 ·
  try simp only [n3, n4]
  try simp only [dZ, ne_eq] at hp1
  refine g_off (yi (t := 26) rfl rfl) ?_
  try simp only [nY]
  refine g_off (yi (t := 26) rfl rfl) ?_
  try simp only [nY]
  refine g_off (yi (t := 26) rfl rfl) ?_
  try simp only [nY]
  refine s_go s_pick_t ?_
  try simp only [nY]
  refine z_nilf ?_
  refine hK10 _ _ ?_
  refine z_cond_t (h := ?_)
  have hk23x : opK x = 2 ∨ opK x = 3 := by omega
  refine z_region ?_
  refine s_go s_move ?_
  try simp only [nY]
  refine s_go (m_fieldAddr U27 (hi := ti23)) ?_
  try simp only [nY, fY, gY]
  refine s_go (m_load_obj U23 (hS := hS) (hv := by exact zi_get rfl (by omega))) ?_
  try simp only [nY, gY]
  rw [hx.e1]
  refine s_go (m_fieldAddr U27 (hi := ti25)) ?_
  try simp only [nY, fY, gY]
  refine s_go (m_loada_obj U25 (hi := ti25) (hS := hS) (hfit := by omega)) ?_
  try simp only [nY, gY]
  rw [op_item hxl]
  refine s_call en34 ?_
  try simp only [nY, mY]
  refine CallR.mono (c_tagsPresent _ An cn s (hS.vecRd (by repeat (exact Has.head))) hso (by omega) _ hcx _ hil) ?_
  rintro _ w9 ⟨rfl, hE9⟩
  replace hS := hS.ext hE9
  try simp only [nY]
  rw [show decide (0 < (((tagS (normP s) (kn x 1) (kitem x) 1).map akey).length : Int)) = qtyB s (kn x 1) (kitem x) by rw [qtyB]; exact decide_eq_decide.2 (by omega)]
  refine zp_call en33 ?_
  try simp only [nY, mY]
  refine CallP.mono (c_need (qtyB s (kn x 1) (kitem x)) 6 _) ?zr10 ?zp10
  case zp10 =>
   rintro _ w10 ⟨hg10, rfl, hE10⟩
   have hd10 : dE s m r x = 6 := dE_n hE0 hr16 ⟨hk23x, hg10⟩
   exact ⟨gd, ge, _, 0, rfl, rfl, rfl, by rw [hd10]; decide, by rw [hd10], (hS.ext hE10).sel (by repeat (first | exact Sel.nil | (refine Sel.cons (by repeat (first | exact Del.head | apply Del.tail)) ?_)))⟩
  rintro _ w10 ⟨hg10, hE10⟩
  replace hS := hS.ext hE10
  have hP : ¬ ((opK x = 2 ∨ opK x = 3) ∧ qtyB s (kn x 1) (kitem x) = false) := fun q => by rw [hg10] at q; cases q.2
  try simp only [nY]
  refine z_nilf ?_
  refine hK9 _ _ ?_
  refine z_seq fun K11 hK11 => ?_
  refine z_mixed_c (Lc := [.obj gx (.cells (OA x) 27 (0, 0))]) [9] [38, 39, 40, 41, 42, 43, 44, 45, 46] (fun f w => ∃ (O : Option Addr) (oc : Nat), mkE s r x = 0 ∧ St NoB w0 w [.vec O oc 66 21 (mkP s r x).length (arows (mkP s r x)), .obj gd (.cells #[.slice O (mkP s r x).length oc] 22 (0, 0)), .obj ge (.cells #[.int .i64 0] 39 (0, 0)), .vec An cn 66 21 (s).length (arows (s))]) (by kernel_rfl) hS (fun w11 hS => ?mixpre901) ?mixrest901
  case mixpre901 =>
   simp only [List.length_cons, List.length_nil, Nat.reduceAdd, Nat.reduceSub]
   refine zny_go (lo := 10) (i := 0) (dpn_ok.wd) (by rfl) (by decide) (by decide +kernel) (by decide +kernel) (by unfold noLate; decide) (go_yields w_none (fun w hS => s_move)) ?_
   try simp only [nY]
   refine zny_go (lo := 10) (i := 1) (dpn_ok.wd) (by rfl) (by decide) (by decide +kernel) (by decide +kernel) (by unfold noLate; decide) (go_yields w_none (fun w hS => s_move)) ?_
   try simp only [nY]
   refine zny_go (lo := 10) (i := 2) (dpn_ok.wd) (by rfl) (by decide) (by decide +kernel) (by decide +kernel) (by unfold noLate; decide) (go_yields w_none (fun w hS => m_load_row U27 (hi := ti27) (hS := hS) (hfit := by omega))) ?_
   try simp only [nY, gY]
   refine zny_go (lo := 10) (i := 3) (dpn_ok.wd) (by rfl) (by decide) (by decide +kernel) (by decide +kernel) (by unfold noLate; decide) (go_yields w_none (fun w hS => s_build_struct (cells := (MA (.slice An s.length cn) r x)) U78 ti78 bp78 (hc := by simp only [List.map_toArray, List.map_cons, List.map_nil, nY, List.toList_toArray]; exact fill_ma (by rfl) (by rfl) (by rfl) hxl))) ?_
   try simp only [nY]
   refine zny_go (lo := 10) (i := 5) (dpn_ok.wd) (by rfl) (by decide) (by decide +kernel) (by decide +kernel) (by unfold noLate; decide) (go_yields w_none (fun w hS => m_fieldAddr U27 (hi := ti3))) ?_
   try simp only [nY, fY, gY]
   refine zny_go (lo := 10) (i := 6) (dpn_ok.wd) (by rfl) (by decide) (by decide +kernel) (by decide +kernel) (by unfold noLate; decide) (go_yields w_none (fun w hS => m_load_obj U3 (hS := hS) (hv := by exact zi_get rfl (by omega)))) ?_
   try simp only [nY, gY]
   rw [show x.getD 0 0 = opK x from rfl]
   refine zny_step [4] (by kernel_rfl) (by decide) (fun w12 hE => ⟨fun _ => (hS.ext hE).sel (by repeat (first | exact Sel.nil | (refine Sel.cons (by repeat (first | exact Del.head | apply Del.tail)) ?_))), ?_⟩)
   replace hS := hS.ext hE
   intro i hi
   simp only [List.mem_cons, List.not_mem_nil, or_false] at hi
   subst hi
   refine zny_op (by rfl) ?_
   refine s_call en35 ?_
   try simp only [nY, mY]
   refine CallR.mono (c_kinds (.slice An s.length cn) r x hx _) ?_
   rintro _ w13 ⟨q1, q3, rfl, hC13⟩
   replace hS := hS.call hC13
   simp only [List.cons_append, List.nil_append] at hS
   replace hS := hS.obj_rd (sz := 21) (n := 1) (by exact ma_size hxl) (.head)
   replace hS := hS.obj_rd (sz := 19) (n := 1) (by exact op_size hxl) (.tail .head)
   try simp only [nY]
   refine z_nil ?_
   refine zny_go (lo := 10) (i := 7) (dpn_ok.wd) (by rfl) (by decide) (by decide +kernel) (by decide +kernel) (by unfold noLate; decide) (go_yields w_none (fun w hS => s_index_one U76 ti75 U75 (hv := kf_get hK))) ?_
   try simp only [nY, Nat.mul_one, Nat.zero_add, Int.toNat_natCast, Int.reduceToNat]
   refine zny_step [8] (by kernel_rfl) (by decide) (fun w14 hE => ⟨fun _ => (hS.ext hE).sel (by repeat (first | exact Sel.nil | (refine Sel.cons (by repeat (first | exact Del.head | apply Del.tail)) ?_))), ?_⟩)
   replace hS := hS.ext hE
   intro i hi
   simp only [List.mem_cons, List.not_mem_nil, or_false] at hi
   subst hi
   refine zny_op (by rfl) ?_
   refine zp_callv (hv := rfl) (kf_en hK) ?_
   simp only [List.map_toArray, List.map_nil]
   rw [show ([] : List Value).toArray ++ kcap (opK x) q1 q3 = kcap (opK x) q1 q3 from by simp]
   refine CallP.mono (c_kindAny _ An cn s (hS.vecA) hso hsl r hr8 x hx hK hONN q1 q3 (hS.hasRd (by repeat (exact Has.head))) (hS.hasA)) ?zrk14 ?zpk14
   case zpk14 =>
    rintro _ w97 ⟨hg97, rfl, hE97⟩
    have hd97 : dE s m r x = mkE s r x := dE_m hE0 hr16 hP hg97
    exact ⟨gd, ge, _, 0, rfl, rfl, rfl, by rw [hd97]; exact hg97, by rw [hd97], (hS.ext hE97).sel (by repeat (first | exact Sel.nil | (refine Sel.cons (by repeat (first | exact Del.head | apply Del.tail)) ?_)))⟩
   rintro _ w98 ⟨hmk, Od, od, rfl, hC98⟩
   replace hS := hS.call hC98
   simp only [List.cons_append, List.nil_append] at hS
   try simp only [nY]
   refine z_nil ?_
   refine zny_step [9] (by kernel_rfl) (by decide) (fun w15 hE => ⟨fun _ => (hS.ext hE).sel (by repeat (first | exact Sel.nil | (refine Sel.cons (by repeat (first | exact Del.head | apply Del.tail)) ?_))), ?_⟩)
   replace hS := hS.ext hE
   intro i hi
   simp only [List.mem_cons, List.not_mem_nil, or_false] at hi
   subst hi
   refine zny_op (by rfl) ?_
   refine m_store_obj ti22 (hS := hS) (hc := by (exact splice_whole (by (simp [opv, Value.cells, *]; done)))) (hv := by rfl) (hfit := by (simp only [ic_size, List.length_map, List.size_toArray]; decide)) (h1 := by simp [opv, Value.cells, Value.oneCell']) (h := fun w16 hS => ?_)
   try simp only [nY, aY] at hS ⊢
   refine z_nil ?_
   refine zny_nil (by kernel_rfl) (fun w17 hE => ?_)
   replace hS := hS.ext hE
   refine ⟨fun hl => absurd (hl 9 (by decide)) (by decide +kernel), ?_⟩
   refine mix_leaf (by simp only [clob, List.foldl, nZ]) ?_
   try simp only [n1, n2]
   exact ⟨_, _, hmk, hS.selA⟩
  intro fm1 w18 hM
  obtain ⟨Od, od, hmk, hS⟩ := hM
  simp only [clob, List.foldl, n3, n4]
  refine hK11 _ _ ?_
  refine z_seq fun K12 hK12 => ?_
  refine z_region ?_
  refine s_go s_move ?_
  try simp only [nY]
  refine s_go (m_load_obj U22 (hS := hS) (hv := by rfl)) ?_
  try simp only [nY, gY]
  obtain ⟨hmo, hml⟩ := mkP_all hso hsl hr8 hx hONN
  refine s_call en28 ?_
  try simp only [nY, mY]
  refine CallR.mono (c_latJoin _ An cn s (hS.vecA) hso Od od (mkP s r x) (hS.vecRd (by repeat (exact Has.head))) hmo (by omega)) ?_
  rintro _ w19 ⟨Aj, cj, rfl, hC19⟩
  replace hS := hS.call hC19
  simp only [List.cons_append, List.nil_append] at hS
  try simp only [nY]
  refine s_go (s_len_sl U22) ?_
  try simp only [nY]
  refine s_go s_assign ?_
  try simp only [nY]
  refine z_nilf ?_
  refine hK12 _ _ ?_
  refine z_seq fun K13 hK13 => ?_
  refine z_region ?_
  refine s_go s_move ?_
  try simp only [nY]
  refine s_go s_move ?_
  try simp only [nY]
  refine s_go s_move ?_
  try simp only [nY]
  refine s_go (s_len_sl U22) ?_
  try simp only [nY]
  refine s_go s_max ?_
  try simp only [nY]
  refine s_go s_leq ?_
  try simp only [nY]
  refine zp_call en33 ?_
  try simp only [nY, mY]
  refine CallP.mono (c_need (decide (((normP (s ++ mkP s r x)).length : Int) ≤ max m (s.length : Int))) 7 _) ?zr20 ?zp20
  case zp20 =>
   rintro _ w20 ⟨hg20, rfl, hE20⟩
   have hd20 : dE s m r x = 7 := dE_f hE0 hr16 hP hmk (by have := of_decide_eq_false hg20; omega)
   exact ⟨gd, ge, _, 0, rfl, rfl, rfl, by rw [hd20]; decide, by rw [hd20], (hS.ext hE20).sel (by repeat (first | exact Sel.nil | (refine Sel.cons (by repeat (first | exact Del.head | apply Del.tail)) ?_)))⟩
  rintro _ w20 ⟨hg20, hE20⟩
  replace hS := hS.ext hE20
  have hD0 : dE s m r x = 0 := dE_0 hE0 hr16 hP hmk (by have := of_decide_eq_true hg20; omega)
  try simp only [nY]
  refine z_nilf ?_
  refine hK13 _ _ ?_
  refine z_seq fun K14 hK14 => ?_
  refine z_region ?_
  refine s_go (m_load_obj U22 (hS := hS) (hv := by rfl)) ?_
  try simp only [nY, gY]
  refine m_store_obj ti22 (hS := hS) (hc := by (exact splice_whole (by (simp [opv, Value.cells, *]; done)))) (hv := by rfl) (hfit := by (simp [*]; done)) (h1 := by simp [opv, Value.cells, Value.oneCell']) (h := fun w21 hS => ?_)
  try simp only [nY, aY] at hS ⊢
  refine m_store_obj ti39 (hS := hS) (hc := by (exact splice_whole (by (simp [opv, Value.cells, *]; done)))) (hv := by rfl) (hfit := by (simp only [ic_size, List.length_map, List.size_toArray]; decide)) (h1 := by simp [opv, Value.cells, Value.oneCell']) (h := fun w22 hS => ?_)
  try simp only [nY, aY] at hS ⊢
  refine z_nilf ?_
  refine hK14 _ _ ?_
  refine z_ret ?_
  refine do_ret (gd := gd) (ge := ge) (fun w99 hE99 => ?_)
  replace hS := hS.ext hE99
  refine r_cell_cell_oo rfl U22 U39 (hS := hS) (hR := ?_)
  rw [dP_yes hD0, hD0]
  exact ⟨_, _, rfl, hS.selA⟩
 try simp only [n3, n4]
 try simp only [dZ, ne_eq] at hp1
 refine g_on (yi (t := 26) rfl rfl) ?_
 refine s_go (m_fieldAddr U27 (hi := ti3)) ?_
 try simp only [nY, fY, gY]
 refine g_on (yi (t := 26) rfl rfl) ?_
 refine s_go (m_load_obj U3 (hS := hS) (hv := by exact zi_get rfl (by omega))) ?_
 try simp only [nY, gY]
 rw [show x.getD 0 0 = opK x from rfl]
 refine g_on (yi (t := 26) rfl rfl) ?_
 refine s_go s_eql ?_
 try simp only [nY]
 refine s_go s_pick_f ?_
 try simp only [nY]
 refine z_nilf ?_
 refine hK10 _ _ ?_
 refine z_cond (ht := fun hc3 => ?_) (hf := fun hc3 => ?_)
 ·
  try simp only [dY] at hc3
  have hk23x : opK x = 2 ∨ opK x = 3 := by omega
  refine z_region ?_
  refine s_go s_move ?_
  try simp only [nY]
  refine s_go (m_fieldAddr U27 (hi := ti23)) ?_
  try simp only [nY, fY, gY]
  refine s_go (m_load_obj U23 (hS := hS) (hv := by exact zi_get rfl (by omega))) ?_
  try simp only [nY, gY]
  rw [hx.e1]
  refine s_go (m_fieldAddr U27 (hi := ti25)) ?_
  try simp only [nY, fY, gY]
  refine s_go (m_loada_obj U25 (hi := ti25) (hS := hS) (hfit := by omega)) ?_
  try simp only [nY, gY]
  rw [op_item hxl]
  refine s_call en34 ?_
  try simp only [nY, mY]
  refine CallR.mono (c_tagsPresent _ An cn s (hS.vecRd (by repeat (exact Has.head))) hso (by omega) _ hcx _ hil) ?_
  rintro _ w23 ⟨rfl, hE23⟩
  replace hS := hS.ext hE23
  try simp only [nY]
  rw [show decide (0 < (((tagS (normP s) (kn x 1) (kitem x) 1).map akey).length : Int)) = qtyB s (kn x 1) (kitem x) by rw [qtyB]; exact decide_eq_decide.2 (by omega)]
  refine zp_call en33 ?_
  try simp only [nY, mY]
  refine CallP.mono (c_need (qtyB s (kn x 1) (kitem x)) 6 _) ?zr24 ?zp24
  case zp24 =>
   rintro _ w24 ⟨hg24, rfl, hE24⟩
   have hd24 : dE s m r x = 6 := dE_n hE0 hr16 ⟨hk23x, hg24⟩
   exact ⟨gd, ge, _, 0, rfl, rfl, rfl, by rw [hd24]; decide, by rw [hd24], (hS.ext hE24).sel (by repeat (first | exact Sel.nil | (refine Sel.cons (by repeat (first | exact Del.head | apply Del.tail)) ?_)))⟩
  rintro _ w24 ⟨hg24, hE24⟩
  replace hS := hS.ext hE24
  have hP : ¬ ((opK x = 2 ∨ opK x = 3) ∧ qtyB s (kn x 1) (kitem x) = false) := fun q => by rw [hg24] at q; cases q.2
  try simp only [nY]
  refine z_nilf ?_
  refine hK9 _ _ ?_
  refine z_seq fun K15 hK15 => ?_
  refine z_mixed_c (Lc := [.obj gx (.cells (OA x) 27 (0, 0))]) [9] [38, 39, 40, 41, 42, 43, 44, 45, 46] (fun f w => ∃ (O : Option Addr) (oc : Nat), mkE s r x = 0 ∧ St NoB w0 w [.vec O oc 66 21 (mkP s r x).length (arows (mkP s r x)), .obj gd (.cells #[.slice O (mkP s r x).length oc] 22 (0, 0)), .obj ge (.cells #[.int .i64 0] 39 (0, 0)), .vec An cn 66 21 (s).length (arows (s))]) (by kernel_rfl) hS (fun w25 hS => ?mixpre902) ?mixrest902
  case mixpre902 =>
   simp only [List.length_cons, List.length_nil, Nat.reduceAdd, Nat.reduceSub]
   refine zny_go (lo := 10) (i := 0) (dpn_ok.wd) (by rfl) (by decide) (by decide +kernel) (by decide +kernel) (by unfold noLate; decide) (go_yields w_none (fun w hS => s_move)) ?_
   try simp only [nY]
   refine zny_go (lo := 10) (i := 1) (dpn_ok.wd) (by rfl) (by decide) (by decide +kernel) (by decide +kernel) (by unfold noLate; decide) (go_yields w_none (fun w hS => s_move)) ?_
   try simp only [nY]
   refine zny_go (lo := 10) (i := 2) (dpn_ok.wd) (by rfl) (by decide) (by decide +kernel) (by decide +kernel) (by unfold noLate; decide) (go_yields w_none (fun w hS => m_load_row U27 (hi := ti27) (hS := hS) (hfit := by omega))) ?_
   try simp only [nY, gY]
   refine zny_go (lo := 10) (i := 3) (dpn_ok.wd) (by rfl) (by decide) (by decide +kernel) (by decide +kernel) (by unfold noLate; decide) (go_yields w_none (fun w hS => s_build_struct (cells := (MA (.slice An s.length cn) r x)) U78 ti78 bp78 (hc := by simp only [List.map_toArray, List.map_cons, List.map_nil, nY, List.toList_toArray]; exact fill_ma (by rfl) (by rfl) (by rfl) hxl))) ?_
   try simp only [nY]
   refine zny_go (lo := 10) (i := 5) (dpn_ok.wd) (by rfl) (by decide) (by decide +kernel) (by decide +kernel) (by unfold noLate; decide) (go_yields w_none (fun w hS => m_fieldAddr U27 (hi := ti3))) ?_
   try simp only [nY, fY, gY]
   refine zny_go (lo := 10) (i := 6) (dpn_ok.wd) (by rfl) (by decide) (by decide +kernel) (by decide +kernel) (by unfold noLate; decide) (go_yields w_none (fun w hS => m_load_obj U3 (hS := hS) (hv := by exact zi_get rfl (by omega)))) ?_
   try simp only [nY, gY]
   rw [show x.getD 0 0 = opK x from rfl]
   refine zny_step [4] (by kernel_rfl) (by decide) (fun w26 hE => ⟨fun _ => (hS.ext hE).sel (by repeat (first | exact Sel.nil | (refine Sel.cons (by repeat (first | exact Del.head | apply Del.tail)) ?_))), ?_⟩)
   replace hS := hS.ext hE
   intro i hi
   simp only [List.mem_cons, List.not_mem_nil, or_false] at hi
   subst hi
   refine zny_op (by rfl) ?_
   refine s_call en35 ?_
   try simp only [nY, mY]
   refine CallR.mono (c_kinds (.slice An s.length cn) r x hx _) ?_
   rintro _ w27 ⟨q1, q3, rfl, hC27⟩
   replace hS := hS.call hC27
   simp only [List.cons_append, List.nil_append] at hS
   replace hS := hS.obj_rd (sz := 21) (n := 1) (by exact ma_size hxl) (.head)
   replace hS := hS.obj_rd (sz := 19) (n := 1) (by exact op_size hxl) (.tail .head)
   try simp only [nY]
   refine z_nil ?_
   refine zny_go (lo := 10) (i := 7) (dpn_ok.wd) (by rfl) (by decide) (by decide +kernel) (by decide +kernel) (by unfold noLate; decide) (go_yields w_none (fun w hS => s_index_one U76 ti75 U75 (hv := kf_get hK))) ?_
   try simp only [nY, Nat.mul_one, Nat.zero_add, Int.toNat_natCast, Int.reduceToNat]
   refine zny_step [8] (by kernel_rfl) (by decide) (fun w28 hE => ⟨fun _ => (hS.ext hE).sel (by repeat (first | exact Sel.nil | (refine Sel.cons (by repeat (first | exact Del.head | apply Del.tail)) ?_))), ?_⟩)
   replace hS := hS.ext hE
   intro i hi
   simp only [List.mem_cons, List.not_mem_nil, or_false] at hi
   subst hi
   refine zny_op (by rfl) ?_
   refine zp_callv (hv := rfl) (kf_en hK) ?_
   simp only [List.map_toArray, List.map_nil]
   rw [show ([] : List Value).toArray ++ kcap (opK x) q1 q3 = kcap (opK x) q1 q3 from by simp]
   refine CallP.mono (c_kindAny _ An cn s (hS.vecA) hso hsl r hr8 x hx hK hONN q1 q3 (hS.hasRd (by repeat (exact Has.head))) (hS.hasA)) ?zrk28 ?zpk28
   case zpk28 =>
    rintro _ w97 ⟨hg97, rfl, hE97⟩
    have hd97 : dE s m r x = mkE s r x := dE_m hE0 hr16 hP hg97
    exact ⟨gd, ge, _, 0, rfl, rfl, rfl, by rw [hd97]; exact hg97, by rw [hd97], (hS.ext hE97).sel (by repeat (first | exact Sel.nil | (refine Sel.cons (by repeat (first | exact Del.head | apply Del.tail)) ?_)))⟩
   rintro _ w98 ⟨hmk, Od, od, rfl, hC98⟩
   replace hS := hS.call hC98
   simp only [List.cons_append, List.nil_append] at hS
   try simp only [nY]
   refine z_nil ?_
   refine zny_step [9] (by kernel_rfl) (by decide) (fun w29 hE => ⟨fun _ => (hS.ext hE).sel (by repeat (first | exact Sel.nil | (refine Sel.cons (by repeat (first | exact Del.head | apply Del.tail)) ?_))), ?_⟩)
   replace hS := hS.ext hE
   intro i hi
   simp only [List.mem_cons, List.not_mem_nil, or_false] at hi
   subst hi
   refine zny_op (by rfl) ?_
   refine m_store_obj ti22 (hS := hS) (hc := by (exact splice_whole (by (simp [opv, Value.cells, *]; done)))) (hv := by rfl) (hfit := by (simp only [ic_size, List.length_map, List.size_toArray]; decide)) (h1 := by simp [opv, Value.cells, Value.oneCell']) (h := fun w30 hS => ?_)
   try simp only [nY, aY] at hS ⊢
   refine z_nil ?_
   refine zny_nil (by kernel_rfl) (fun w31 hE => ?_)
   replace hS := hS.ext hE
   refine ⟨fun hl => absurd (hl 9 (by decide)) (by decide +kernel), ?_⟩
   refine mix_leaf (by simp only [clob, List.foldl, nZ]) ?_
   try simp only [n1, n2]
   exact ⟨_, _, hmk, hS.selA⟩
  intro fm2 w32 hM
  obtain ⟨Od, od, hmk, hS⟩ := hM
  simp only [clob, List.foldl, n3, n4]
  refine hK15 _ _ ?_
  refine z_seq fun K16 hK16 => ?_
  refine z_region ?_
  refine s_go s_move ?_
  try simp only [nY]
  refine s_go (m_load_obj U22 (hS := hS) (hv := by rfl)) ?_
  try simp only [nY, gY]
  obtain ⟨hmo, hml⟩ := mkP_all hso hsl hr8 hx hONN
  refine s_call en28 ?_
  try simp only [nY, mY]
  refine CallR.mono (c_latJoin _ An cn s (hS.vecA) hso Od od (mkP s r x) (hS.vecRd (by repeat (exact Has.head))) hmo (by omega)) ?_
  rintro _ w33 ⟨Aj, cj, rfl, hC33⟩
  replace hS := hS.call hC33
  simp only [List.cons_append, List.nil_append] at hS
  try simp only [nY]
  refine s_go (s_len_sl U22) ?_
  try simp only [nY]
  refine s_go s_assign ?_
  try simp only [nY]
  refine z_nilf ?_
  refine hK16 _ _ ?_
  refine z_seq fun K17 hK17 => ?_
  refine z_region ?_
  refine s_go s_move ?_
  try simp only [nY]
  refine s_go s_move ?_
  try simp only [nY]
  refine s_go s_move ?_
  try simp only [nY]
  refine s_go (s_len_sl U22) ?_
  try simp only [nY]
  refine s_go s_max ?_
  try simp only [nY]
  refine s_go s_leq ?_
  try simp only [nY]
  refine zp_call en33 ?_
  try simp only [nY, mY]
  refine CallP.mono (c_need (decide (((normP (s ++ mkP s r x)).length : Int) ≤ max m (s.length : Int))) 7 _) ?zr34 ?zp34
  case zp34 =>
   rintro _ w34 ⟨hg34, rfl, hE34⟩
   have hd34 : dE s m r x = 7 := dE_f hE0 hr16 hP hmk (by have := of_decide_eq_false hg34; omega)
   exact ⟨gd, ge, _, 0, rfl, rfl, rfl, by rw [hd34]; decide, by rw [hd34], (hS.ext hE34).sel (by repeat (first | exact Sel.nil | (refine Sel.cons (by repeat (first | exact Del.head | apply Del.tail)) ?_)))⟩
  rintro _ w34 ⟨hg34, hE34⟩
  replace hS := hS.ext hE34
  have hD0 : dE s m r x = 0 := dE_0 hE0 hr16 hP hmk (by have := of_decide_eq_true hg34; omega)
  try simp only [nY]
  refine z_nilf ?_
  refine hK17 _ _ ?_
  refine z_seq fun K18 hK18 => ?_
  refine z_region ?_
  refine s_go (m_load_obj U22 (hS := hS) (hv := by rfl)) ?_
  try simp only [nY, gY]
  refine m_store_obj ti22 (hS := hS) (hc := by (exact splice_whole (by (simp [opv, Value.cells, *]; done)))) (hv := by rfl) (hfit := by (simp [*]; done)) (h1 := by simp [opv, Value.cells, Value.oneCell']) (h := fun w35 hS => ?_)
  try simp only [nY, aY] at hS ⊢
  refine m_store_obj ti39 (hS := hS) (hc := by (exact splice_whole (by (simp [opv, Value.cells, *]; done)))) (hv := by rfl) (hfit := by (simp only [ic_size, List.length_map, List.size_toArray]; decide)) (h1 := by simp [opv, Value.cells, Value.oneCell']) (h := fun w36 hS => ?_)
  try simp only [nY, aY] at hS ⊢
  refine z_nilf ?_
  refine hK18 _ _ ?_
  refine z_ret ?_
  refine do_ret (gd := gd) (ge := ge) (fun w99 hE99 => ?_)
  replace hS := hS.ext hE99
  refine r_cell_cell_oo rfl U22 U39 (hS := hS) (hR := ?_)
  rw [dP_yes hD0, hD0]
  exact ⟨_, _, rfl, hS.selA⟩
 try simp only [dY] at hc3
 have hP : ¬ ((opK x = 2 ∨ opK x = 3) ∧ qtyB s (kn x 1) (kitem x) = false) := fun q => by omega
 refine z_skip ?_
 refine hK9 _ _ ?_
 refine z_seq fun K19 hK19 => ?_
 refine z_mixed_c (Lc := [.obj gx (.cells (OA x) 27 (0, 0))]) [9] [38, 39, 40, 41, 42, 43, 44, 45, 46] (fun f w => ∃ (O : Option Addr) (oc : Nat), mkE s r x = 0 ∧ St NoB w0 w [.vec O oc 66 21 (mkP s r x).length (arows (mkP s r x)), .obj gd (.cells #[.slice O (mkP s r x).length oc] 22 (0, 0)), .obj ge (.cells #[.int .i64 0] 39 (0, 0)), .vec An cn 66 21 (s).length (arows (s))]) (by kernel_rfl) hS (fun w37 hS => ?mixpre903) ?mixrest903
 case mixpre903 =>
  simp only [List.length_cons, List.length_nil, Nat.reduceAdd, Nat.reduceSub]
  refine zny_go (lo := 10) (i := 0) (dpn_ok.wd) (by rfl) (by decide) (by decide +kernel) (by decide +kernel) (by unfold noLate; decide) (go_yields w_none (fun w hS => s_move)) ?_
  try simp only [nY]
  refine zny_go (lo := 10) (i := 1) (dpn_ok.wd) (by rfl) (by decide) (by decide +kernel) (by decide +kernel) (by unfold noLate; decide) (go_yields w_none (fun w hS => s_move)) ?_
  try simp only [nY]
  refine zny_go (lo := 10) (i := 2) (dpn_ok.wd) (by rfl) (by decide) (by decide +kernel) (by decide +kernel) (by unfold noLate; decide) (go_yields w_none (fun w hS => m_load_row U27 (hi := ti27) (hS := hS) (hfit := by omega))) ?_
  try simp only [nY, gY]
  refine zny_go (lo := 10) (i := 3) (dpn_ok.wd) (by rfl) (by decide) (by decide +kernel) (by decide +kernel) (by unfold noLate; decide) (go_yields w_none (fun w hS => s_build_struct (cells := (MA (.slice An s.length cn) r x)) U78 ti78 bp78 (hc := by simp only [List.map_toArray, List.map_cons, List.map_nil, nY, List.toList_toArray]; exact fill_ma (by rfl) (by rfl) (by rfl) hxl))) ?_
  try simp only [nY]
  refine zny_go (lo := 10) (i := 5) (dpn_ok.wd) (by rfl) (by decide) (by decide +kernel) (by decide +kernel) (by unfold noLate; decide) (go_yields w_none (fun w hS => m_fieldAddr U27 (hi := ti3))) ?_
  try simp only [nY, fY, gY]
  refine zny_go (lo := 10) (i := 6) (dpn_ok.wd) (by rfl) (by decide) (by decide +kernel) (by decide +kernel) (by unfold noLate; decide) (go_yields w_none (fun w hS => m_load_obj U3 (hS := hS) (hv := by exact zi_get rfl (by omega)))) ?_
  try simp only [nY, gY]
  rw [show x.getD 0 0 = opK x from rfl]
  refine zny_step [4] (by kernel_rfl) (by decide) (fun w38 hE => ⟨fun _ => (hS.ext hE).sel (by repeat (first | exact Sel.nil | (refine Sel.cons (by repeat (first | exact Del.head | apply Del.tail)) ?_))), ?_⟩)
  replace hS := hS.ext hE
  intro i hi
  simp only [List.mem_cons, List.not_mem_nil, or_false] at hi
  subst hi
  refine zny_op (by rfl) ?_
  refine s_call en35 ?_
  try simp only [nY, mY]
  refine CallR.mono (c_kinds (.slice An s.length cn) r x hx _) ?_
  rintro _ w39 ⟨q1, q3, rfl, hC39⟩
  replace hS := hS.call hC39
  simp only [List.cons_append, List.nil_append] at hS
  replace hS := hS.obj_rd (sz := 21) (n := 1) (by exact ma_size hxl) (.head)
  replace hS := hS.obj_rd (sz := 19) (n := 1) (by exact op_size hxl) (.tail .head)
  try simp only [nY]
  refine z_nil ?_
  refine zny_go (lo := 10) (i := 7) (dpn_ok.wd) (by rfl) (by decide) (by decide +kernel) (by decide +kernel) (by unfold noLate; decide) (go_yields w_none (fun w hS => s_index_one U76 ti75 U75 (hv := kf_get hK))) ?_
  try simp only [nY, Nat.mul_one, Nat.zero_add, Int.toNat_natCast, Int.reduceToNat]
  refine zny_step [8] (by kernel_rfl) (by decide) (fun w40 hE => ⟨fun _ => (hS.ext hE).sel (by repeat (first | exact Sel.nil | (refine Sel.cons (by repeat (first | exact Del.head | apply Del.tail)) ?_))), ?_⟩)
  replace hS := hS.ext hE
  intro i hi
  simp only [List.mem_cons, List.not_mem_nil, or_false] at hi
  subst hi
  refine zny_op (by rfl) ?_
  refine zp_callv (hv := rfl) (kf_en hK) ?_
  simp only [List.map_toArray, List.map_nil]
  rw [show ([] : List Value).toArray ++ kcap (opK x) q1 q3 = kcap (opK x) q1 q3 from by simp]
  refine CallP.mono (c_kindAny _ An cn s (hS.vecA) hso hsl r hr8 x hx hK hONN q1 q3 (hS.hasRd (by repeat (exact Has.head))) (hS.hasA)) ?zrk40 ?zpk40
  case zpk40 =>
   rintro _ w97 ⟨hg97, rfl, hE97⟩
   have hd97 : dE s m r x = mkE s r x := dE_m hE0 hr16 hP hg97
   exact ⟨gd, ge, _, 0, rfl, rfl, rfl, by rw [hd97]; exact hg97, by rw [hd97], (hS.ext hE97).sel (by repeat (first | exact Sel.nil | (refine Sel.cons (by repeat (first | exact Del.head | apply Del.tail)) ?_)))⟩
  rintro _ w98 ⟨hmk, Od, od, rfl, hC98⟩
  replace hS := hS.call hC98
  simp only [List.cons_append, List.nil_append] at hS
  try simp only [nY]
  refine z_nil ?_
  refine zny_step [9] (by kernel_rfl) (by decide) (fun w41 hE => ⟨fun _ => (hS.ext hE).sel (by repeat (first | exact Sel.nil | (refine Sel.cons (by repeat (first | exact Del.head | apply Del.tail)) ?_))), ?_⟩)
  replace hS := hS.ext hE
  intro i hi
  simp only [List.mem_cons, List.not_mem_nil, or_false] at hi
  subst hi
  refine zny_op (by rfl) ?_
  refine m_store_obj ti22 (hS := hS) (hc := by (exact splice_whole (by (simp [opv, Value.cells, *]; done)))) (hv := by rfl) (hfit := by (simp only [ic_size, List.length_map, List.size_toArray]; decide)) (h1 := by simp [opv, Value.cells, Value.oneCell']) (h := fun w42 hS => ?_)
  try simp only [nY, aY] at hS ⊢
  refine z_nil ?_
  refine zny_nil (by kernel_rfl) (fun w43 hE => ?_)
  replace hS := hS.ext hE
  refine ⟨fun hl => absurd (hl 9 (by decide)) (by decide +kernel), ?_⟩
  refine mix_leaf (by simp only [clob, List.foldl, nZ]) ?_
  try simp only [n1, n2]
  exact ⟨_, _, hmk, hS.selA⟩
 intro fm3 w44 hM
 obtain ⟨Od, od, hmk, hS⟩ := hM
 simp only [clob, List.foldl, n3, n4]
 refine hK19 _ _ ?_
 refine z_seq fun K20 hK20 => ?_
 refine z_region ?_
 refine s_go s_move ?_
 try simp only [nY]
 refine s_go (m_load_obj U22 (hS := hS) (hv := by rfl)) ?_
 try simp only [nY, gY]
 obtain ⟨hmo, hml⟩ := mkP_all hso hsl hr8 hx hONN
 refine s_call en28 ?_
 try simp only [nY, mY]
 refine CallR.mono (c_latJoin _ An cn s (hS.vecA) hso Od od (mkP s r x) (hS.vecRd (by repeat (exact Has.head))) hmo (by omega)) ?_
 rintro _ w45 ⟨Aj, cj, rfl, hC45⟩
 replace hS := hS.call hC45
 simp only [List.cons_append, List.nil_append] at hS
 try simp only [nY]
 refine s_go (s_len_sl U22) ?_
 try simp only [nY]
 refine s_go s_assign ?_
 try simp only [nY]
 refine z_nilf ?_
 refine hK20 _ _ ?_
 refine z_seq fun K21 hK21 => ?_
 refine z_region ?_
 refine s_go s_move ?_
 try simp only [nY]
 refine s_go s_move ?_
 try simp only [nY]
 refine s_go s_move ?_
 try simp only [nY]
 refine s_go (s_len_sl U22) ?_
 try simp only [nY]
 refine s_go s_max ?_
 try simp only [nY]
 refine s_go s_leq ?_
 try simp only [nY]
 refine zp_call en33 ?_
 try simp only [nY, mY]
 refine CallP.mono (c_need (decide (((normP (s ++ mkP s r x)).length : Int) ≤ max m (s.length : Int))) 7 _) ?zr46 ?zp46
 case zp46 =>
  rintro _ w46 ⟨hg46, rfl, hE46⟩
  have hd46 : dE s m r x = 7 := dE_f hE0 hr16 hP hmk (by have := of_decide_eq_false hg46; omega)
  exact ⟨gd, ge, _, 0, rfl, rfl, rfl, by rw [hd46]; decide, by rw [hd46], (hS.ext hE46).sel (by repeat (first | exact Sel.nil | (refine Sel.cons (by repeat (first | exact Del.head | apply Del.tail)) ?_)))⟩
 rintro _ w46 ⟨hg46, hE46⟩
 replace hS := hS.ext hE46
 have hD0 : dE s m r x = 0 := dE_0 hE0 hr16 hP hmk (by have := of_decide_eq_true hg46; omega)
 try simp only [nY]
 refine z_nilf ?_
 refine hK21 _ _ ?_
 refine z_seq fun K22 hK22 => ?_
 refine z_region ?_
 refine s_go (m_load_obj U22 (hS := hS) (hv := by rfl)) ?_
 try simp only [nY, gY]
 refine m_store_obj ti22 (hS := hS) (hc := by (exact splice_whole (by (simp [opv, Value.cells, *]; done)))) (hv := by rfl) (hfit := by (simp [*]; done)) (h1 := by simp [opv, Value.cells, Value.oneCell']) (h := fun w47 hS => ?_)
 try simp only [nY, aY] at hS ⊢
 refine m_store_obj ti39 (hS := hS) (hc := by (exact splice_whole (by (simp [opv, Value.cells, *]; done)))) (hv := by rfl) (hfit := by (simp only [ic_size, List.length_map, List.size_toArray]; decide)) (h1 := by simp [opv, Value.cells, Value.oneCell']) (h := fun w48 hS => ?_)
 try simp only [nY, aY] at hS ⊢
 refine z_nilf ?_
 refine hK22 _ _ ?_
 refine z_ret ?_
 refine do_ret (gd := gd) (ge := ge) (fun w99 hE99 => ?_)
 replace hS := hS.ext hE99
 refine r_cell_cell_oo rfl U22 U39 (hS := hS) (hR := ?_)
 rw [dP_yes hD0, hD0]
 exact ⟨_, _, rfl, hS.selA⟩
end Go.Proofs.YtpekghaodmeemaaGreat
set_option linter.unusedSimpArgs false
set_option linter.unusedVariables false
set_option maxHeartbeats 400000
set_option maxRecDepth 100000
namespace Go.Proofs.YtpekghaodmeemaaGreat
open Go.RowKit

abbrev orows (l : List (List Int)) : List Value := rowsZ opKs l
theorem orows_len (l : List (List Int)) : (orows l).length = l.length * 19 := rowsZ_len _ _
def OpsOk (xs : List (List Int)) : Prop := ∀ x ∈ xs, OpOk x
theorem orow_get {l : List (List Int)} {k : Nat} (hk : k < l.length) (hv : OpsOk l) : (((orows l).drop (k * 19)).take 19).toArray = OA (l.getD k []) := by
  have := rowsZ_get (ks := opKs) hk (by simpa using (hv _ (getD_mem' hk)).len)
  rw [show opKs.length = 19 from rfl] at this
  rw [this]
def runS (m : Int) (r : Nat) (s : List (List Int)) (xs : List (List Int)) : List (List Int) := xs.foldl (fun s o => normP (s ++ dP (normP s) m r o)) s
def runE (m : Int) (r : Nat) : List (List Int) → List (List Int) → List Int
  | _, [] => []
  | s, o :: xs => dE (normP s) m r o :: runE m r (normP (s ++ dP (normP s) m r o)) xs
section
variable {m : Int} {r : Nat} {s : List (List Int)}
theorem runS_snoc (xs : List (List Int)) (o : List Int) : runS m r s (xs ++ [o]) = normP (runS m r s xs ++ dP (normP (runS m r s xs)) m r o) := by rw [runS, List.foldl_append]; rfl
theorem runE_snoc : ∀ (xs : List (List Int)) (s : List (List Int)) (o : List Int), runE m r s (xs ++ [o]) = runE m r s xs ++ [dE (normP (runS m r s xs)) m r o]
  | [], _, _ => rfl
  | y :: xs, s, o => by
    rw [List.cons_append, runE, runE, runE_snoc xs]; rfl
theorem runE_len : ∀ (xs s : List (List Int)), (runE m r s xs).length = xs.length
  | [], _ => rfl
  | y :: xs, s => by rw [runE, List.length_cons, runE_len xs, List.length_cons]
theorem mk_keys {x : List Int} (hv : StaR s) (hn : s.length ≤ 40000000) (hr : r < 256) (hx : OpOk x) (hON : (opK x = 1 ∨ opK x = 3) → 0 ≤ opN x ∧ opN x ≤ 4294967295) : ∃ K : List (List Int), K.length ≤ s.length + 2 ∧ ∀ a ∈ mkP s r x, akey a ∈ s.map akey ++ K := by
  have hil := op_il hx.len
  have htl := op_tl hx.len
  have hb := hx.item
  have hc := hx.b1
  have hm2 := hx.m2
  have hni := norm_id hv
  unfold mkP
  split
  · refine ⟨[mkKey 1 (kn x 1) (kitem x) r (nextN s r).toNat, turnK 2 r (kn x 1) (kitem x)], by simp, fun a ha => ?_⟩
    have h1 := addP_aok (c := kn x 1) hv.ok hr hc hil hb
    have h2 := turnP_ok (n := opN x) hv.ok (.inl rfl) hr hc hil hb hm2
    obtain ⟨b, hb1, e⟩ := norm_keys (h1.app h2) ha
    rw [← e]
    refine List.mem_append_right _ ?_
    rcases List.mem_append.1 hb1 with h | h
    · unfold addP at h
      split at h
      · rw [List.mem_singleton] at h
        rw [h, add_key hil]; simp
      · cases h
    · rw [turn_key hil h]; simp
  · split
    · refine ⟨[turnK 3 r (kn x 1) (kitem x)], by simp, fun a ha => ?_⟩
      rcases rm_keys hv.ok hn hr hc hil hb ha with h | h
      · rw [hni] at h; exact List.mem_append_left _ h
      · rw [h]; simp
    · split
      · exact ⟨[turnK (shiftS (stN s x)) r (kn x 1) (kitem x)], by simp, fun a ha => by rw [turn_key hil ha]; simp⟩
      · split
        · refine ⟨[noteK (kn x 1)], by simp, fun a ha => ?_⟩
          unfold noteP at ha
          split at ha
          · rw [List.mem_singleton] at ha
            rw [ha, show akey (noteA s r (opT x) (kn x 1)) = noteK (kn x 1) from akey_kv (noteK_ok hc).len]; simp
          · cases ha
        · have h1 := cl_all (r := r) (c := kn x 1) hv.ok hn hr hc (itm_ok (norm_sta hv.ok).ok (kn x 1))
          refine ⟨(itmS (normP s) (kn x 1)).map (turnK 3 r (kn x 1)), ?_, fun a ha => ?_⟩
          · have h2 := itm_len (normP s) (kn x 1)
            have h3 := norm_len s
            rw [List.length_map]; omega
          · have := h1.2 a ha
            rw [hni] at this ⊢; exact this
theorem stp_all {x : List Int} (hv : StaR s) (hn : s.length ≤ 40000000) (hr : r < 256) (hx : OpOk x) : AOks (dP (normP s) m r x) ∧ (dP (normP s) m r x).length ≤ 2 * s.length + 2 ∧ (normP (s ++ dP (normP s) m r x)).length ≤ 2 * s.length + 2 := by
  rw [norm_id hv]
  by_cases h : dE s m r x = 0
  · have hE : opE x = 0 := by
      by_cases h2 : opE x = 0
      · exact h2
      · rw [dE_e h2] at h; exact absurd h h2
    obtain ⟨_, _, hON, _⟩ := opE_ok hE
    have h1 := mkP_all hv.ok hn hr hx hON
    obtain ⟨K, hK, hk⟩ := mk_keys hv hn hr hx hON
    rw [dP_yes h]
    refine ⟨h1.1, h1.2, ?_⟩
    have h2 := len_keys (K := s.map akey ++ K) (norm_sta (hv.ok.app h1.1)) fun a ha => by
      obtain ⟨b, hb, e⟩ := norm_keys (hv.ok.app h1.1) ha
      rw [← e]
      rcases List.mem_append.1 hb with h | h
      · exact List.mem_append_left _ (List.mem_map.2 ⟨b, h, rfl⟩)
      · exact hk b h
    rw [List.length_append, List.length_map] at h2
    omega
  · rw [dP_no h, List.append_nil, norm_id hv]
    exact ⟨AOks.nil, by simp, by omega⟩
theorem run_all (hv : StaR s) (hr : r < 256) : ∀ {xs : List (List Int)}, OpsOk xs → (s.length + 2) * 2 ^ xs.length ≤ 40000000 → StaR (runS m r s xs) ∧ (runS m r s xs).length + 2 ≤ (s.length + 2) * 2 ^ xs.length := by
  intro xs
  induction xs generalizing s with
  | nil => intro _ _; exact ⟨hv, by simp [runS]⟩
  | cons o xs ih =>
    intro hx hb
    have h2 : (s.length + 2) * 2 ^ (xs.length + 1) = ((s.length + 2) * 2) * 2 ^ xs.length := by rw [Nat.pow_succ, Nat.mul_comm (2 ^ xs.length), ← Nat.mul_assoc]
    rw [List.length_cons, h2] at hb
    have hp : 1 ≤ 2 ^ xs.length := Nat.one_le_two_pow
    have h3 : (s.length + 2) * 2 ≤ ((s.length + 2) * 2) * 2 ^ xs.length := Nat.le_mul_of_pos_right _ hp
    have h1 := stp_all (m := m) (r := r) hv (by omega) hr (hx o (by simp))
    have h4 : ((normP (s ++ dP (normP s) m r o)).length + 2) * 2 ^ xs.length ≤ ((s.length + 2) * 2) * 2 ^ xs.length := Nat.mul_le_mul_right _ (by omega)
    have h5 := ih (s := normP (s ++ dP (normP s) m r o)) (norm_sta (hv.ok.app h1.1)) (fun x hx' => hx x (by simp [hx'])) (Nat.le_trans h4 hb)
    refine ⟨h5.1, ?_⟩
    rw [List.length_cons, h2]
    exact Nat.le_trans h5.2 h4
theorem pow_b {n k : Nat} (hn : n ≤ 30) (hk : k ≤ 20) : (n + 2) * 2 ^ k ≤ 40000000 := by
  have h1 : 2 ^ k ≤ 2 ^ 20 := Nat.pow_le_pow_right (by decide) hk
  have h2 : (n + 2) * 2 ^ k ≤ 32 * 2 ^ 20 := Nat.mul_le_mul (by omega) h1
  omega
/-- the state before the next operation -/
theorem run_at (hv : StaR s) (hr : r < 256) (hn : s.length ≤ 30) {xs : List (List Int)} (hx : OpsOk xs) (hk : xs.length ≤ 20) (k : Nat) : StaR (runS m r s (xs.take k)) ∧ (runS m r s (xs.take k)).length ≤ 40000000 := by
  have hl : (xs.take k).length ≤ 20 := by rw [List.length_take]; omega
  have h := run_all (m := m) hv hr (xs := xs.take k) (fun x h => hx x (List.mem_of_mem_take h)) (pow_b hn hl)
  exact ⟨h.1, by have := pow_b hn hl; omega⟩
end
theorem set_mid {e : List Int} {n : Nat} {x : Int} : (e ++ List.replicate (n + 1) 0).set e.length x = (e ++ [x]) ++ List.replicate n 0 := by
  rw [List.set_append_right _ _ (Nat.le_refl _), Nat.sub_self, List.replicate_succ, List.set_cons_zero, List.append_assoc]; rfl

theorem c_shopRun (w0 : World) (A : Option Addr) (c : Nat) (l : List (List Int)) (hr : Rd w0 A 21 l.length (arows l)) (hv : AOks l) (hn : l.length ≤ 30) (mr : Int) (r : Nat) (hr8 : r < 256) (B : Option Addr) (d : Nat) (xs : List (List Int)) (hr2 : Rd w0 B 19 xs.length (orows xs)) (hxs : OpsOk xs) (hk20 : xs.length ≤ 20)  :
    CallR Tryz.prog 8 #[.slice A l.length c, .int .i64 mr, .int .u8 (r : Int), .slice B xs.length d] w0 fun v w' => ∃ (O : Option Addr) (oc : Nat) (O2 : Option Addr) (oc2 : Nat), v = .tuple #[.slice O (runS mr r (normP l) xs).length oc, .slice O2 (runE mr r (normP l) xs).length oc2] ∧ St NoB w0 w' [.vec O oc 66 21 (runS mr r (normP l) xs).length (arows (runS mr r (normP l) xs)), .vec O2 oc2 39 1 (runE mr r (normP l) xs).length ((runE mr r (normP l) xs).map (Value.int .i64))] := by
 have hS := St.rd2 (S := NoB) hr hr2
 have hst := norm_sta hv
 have hnb := norm_len l
 have hol := orows_len xs
 obtain ⟨s, hs⟩ : ∃ s, normP l = s := ⟨_, rfl⟩
 rw [hs] at hst hnb ⊢
 have hsl : s.length ≤ 30 := by omega
 have hat := run_at (m := mr) hst hr8 hsl hxs hk20
 refine c_enter (l := [.slice A l.length c, .int .i64 mr, .int .u8 (r : Int), .slice B xs.length d, undef, undef, undef, undef, undef, undef, undef, undef, undef, undef, undef, undef, undef, undef, undef, undef, undef, undef, undef, undef, undef, undef, undef, undef, undef, undef, undef, undef, undef, undef, undef, undef, undef, undef, undef, undef, undef, undef, undef]) Tryz.func8 rfl (by simp only [Tryz.ntmps8, List.size_toArray, List.length_cons, List.length_nil, Nat.reduceAdd, Nat.reduceSub, Array.replicate_succ, Array.replicate_zero, List.push_toArray, List.append_toArray, List.nil_append, List.cons_append]) ?_
 refine x_seq fun K1 hK1 => x_region ?_
 refine s_go s_assign ?_
 try simp only [nY]
 refine s_go s_assign ?_
 try simp only [nY]
 refine x_nil (hK1 _ _ ?_)
 refine x_seq fun K2 hK2 => x_region ?_
 refine s_go s_move ?_
 try simp only [nY]
 refine s_call en27 ?_
 try simp only [nY, mY]
 refine CallR.mono (c_latNorm _ A c l (hS.hasRd (by repeat (exact Has.head))) hv (by omega)) ?_
 rintro _ w1 ⟨An, cn, rfl, hC1⟩
 replace hS := hS.call hC1
 simp only [List.cons_append, List.nil_append] at hS
 rw [hs] at hS ⊢
 try simp only [nY]
 refine s_go s_assign ?_
 try simp only [nY]
 refine x_nil (hK2 _ _ ?_)
 refine x_seq fun K3 hK3 => x_region ?_
 refine s_go s_move ?_
 try simp only [nY]
 refine s_go (s_len_sl U30) ?_
 try simp only [nY]
 refine m_make (n := _) U32 ti39 (hx := rfl) (hy := rfl) (h63 := by (simp only [maxLen]; omega)) (hS := hS) (h := fun w2 A2 hS => ?_)
 try simp only [nY, aY] at hS ⊢
 rw [made_int] at hS
 obtain ⟨Oe, hOe⟩ : ∃ z, z = A2 := ⟨_, rfl⟩
 rw [← hOe] at hS ⊢
 refine s_go s_assign ?_
 try simp only [nY]
 refine x_nil (hK3 _ _ ?_)
 refine x_seq fun K4 hK4 => ?_
 refine x_seq fun K5 hK5 => x_region ?_
 refine s_go s_move ?_
 try simp only [nY]
 refine s_go (s_len_sl U30) ?_
 try simp only [nY]
 refine s_go s_move ?_
 try simp only [nY]
 refine x_nil (hK5 _ _ ?_)
 refine x_block ?_
 refine x_loop [0, 11, 12, 13, 21, 22, 23, 24, 25, 26, 27, 28, 29, 30, 31, 32, 33, 34, 35, 36, 37, 38, 39, 40] (fun m f w => ∃ (k : Nat) (O : Option Addr) (oc : Nat), k ≤ xs.length ∧ m = xs.length - k ∧ f 21 = .int .i64 (k : Int) ∧ f 0 = .slice O (runS mr r s (xs.take k)).length oc ∧ St NoB w0 w [.vec O oc 66 21 (runS mr r s (xs.take k)).length (arows (runS mr r s (xs.take k))), .vec Oe xs.length 39 1 xs.length ((runE mr r s (xs.take k) ++ List.replicate (xs.length - k) 0).map (Value.int .i64)), .rd B 19 xs.length (orows xs)]) (xs.length) ?init1 (fun m1 f1 wl1 hI => ?_)
 case init1 =>
  try simp only [nY]
  exact ⟨0, _, _, by omega, rfl, rfl, rfl, hS.selA⟩
 obtain ⟨k, O, oc, hk0, hmk, hfi, hfs, hS⟩ := hI
 simp only [clob, List.foldl, n3, n4, hfi, hfs]
 obtain ⟨x, hxx⟩ : ∃ x, xs.getD k [] = x := ⟨_, rfl⟩
 obtain ⟨hts, htl⟩ := hat k
 have hel := runE_len (m := mr) (r := r) (xs.take k) s
 have htk : (xs.take k).length = k := by rw [List.length_take]; omega
 rw [htk] at hel
 refine x_seq fun K6 hK6 => x_region ?_
 refine s_go s_lss ?_
 try simp only [nY]
 refine x_nil (hK6 _ _ ?_)
 refine x_seq fun K7 hK7 => ?_
 refine x_cond (ht := fun hc1 => ?_) (hf := fun hc1 => ?_)
 ·
  try simp only [dY] at hc1
  have hx : OpOk x := by rw [← hxx]; exact hxs _ (getD_mem' (by omega))
  have hxl := hx.len
  have hosz := op_size hxl
  have hsa := stp_all (m := mr) (r := r) hts htl hr8 hx
  have hsn : runS mr r s (xs.take (k + 1)) = normP (runS mr r s (xs.take k) ++ dP (normP (runS mr r s (xs.take k))) mr r x) := by rw [take_snoc (by omega), hxx, runS_snoc]
  have hen : runE mr r s (xs.take (k + 1)) = runE mr r s (xs.take k) ++ [dE (normP (runS mr r s (xs.take k))) mr r x] := by rw [take_snoc (by omega), hxx, runE_snoc]
  refine x_skip ?_
  refine hK7 _ _ ?_
  refine x_seq fun K8 hK8 => ?_
  refine x_block ?_
  refine x_seq fun K9 hK9 => x_region ?_
  refine s_go s_move ?_
  try simp only [nY]
  refine s_go (m_indexAddr_rd U30 ti27 (hS := hS)) ?_
  try simp only [nY, Nat.mul_one, Nat.zero_add, Int.toNat_natCast, Int.reduceToNat]
  refine s_go (m_loada_rd U27 (hi := ti27) (hS := hS) (hfit := by rw [orows_len]; omega)) ?_
  try simp only [nY, gY]
  rw [orow_get (by omega) hxs, hxx]
  refine m_alloc ti27 hS (fun w3 g3 hS => ?_)
  try simp only [nY, aY] at hS ⊢
  replace hS : St NoB w0 w3 (.obj g3 (.cells (OA (List.replicate 19 0)) 27 (0, 0)) :: _) := hS
  obtain ⟨gx, hgx⟩ : ∃ z, z = g3 := ⟨_, rfl⟩
  rw [← hgx] at hS ⊢
  refine s_go s_assign ?_
  try simp only [nY]
  refine m_store_obj ti27 (hS := hS) (hc := by exact zi_whole (by rfl) (by exact hxl)) (hv := by (show (zi _ _).toArray.size = _; rw [zi_size (by omega)]; rfl)) (hfit := by (simp only [ic_size, List.length_map, List.size_toArray]; decide)) (h1 := by exact zi_one _ _) (h := fun w4 hS => ?_)
  try simp only [nY, aY] at hS ⊢
  refine x_nil (hK9 _ _ ?_)
  refine x_seq fun K10 hK10 => x_region ?_
  refine s_go s_assign ?_
  try simp only [nY]
  refine x_nil (hK10 _ _ ?_)
  refine x_seq fun K11 hK11 => x_region ?_
  refine s_go s_move ?_
  try simp only [nY]
  refine s_go s_move ?_
  try simp only [nY]
  refine s_go s_move ?_
  try simp only [nY]
  refine s_go s_move ?_
  try simp only [nY]
  refine s_go s_move ?_
  try simp only [nY]
  refine s_go (m_load_row U27 (hi := ti27) (hS := hS) (hfit := by omega)) ?_
  try simp only [nY, gY]
  refine s_call en13 ?_
  try simp only [nY, mY]
  refine CallR.mono (c_shopDo _ O oc (runS mr r s (xs.take k)) (hS.vecA) hts.ok htl mr r hr8 x hx) ?_
  rintro _ w5 ⟨Od, od, rfl, hC5⟩
  replace hS := hS.call hC5
  simp only [List.cons_append, List.nil_append] at hS
  try simp only [nY]
  refine s_go s_move ?_
  try simp only [nY]
  refine s_go (s_extract (hv := rfl)) ?_
  try simp only [gY]
  try simp only [nY]
  refine s_go (s_extract (hv := rfl)) ?_
  try simp only [gY]
  try simp only [nY]
  refine s_go s_assign ?_
  try simp only [nY]
  refine s_go (m_indexAddr_vec U32 ti39 (hS := hS)) ?_
  try simp only [nY, Nat.mul_one, Nat.zero_add, Int.toNat_natCast, Int.reduceToNat]
  refine m_store_vec ti39 (hS := hS) (hc := by (exact splice_ic (by (simp [*]; omega)))) (hv := by rfl) (hfit := by (simp [*]; omega)) (h1 := by simp [opv, Value.cells, Value.oneCell']) (h := fun w6 hS => ?_)
  try simp only [nY, aY] at hS ⊢
  rw [show (runE mr r s (xs.take k) ++ List.replicate (xs.length - k) (0 : Int)).set k (dE (normP (runS mr r s (xs.take k))) mr r x) = (runE mr r s (xs.take k) ++ [dE (normP (runS mr r s (xs.take k))) mr r x]) ++ List.replicate (xs.length - (k + 1)) 0 from by
    rw [show xs.length - k = (xs.length - (k + 1)) + 1 by omega]
    have := set_mid (e := runE mr r s (xs.take k)) (n := xs.length - (k + 1)) (x := dE (normP (runS mr r s (xs.take k))) mr r x)
    rw [hel] at this; exact this] at hS
  refine x_nil (hK11 _ _ ?_)
  refine x_region ?_
  refine s_go s_move ?_
  try simp only [nY]
  refine s_go s_move ?_
  try simp only [nY]
  refine s_call en28 ?_
  try simp only [nY, mY]
  refine CallR.mono (c_latJoin _ O oc (runS mr r s (xs.take k)) (hS.vecA) hts.ok Od od (dP (normP (runS mr r s (xs.take k))) mr r x) (hS.vecRd (by repeat (exact Has.head))) hsa.1 (by omega)) ?_
  rintro _ w7 ⟨Oj, oj, rfl, hC7⟩
  replace hS := hS.call hC7
  simp only [List.cons_append, List.nil_append] at hS
  try simp only [nY]
  refine s_go s_assign ?_
  try simp only [nY]
  refine x_nil (hK8 _ _ ?_)
  refine x_region ?_
  refine s_go (s_add (hc := by exact wr_i64 (by omega) (by omega))) ?_
  try simp only [nY]
  refine s_go s_move ?_
  try simp only [nY]
  refine x_nil ?_
  refine loop_back (m' := xs.length - (k + 1)) (by simp only [clob, List.foldl, nZ]) ?_ ?_
  · try simp only [nY]
    exact ⟨k + 1, _, _, by omega, by omega, by rfl, by rw [hsn], by rw [hsn, hen]; exact hS.selA⟩
  · omega
 try simp only [dY] at hc1
 obtain rfl : k = xs.length := by omega
 rw [List.take_of_length_le (Nat.le_refl _)] at hS ⊢
 rw [Nat.sub_self, List.replicate_zero, List.append_nil] at hS
 refine x_exit (look_here ?_)
 refine hK4 _ _ ?_
 refine x_seq fun K12 hK12 => x_region ?_
 refine s_go s_move ?_
 try simp only [nY]
 refine s_go s_move ?_
 try simp only [nY]
 refine s_go s_assign ?_
 try simp only [nY]
 refine s_go s_assign ?_
 try simp only [nY]
 refine x_nil (hK12 _ _ ?_)
 refine x_ret (r_tmp2 rfl ?_)
 rw [runE_len]
 exact ⟨_, _, _, _, rfl, hS.sel (by repeat (first | exact Sel.nil | (refine Sel.cons (by repeat (exact Del.head)) ?_)))⟩
end Go.Proofs.YtpekghaodmeemaaGreat
set_option linter.unusedSimpArgs false
set_option linter.unusedVariables false
set_option maxHeartbeats 2000000
set_option maxRecDepth 100000
namespace Go.Proofs.YtpekghaodmeemaaGreat
open Go.RowKit

abbrev lnKs : List IntKind := [.u8, .u8, .u8, .u8, .u8, .u8, .u8, .u8, .i64]
abbrev LA (y : List Int) : Array Value := (zi lnKs y).toArray
abbrev lrows (l : List (List Int)) : List Value := rowsZ lnKs l
def lnL (l : List (List Int)) (c : Nat) (it : List Int) : List Int := it ++ [qtyN l c it]
def linesL (l : List (List Int)) (c : Nat) : List (List Int) := (itmS (normP l) c).map (lnL l c)
theorem ln_len {l : List (List Int)} {c : Nat} {it : List Int} (h : it.length = 8) : (lnL l c it).length = 9 := by simp [lnL, h]
theorem ln_size {y : List Int} (h : y.length = 9) : (LA y).size = 9 := by simpa using zi_len (ks := lnKs) (by simpa using h)
theorem lrows_len (l : List (List Int)) : (lrows l).length = l.length * 9 := rowsZ_len _ _
theorem lrow_one {y : List Int} (h : y.length = 9) : (LA y).toList = lrows [y] := by
  show (zi lnKs y).toArray.toList = rowsZ lnKs [y]
  rw [rowsZ_one, padL_zi (by simpa using h)]
theorem ladd_one {o : List (List Int)} {y : List Int} : lrows o ++ lrows [y] = lrows (o ++ [y]) := (rowsZ_app _ _ _).symm
theorem lrow_get {l : List (List Int)} {k : Nat} (hk : k < l.length) (hv : ∀ x ∈ l, x.length = 9) : (((lrows l).drop (k * 9)).take 9).toArray = LA (l.getD k []) := by
  have := rowsZ_get (ks := lnKs) hk (by simpa using hv _ (getD_mem' hk))
  rw [show lnKs.length = 9 from rfl] at this
  rw [this]
theorem fill_line {pl : Nat → Option (Nat × Nat)} {it : List Int} {q : Int} (h0 : pl 0 = some (0, 8)) (h1 : pl 1 = some (8, 1)) (hl : it.length = 8) :
    Instr.fill pl #[.int .u8 0, .int .u8 0, .int .u8 0, .int .u8 0, .int .u8 0, .int .u8 0, .int .u8 0, .int .u8 0, .int .i64 0] [(0, .agg (ic .u8 it)), (1, .int .i64 q)] = some (LA (it ++ [q])) := by
  match it, hl with
  | [_, _, _, _, _, _, _, _], _ =>
    refine fill_cons h0 rfl (Nat.le_of_ble_eq_true rfl) ?_
    refine fill_cons h1 rfl (Nat.le_of_ble_eq_true rfl) ?_
    rfl
theorem ln_take {l : List (List Int)} {c : Nat} {t : List (List Int)} {k : Nat} {x : List Int} (hk : k < t.length) (hx : t.getD k [] = x) : (t.take (k + 1)).map (lnL l c) = (t.take k).map (lnL l c) ++ [lnL l c x] := by rw [take_snoc hk, hx, List.map_append]; rfl
theorem lines_9 {l : List (List Int)} (hv : AOks l) (c : Nat) : ∀ x ∈ linesL l c, x.length = 9 := fun x hx => by
  obtain ⟨it, hi, rfl⟩ := List.mem_map.1 hx
  exact ln_len (itm_ok (norm_sta hv).ok c it hi).1
theorem lines_len (l : List (List Int)) (c : Nat) : (linesL l c).length ≤ l.length := by
  rw [linesL, List.length_map]; exact Nat.le_trans (itm_len _ _) (norm_len l)
def VWA (A : Option Addr) (n c : Nat) (tx : List Int) : Array Value := ((.slice A n c) :: tx.map (Value.int .u8)).toArray
theorem vw_size {A : Option Addr} {n c : Nat} {tx : List Int} (h : tx.length = 8) : (VWA A n c tx).size = 9 := by simp [VWA, h]
theorem vw_text {A : Option Addr} {n c : Nat} {tx : List Int} (h : tx.length = 8) : (((VWA A n c tx).toList.drop 1).take 8).toArray = ic .u8 tx := by
  match tx, h with
  | [_, _, _, _, _, _, _, _], _ => rfl
theorem vw_one {A : Option Addr} {n c : Nat} {tx : List Int} : ∀ u ∈ (VWA A n c tx).toList, u.oneCell' = true := by
  intro u hu
  have hu : u = .slice A n c ∨ ∃ a ∈ tx, Value.int .u8 a = u := by simpa [VWA, List.mem_map] using hu
  rcases hu with rfl | ⟨a, _, rfl⟩ <;> rfl
theorem vw_get {A : Option Addr} {n c : Nat} {tx : List Int} : (VWA A n c tx)[0]? = some (.slice A n c) := by simp [VWA]
theorem fill_view {pl : Nat → Option (Nat × Nat)} {A : Option Addr} {n c : Nat} {tx : List Int} (h0 : pl 0 = some (0, 1)) (h1 : pl 1 = some (1, 8)) (hl : tx.length = 8) :
    Instr.fill pl #[.slice none 0 0, .int .u8 0, .int .u8 0, .int .u8 0, .int .u8 0, .int .u8 0, .int .u8 0, .int .u8 0, .int .u8 0] [(0, .slice A n c), (1, .agg (ic .u8 tx))] = some (VWA A n c tx) := by
  match tx, hl with
  | [_, _, _, _, _, _, _, _], _ =>
    refine fill_cons h0 rfl (Nat.le_of_ble_eq_true rfl) ?_
    refine fill_cons h1 rfl (Nat.le_of_ble_eq_true rfl) ?_
    rfl

theorem c_ref17Lines (w0 : World) (A : Option Addr) (c : Nat) (l : List (List Int)) (hr : Rd w0 A 21 l.length (arows l)) (hv : AOks l) (hn : l.length ≤ 1000000000) (ct : Nat) (hct : ct < 65536)  :
    CallR Tryz.prog 24 #[.slice A l.length c, .int .u16 (ct : Int)] w0 fun v w' => ∃ (O : Option Addr) (oc : Nat), v = .slice O (linesL l ct).length oc ∧ St NoB w0 w' [.vec O oc 92 9 (linesL l ct).length (lrows (linesL l ct))] := by
 have hS := St.rd1 (S := NoB) hr
 have hno := (norm_sta hv).ok
 refine c_enter (l := [.slice A l.length c, .int .u16 (ct : Int), undef, undef, undef, undef, undef, undef, undef, undef, undef, undef, undef, undef, undef, undef, undef, undef, undef, undef, undef, undef, undef, undef, undef, undef, undef, undef, undef, undef, undef, undef, undef, undef, undef, undef, undef, undef, undef]) Tryz.func24 rfl (by simp only [Tryz.ntmps24, List.size_toArray, List.length_cons, List.length_nil, Nat.reduceAdd, Nat.reduceSub, Array.replicate_succ, Array.replicate_zero, List.push_toArray, List.append_toArray, List.nil_append, List.cons_append]) ?_
 refine x_seq fun K1 hK1 => x_region ?_
 refine s_go s_assign ?_
 try simp only [nY]
 refine x_nil (hK1 _ _ ?_)
 refine x_seq fun K2 hK2 => x_region ?_
 refine s_go s_assign ?_
 try simp only [nY]
 refine x_nil (hK2 _ _ ?_)
 refine x_seq fun K3 hK3 => x_region ?_
 refine s_go s_move ?_
 try simp only [nY]
 refine s_go s_move ?_
 try simp only [nY]
 refine s_call en48 ?_
 try simp only [nY, mY]
 refine CallR.mono (c_ref14Items _ A c l (hS.hasRd (by repeat (exact Has.head))) hv hn ct hct) ?_
 rintro _ w1 ⟨Ot, ot, rfl, hC1⟩
 replace hS := hS.call hC1
 simp only [List.cons_append, List.nil_append] at hS
 replace hS := hS.vec_rd (by exact Upd.head)
 have hio := itm_ok hno ct
 have hil := itm_len (normP l) ct
 have hnb := norm_len l
 obtain ⟨t, ht⟩ : ∃ t, itmS (normP l) ct = t := ⟨_, rfl⟩
 rw [ht] at hS hio hil ⊢
 have hn8 := nrows_len t
 have hi8 : ∀ x ∈ t, x.length = 8 := fun x hx => (hio x hx).1
 try simp only [nY]
 refine s_go s_assign ?_
 try simp only [nY]
 refine x_nil (hK3 _ _ ?_)
 refine x_seq fun K4 hK4 => ?_
 refine x_seq fun K5 hK5 => x_region ?_
 refine s_go s_assign ?_
 try simp only [nY]
 refine x_nil (hK5 _ _ ?_)
 refine x_block ?_
 refine x_loop [5, 7, 8, 9, 13, 14, 15, 16, 17, 18, 19, 20, 21, 22, 23, 24, 25, 26, 27, 28, 29, 30, 31, 32, 33, 34, 35, 36, 37] (fun m f w => ∃ (k : Nat) (O : Option Addr) (oc : Nat), k ≤ t.length ∧ m = t.length - k ∧ f 7 = .int .i64 (k : Int) ∧ f 5 = .slice O ((t.take k).map (lnL l ct)).length oc ∧ St NoB w0 w [.vec O oc 92 9 ((t.take k).map (lnL l ct)).length (lrows ((t.take k).map (lnL l ct))), .rd Ot 8 t.length (nrows t), .rd A 21 (l).length (arows (l))]) (t.length) ?init1 (fun m1 f1 wl1 hI => ?_)
 case init1 =>
  try simp only [nY]
  replace hS := hS.nil_vec 92 9
  exact ⟨0, none, 0, by omega, rfl, rfl, rfl, hS.sel (by repeat (first | exact Sel.nil | (refine Sel.cons (by repeat (exact Del.head)) ?_)))⟩
 obtain ⟨k, O, oc, hk0, hmk, hf7, hf5, hS⟩ := hI
 simp only [clob, List.foldl, n3, n4, hf7, hf5]
 obtain ⟨x, hx⟩ : ∃ x, t.getD k [] = x := ⟨_, rfl⟩
 have hml : ((t.take k).map (lnL l ct)).length = k := by rw [List.length_map, List.length_take]; omega
 refine x_seq fun K6 hK6 => ?_
 refine x_seq fun K7 hK7 => x_region ?_
 refine s_go s_move ?_
 try simp only [nY]
 refine s_go s_move ?_
 try simp only [nY]
 refine s_go (s_len_sl U89) ?_
 try simp only [nY]
 refine s_go s_lss ?_
 try simp only [nY]
 refine x_nil (hK7 _ _ ?_)
 refine x_cond (ht := fun hc1 => ?_) (hf := fun hc1 => ?_)
 ·
  try simp only [dY] at hc1
  have hxo : x.length = 8 ∧ Byt x := by rw [← hx]; exact hio _ (getD_mem' (by omega))
  have hx8 := hxo.1
  have hst := ln_take (l := l) (c := ct) (by omega) hx
  have hy9 := ln_len (l := l) (c := ct) hx8
  refine x_skip ?_
  refine hK6 _ _ ?_
  refine x_seq fun K8 hK8 => ?_
  refine x_block ?_
  refine x_seq fun K9 hK9 => x_region ?_
  refine s_go s_move ?_
  try simp only [nY]
  refine s_go s_move ?_
  try simp only [nY]
  refine s_go s_move ?_
  try simp only [nY]
  refine s_go s_move ?_
  try simp only [nY]
  refine s_go (m_indexAddr_rd U89 ti25 (hS := hS)) ?_
  try simp only [nY, Nat.mul_one, Nat.zero_add, Int.toNat_natCast, Int.reduceToNat]
  refine s_go (m_loada_rd U25 (hi := ti25) (hS := hS) (hfit := by rw [nrows_len]; omega)) ?_
  try simp only [nY, gY]
  rw [nrow_get (by omega) hi8, hx]
  refine s_call en22 ?_
  try simp only [nY, mY]
  refine CallR.mono (c_ref17Quantity _ A c l (hS.hasA) hv hn ct hct x hx8 hxo.2) ?_
  rintro _ w2 ⟨rfl, hE2⟩
  replace hS := hS.ext hE2
  try simp only [nY]
  refine s_go s_move ?_
  try simp only [nY]
  refine s_go (s_extract (hv := rfl)) ?_
  try simp only [gY]
  try simp only [nY]
  refine s_go (s_extract (hv := rfl)) ?_
  try simp only [gY]
  try simp only [nY]
  refine s_go s_assign ?_
  try simp only [nY]
  refine s_go s_assign ?_
  try simp only [nY]
  refine x_nil (hK9 _ _ ?_)
  refine x_region ?_
  refine s_go s_move ?_
  try simp only [nY]
  refine s_go s_move ?_
  try simp only [nY]
  refine s_go s_move ?_
  try simp only [nY]
  refine s_go (m_indexAddr_rd U89 ti25 (hS := hS)) ?_
  try simp only [nY, Nat.mul_one, Nat.zero_add, Int.toNat_natCast, Int.reduceToNat]
  refine s_go (m_loada_rd U25 (hi := ti25) (hS := hS) (hfit := by rw [nrows_len]; omega)) ?_
  try simp only [nY, gY]
  rw [nrow_get (by omega) hi8, hx]
  refine s_go s_move ?_
  try simp only [nY]
  refine s_go (s_build_struct (cells := (LA (lnL l ct x))) U92 ti92 bp92 (hc := by simp only [List.map_toArray, List.map_cons, List.map_nil, nY, List.toList_toArray]; exact fill_line (by rfl) (by rfl) hx8)) ?_
  try simp only [nY]
  refine m_buildRow (cells := (LA (lnL l ct x))) U54 ti92 (hc := by simp only [List.map_toArray, List.map_cons, List.map_nil, nY, List.toList_toArray]; exact fill_one (by rfl) (ln_size hy9) (by rfl)) (hS := hS) (h := fun w3 g3 hS => ?_)
  try simp only [nY, aY] at hS ⊢
  replace hS := hS.obj_rd (sz := 9) (n := 1) (by exact ln_size hy9) .head
  rw [lrow_one hy9] at hS
  refine m_append U54 ti92 (hS := hS) (h1 := rowsZ_cells _ _) (h := fun w4 A4 C4 hS => ?_)
  try simp only [← List.map_append, ← List.map_drop, ← List.map_take, Nat.mul_one, Nat.zero_mul, Nat.sub_zero, List.drop_zero, List.nil_append, Nat.zero_add] at hS ⊢
  try simp only [nY, aY] at hS ⊢
  rw [ladd_one] at hS
  refine s_go s_assign ?_
  try simp only [nY]
  refine x_nil (hK8 _ _ ?_)
  refine x_region ?_
  refine s_go s_move ?_
  try simp only [nY]
  refine s_go (s_add (hc := by exact wr_i64 (by omega) (by omega))) ?_
  try simp only [nY]
  refine s_go s_assign ?_
  try simp only [nY]
  refine x_nil ?_
  refine loop_back (m' := t.length - (k + 1)) (by simp only [clob, List.foldl, nZ]) ?_ ?_
  · try simp only [nY]
    exact ⟨k + 1, _, _, by omega, by omega, by rfl, by rw [hst, List.length_append]; rfl, by rw [hst, List.length_append]; exact hS.selA⟩
  · omega
 try simp only [dY] at hc1
 obtain rfl : k = t.length := by omega
 rw [List.take_of_length_le (Nat.le_refl _)] at hS ⊢
 refine x_exit (look_here ?_)
 refine hK4 _ _ ?_
 refine x_seq fun K10 hK10 => x_region ?_
 refine s_go s_move ?_
 try simp only [nY]
 refine s_go s_assign ?_
 try simp only [nY]
 refine x_nil (hK10 _ _ ?_)
 refine x_ret (r_tmp rfl ?_)
 unfold linesL
 rw [ht]
 exact ⟨_, _, rfl, hS.sel (by repeat (first | exact Sel.nil | (refine Sel.cons (by repeat (exact Del.head)) ?_)))⟩
theorem c_ref17Rows (w0 : World) (A : Option Addr) (c : Nat) (l : List (List Int)) (hr : Rd w0 A 9 l.length (lrows l)) (hv : ∀ x ∈ l, x.length = 9) (B : Option Addr) (d : Nat) (r : List (List Int)) (hr2 : Rd w0 B 9 r.length (lrows r)) (hv2 : ∀ x ∈ r, x.length = 9) (hn : l.length + r.length ≤ 4000000000)  :
    CallR Tryz.prog 49 #[.slice A l.length c, .slice B r.length d] w0 fun v w' => v = .bool (decide (l = r)) ∧ Ext w0 w' := by
 have hS := St.rd2 (S := NoB) hr hr2
 have hnl := lrows_len l
 have hnr := lrows_len r
 refine c_enter (l := [.slice A l.length c, .slice B r.length d, undef, undef, undef, undef, undef, undef, undef, undef, undef, undef, undef, undef, undef, undef, undef, undef, undef, undef, undef, undef, undef, undef, undef, undef]) Tryz.func49 rfl (by simp only [Tryz.ntmps49, List.size_toArray, List.length_cons, List.length_nil, Nat.reduceAdd, Nat.reduceSub, Array.replicate_succ, Array.replicate_zero, List.push_toArray, List.append_toArray, List.nil_append, List.cons_append]) ?_
 refine x_seq fun K1 hK1 => x_region ?_
 refine s_go s_assign ?_
 try simp only [nY]
 refine x_nil (hK1 _ _ ?_)
 refine x_seq fun K2 hK2 => ?_
 refine x_seq fun K3 hK3 => x_region ?_
 refine s_go s_move ?_
 try simp only [nY]
 refine s_go (s_len_sl U54) ?_
 try simp only [nY]
 refine s_go s_move ?_
 try simp only [nY]
 refine s_go (s_len_sl U54) ?_
 try simp only [nY]
 refine s_go s_neq ?_
 try simp only [nY]
 refine x_nil (hK3 _ _ ?_)
 refine x_cond (ht := fun hc1 => ?_) (hf := fun hc1 => ?_)
 ·
  try simp only [dY] at hc1
  have hne : ¬ l = r := fun h => hc1 (by rw [h])
  refine x_seq fun K4 hK4 => x_region ?_
  refine s_go s_assign ?_
  try simp only [nY]
  refine x_nil (hK4 _ _ ?_)
  refine x_ret (r_tmp rfl ?_)
  exact ⟨by rw [decide_eq_false hne]; rfl, hS.ext_of⟩
 try simp only [dY] at hc1
 have hlr : l.length = r.length := by omega
 refine x_skip ?_
 refine hK2 _ _ ?_
 refine x_seq fun K5 hK5 => ?_
 refine x_seq fun K6 hK6 => x_region ?_
 refine s_go s_assign ?_
 try simp only [nY]
 refine x_nil (hK6 _ _ ?_)
 refine x_block ?_
 refine x_loop [4, 5, 11, 12, 13, 14, 15, 16, 17, 18, 19, 20, 21, 22, 23, 24, 25] (fun m f w => ∃ k : Nat, k ≤ l.length ∧ m = l.length - k ∧ f 5 = .int .i64 (k : Int) ∧ l.take k = r.take k ∧ St NoB w0 w [.rd A 9 l.length (lrows l), .rd B 9 r.length (lrows r)]) (l.length) ?init1 (fun m1 f1 wl1 hI => ?_)
 case init1 =>
  try simp only [nY]
  exact ⟨0, by omega, rfl, rfl, rfl, hS⟩
 obtain ⟨k, hk0, hm, hf5, hab, hS⟩ := hI
 simp only [clob, List.foldl, n3, n4, hf5]
 obtain ⟨x, hx⟩ : ∃ x, l.getD k [] = x := ⟨_, rfl⟩
 obtain ⟨y, hy⟩ : ∃ y, r.getD k [] = y := ⟨_, rfl⟩
 refine x_seq fun K7 hK7 => ?_
 refine x_seq fun K8 hK8 => x_region ?_
 refine s_go s_move ?_
 try simp only [nY]
 refine s_go s_move ?_
 try simp only [nY]
 refine s_go (s_len_sl U54) ?_
 try simp only [nY]
 refine s_go s_lss ?_
 try simp only [nY]
 refine x_nil (hK8 _ _ ?_)
 refine x_cond (ht := fun hc2 => ?_) (hf := fun hc2 => ?_)
 ·
  try simp only [dY] at hc2
  have hxl : x.length = 9 := by rw [← hx]; exact hv _ (getD_mem' (by omega))
  have hyl : y.length = 9 := by rw [← hy]; exact hv2 _ (getD_mem' (by omega))
  refine x_skip ?_
  refine hK7 _ _ ?_
  refine x_seq fun K9 hK9 => ?_
  refine x_block ?_
  refine x_seq fun K10 hK10 => ?_
  refine x_quiet (by kernel_rfl) (by kernel_rfl) hS ?_
  refine q_go (fun w hS => s_move) ?_
  try simp only [nY]
  refine q_go (fun w hS => s_move) ?_
  try simp only [nY]
  refine q_go (fun w hS => m_indexAddr_rd U54 ti92 (hS := hS)) ?_
  try simp only [nY, Nat.mul_one, Nat.zero_add, Int.toNat_natCast, Int.reduceToNat]
  refine q_go (fun w hS => m_loada_rd U92 (hi := ti92) (hS := hS) (hfit := by rw [lrows_len]; omega)) ?_
  try simp only [nY, gY]
  rw [lrow_get (by omega) hv, hx]
  refine q_go (fun w hS => s_move) ?_
  try simp only [nY]
  refine q_go (fun w hS => s_move) ?_
  try simp only [nY]
  refine q_go (fun w hS => m_indexAddr_rd U54 ti92 (hS := hS)) ?_
  try simp only [nY, Nat.mul_one, Nat.zero_add, Int.toNat_natCast, Int.reduceToNat]
  refine q_go (fun w hS => m_loada_rd U92 (hi := ti92) (hS := hS) (hfit := by rw [lrows_len]; omega)) ?_
  try simp only [nY, gY]
  rw [lrow_get (by omega) hv2, hy]
  refine q_go (fun w hS => s_neq_agg eqv92 (hg := eg92) (hX := rfl) (hY := rfl) (h1 := by assumption) (h2 := by assumption)) ?_
  try simp only [nY]
  clear hS
  refine q_nil fun w1 hS => ?_
  refine hK10 _ _ ?_
  refine x_cond (ht := fun hc3 => ?_) (hf := fun hc3 => ?_)
  ·
   try simp only [dY] at hc3
   have hne : ¬ l = r := fun h => by rw [h, hy] at hx; exact absurd hx.symm (by simpa using hc3)
   refine x_seq fun K11 hK11 => x_region ?_
   refine s_go s_assign ?_
   try simp only [nY]
   refine x_nil (hK11 _ _ ?_)
   refine x_ret (r_tmp rfl ?_)
   exact ⟨by rw [decide_eq_false hne]; rfl, hS.ext_of⟩
  try simp only [dY] at hc3
  have hxy : x = y := by simpa using hc3
  refine x_skip ?_
  refine hK9 _ _ ?_
  refine x_region ?_
  refine s_go s_move ?_
  try simp only [nY]
  refine s_go (s_add (hc := by exact wr_i64 (by omega) (by omega))) ?_
  try simp only [nY]
  refine s_go s_assign ?_
  try simp only [nY]
  refine x_nil ?_
  refine loop_back (m' := l.length - (k + 1)) (by simp only [clob, List.foldl, nZ]) ?_ ?_
  · try simp only [nY]
    exact ⟨k + 1, by omega, by omega, by rfl, by rw [take_snoc (by omega), take_snoc (by omega), hab, hx, hy, hxy], hS⟩
  · omega
 try simp only [dY] at hc2
 obtain rfl : k = l.length := by omega
 have heq : l = r := by rw [List.take_of_length_le (Nat.le_refl _), hlr, List.take_of_length_le (Nat.le_refl _)] at hab; exact hab
 refine x_exit (look_here ?_)
 refine hK5 _ _ ?_
 refine x_seq fun K12 hK12 => x_region ?_
 refine s_go s_assign ?_
 try simp only [nY]
 refine x_nil (hK12 _ _ ?_)
 refine x_ret (r_tmp rfl ?_)
 exact ⟨by rw [decide_eq_true heq]; rfl, hS.ext_of⟩
end Go.Proofs.YtpekghaodmeemaaGreat
set_option linter.unusedSimpArgs false
set_option linter.unusedVariables false
set_option maxHeartbeats 2000000
set_option maxRecDepth 100000
namespace Go.Proofs.YtpekghaodmeemaaGreat
open Go.RowKit
theorem c_ref17Of (w0 : World) (A : Option Addr) (c : Nat) (l : List (List Int)) (hr : Rd w0 A 21 l.length (arows l)) (hv : AOks l) (hn : l.length ≤ 1000000000) (ct : Nat) (hct : ct < 65536)  :
    CallR Tryz.prog 26 #[.slice A l.length c, .int .u16 (ct : Int)] w0 fun v w' => ∃ (O : Option Addr) (oc : Nat), v = .agg (VWA O (linesL l ct).length oc (noteT l ct)) ∧ St NoB w0 w' [.vec O oc 92 9 (linesL l ct).length (lrows (linesL l ct))] := by
 have hS := St.rd1 (S := NoB) hr
 have htl : (noteT l ct).length = 8 := vtext_len ((fndD_ok (k := noteK ct) (norm_sta hv).ok).len)
 refine c_enter (l := [.slice A l.length c, .int .u16 (ct : Int), undef, undef, undef, undef, undef, undef, undef, undef, undef, undef, undef, undef, undef, undef, undef, undef, undef, undef]) Tryz.func26 rfl (by simp only [Tryz.ntmps26, List.size_toArray, List.length_cons, List.length_nil, Nat.reduceAdd, Nat.reduceSub, Array.replicate_succ, Array.replicate_zero, List.push_toArray, List.append_toArray, List.nil_append, List.cons_append]) ?_
 refine x_seq fun K1 hK1 => x_region ?_
 refine m_alloc ti58 hS (fun w1 g1 hS => ?_)
 try simp only [nY, aY] at hS ⊢
 obtain ⟨gv, hgv⟩ : ∃ z, z = g1 := ⟨_, rfl⟩
 rw [← hgv] at hS ⊢
 refine x_nil (hK1 _ _ ?_)
 refine x_seq fun K2 hK2 => x_region ?_
 refine s_go s_move ?_
 try simp only [nY]
 refine s_go s_move ?_
 try simp only [nY]
 refine s_call en23 ?_
 try simp only [nY, mY]
 refine CallR.mono (c_ref16Get _ A c l (hS.hasA) hv hn ct hct) ?_
 rintro _ w2 ⟨rfl, hE2⟩
 replace hS := hS.ext hE2
 try simp only [nY]
 refine s_go s_move ?_
 try simp only [nY]
 refine s_go (s_extract (hv := rfl)) ?_
 try simp only [gY]
 try simp only [nY]
 refine s_go (s_extract (hv := rfl)) ?_
 try simp only [gY]
 try simp only [nY]
 refine s_go (s_extract (hv := rfl)) ?_
 try simp only [gY]
 try simp only [nY]
 refine m_alloc ti25 hS (fun w3 g3 hS => ?_)
 try simp only [nY, aY] at hS ⊢
 obtain ⟨gt, hgt⟩ : ∃ z, z = g3 := ⟨_, rfl⟩
 rw [← hgt] at hS ⊢
 refine m_store_obj ti25 (hS := hS) (hc := by exact splice_whole (by exact (ic_size _ _).trans htl)) (h := fun w4 hS => ?_)
 try simp only [nY, aY] at hS ⊢
 refine s_go s_assign ?_
 try simp only [nY]
 refine s_go s_assign ?_
 try simp only [nY]
 refine x_nil (hK2 _ _ ?_)
 refine x_seq fun K3 hK3 => ?_
 refine x_mixed_c (Lc := [.obj gt (.cells (ic .u8 (noteT l ct)) 25 (0, 0)), .rd A 21 (l).length (arows (l))]) [5] 0 [15, 16, 17, 18, 19] (fun f w => ∃ (O : Option Addr) (oc : Nat), St NoB w0 w [.obj gv (.cells (VWA O (linesL l ct).length oc (noteT l ct)) 58 (0, 0)), .vec O oc 92 9 (linesL l ct).length (lrows (linesL l ct))]) (by kernel_rfl) (by kernel_rfl) (by kernel_rfl) (by decide) hS (fun w5 hS => ?mixpre201) ?mixrest201
 case mixpre201 =>
  refine p_nil ?_
  simp only [List.length_cons, List.length_nil, Nat.reduceAdd, Nat.reduceSub]
  refine any_go (i := 0) (by rfl) (by decide +kernel) (by decide +kernel) (by unfold noLate; decide) (go_yields w_none (fun w hS => s_move)) ?_
  try simp only [nY]
  refine any_go (i := 1) (by rfl) (by decide +kernel) (by decide +kernel) (by unfold noLate; decide) (go_yields w_none (fun w hS => s_move)) ?_
  try simp only [nY]
  refine any_go (i := 3) (by rfl) (by decide +kernel) (by decide +kernel) (by unfold noLate; decide) (go_yields w_none (fun w hS => m_load_row U25 (hi := ti25) (hS := hS) (hfit := by rw [ic_size, htl]))) ?_
  try simp only [nY, gY]
  refine any_step [2] (by kernel_rfl) (by decide) (fun w6 hE => ⟨fun _ => (hS.ext hE).sel (by repeat (first | exact Sel.nil | (refine Sel.cons (by repeat (first | exact Del.head | apply Del.tail)) ?_))), ?_⟩)
  replace hS := hS.ext hE
  intro i hi
  simp only [List.mem_cons, List.not_mem_nil, or_false] at hi
  subst hi
  refine any_op (by rfl) ?_
  refine s_call en24 ?_
  try simp only [nY, mY]
  refine CallR.mono (c_ref17Lines _ A c l (hS.hasA) hv hn ct hct) ?_
  rintro _ w7 ⟨Ol, ol, rfl, hC7⟩
  replace hS := hS.call hC7
  simp only [List.cons_append, List.nil_append] at hS
  try simp only [nY]
  refine x_nil ?_
  refine any_go (i := 4) (by rfl) (by decide +kernel) (by decide +kernel) (by unfold noLate; decide) (go_yields w_none (fun w hS => s_build_struct (cells := (VWA Ol (linesL l ct).length ol (noteT l ct))) U58 ti58 bp58 (hc := by simp only [List.map_toArray, List.map_cons, List.map_nil, nY, List.toList_toArray]; exact fill_view (by rfl) (by rfl) htl))) ?_
  try simp only [nY]
  refine any_step [5] (by kernel_rfl) (by decide) (fun w8 hE => ⟨fun _ => (hS.ext hE).sel (by repeat (first | exact Sel.nil | (refine Sel.cons (by repeat (first | exact Del.head | apply Del.tail)) ?_))), ?_⟩)
  replace hS := hS.ext hE
  intro i hi
  simp only [List.mem_cons, List.not_mem_nil, or_false] at hi
  subst hi
  refine any_op (by rfl) ?_
  refine m_store_obj ti58 (hS := hS) (hv := by exact vw_size htl) (h1 := by exact vw_one) (hc := by exact splice_whole (by exact vw_size htl)) (h := fun w9 hS => ?_)
  try simp only [nY, aY] at hS ⊢
  refine x_nil ?_
  refine any_nil (by kernel_rfl) (fun w10 hE => ?_)
  replace hS := hS.ext hE
  refine ⟨fun hl => absurd (hl 5 (by decide)) (by decide +kernel), ?_⟩
  refine mix_leaf (by simp only [clob, List.foldl, nZ]) ?_
  try simp only [n1, n2]
  exact ⟨_, _, hS.selA⟩
 intro fm1 w11 hM
 obtain ⟨O, oc, hS⟩ := hM
 simp only [clob, List.foldl, n3, n4]
 refine hK3 _ _ ?_
 refine x_ret ?_
 refine r_cell_agg rfl U58 ti58 (hS := hS) (hfit := by exact vw_size htl) (hR := ?_)
 exact ⟨_, _, rfl, hS.selA⟩
theorem c_ref17Same (w0 : World) (A : Option Addr) (c : Nat) (l : List (List Int)) (hr : Rd w0 A 9 l.length (lrows l)) (hv : ∀ x ∈ l, x.length = 9) (tx : List Int) (hx8 : tx.length = 8) (B : Option Addr) (d : Nat) (r : List (List Int)) (hr2 : Rd w0 B 9 r.length (lrows r)) (hv2 : ∀ x ∈ r, x.length = 9) (ty : List Int) (hy8 : ty.length = 8) (hn : l.length + r.length ≤ 4000000000)  :
    CallR Tryz.prog 25 #[.agg (VWA A l.length c tx), .agg (VWA B r.length d ty)] w0 fun v w' => v = .bool (decide (tx = ty) && decide (l = r)) ∧ Ext w0 w' := by
 have hS := St.rd2 (S := NoB) hr hr2
 have hsa := vw_size (A := A) (n := l.length) (c := c) hx8
 have hsb := vw_size (A := B) (n := r.length) (c := d) hy8
 refine c_enter (l := [.agg (VWA A l.length c tx), .agg (VWA B r.length d ty), undef, undef, undef, undef, undef, undef, undef, undef, undef, undef, undef, undef, undef, undef, undef]) Tryz.func25 rfl (by simp only [Tryz.ntmps25, List.size_toArray, List.length_cons, List.length_nil, Nat.reduceAdd, Nat.reduceSub, Array.replicate_succ, Array.replicate_zero, List.push_toArray, List.append_toArray, List.nil_append, List.cons_append]) ?_
 refine x_seq fun K1 hK1 => x_region ?_
 refine m_box hS (fun w1 g1 hS => ?_)
 try simp only [nY, aY] at hS ⊢
 refine m_box hS (fun w2 g2 hS => ?_)
 try simp only [nY, aY] at hS ⊢
 refine s_go s_assign ?_
 try simp only [nY]
 refine x_nil (hK1 _ _ ?_)
 refine x_seq fun K2 hK2 => x_region ?_
 refine s_go (m_fieldAddr U58 (hi := ti25)) ?_
 try simp only [nY, fY, gY]
 refine s_go (m_loada_obj U25 (hi := ti25) (hS := hS) (hfit := by omega)) ?_
 try simp only [nY, gY]
 rw [vw_text hx8]
 refine s_go (m_fieldAddr U58 (hi := ti25)) ?_
 try simp only [nY, fY, gY]
 refine s_go (m_loada_obj U25 (hi := ti25) (hS := hS) (hfit := by omega)) ?_
 try simp only [nY, gY]
 rw [vw_text hy8]
 refine s_go (s_eql_agg eqv25 (hg := eg25) (hX := zi_ic (by assumption)) (hY := zi_ic (by assumption)) (h1 := by assumption) (h2 := by assumption)) ?_
 try simp only [nY]
 refine s_go s_move ?_
 try simp only [nY]
 refine s_part 10 rfl (fun hp1 => ?_) (fun hp1 => ?_)
 ·
  try simp only [n3, n4]
  try simp only [dZ, ne_eq] at hp1
  refine g_on (yi (t := 10) rfl rfl) ?_
  refine s_go (m_fieldAddr U58 (hi := ti54)) ?_
  try simp only [nY, fY, gY]
  refine g_on (yi (t := 10) rfl rfl) ?_
  refine s_go (m_load_obj U54 (hS := hS) (hv := vw_get)) ?_
  try simp only [nY, gY]
  refine g_on (yi (t := 10) rfl rfl) ?_
  refine s_go (m_fieldAddr U58 (hi := ti54)) ?_
  try simp only [nY, fY, gY]
  refine g_on (yi (t := 10) rfl rfl) ?_
  refine s_go (m_load_obj U54 (hS := hS) (hv := vw_get)) ?_
  try simp only [nY, gY]
  refine g_on (yi (t := 10) rfl rfl) ?_
  refine s_call en49 ?_
  try simp only [nY, mY]
  refine CallR.mono (c_ref17Rows _ A c l (hS.hasA) hv B d r (hS.hasA) hv2 hn) ?_
  rintro _ w3 ⟨rfl, hE3⟩
  replace hS := hS.ext hE3
  try simp only [nY]
  refine s_go s_pick_t ?_
  try simp only [nY]
  refine s_go s_assign ?_
  try simp only [nY]
  refine x_nil (hK2 _ _ ?_)
  refine x_ret (r_tmp rfl ?_)
  exact ⟨by rw [show decide (tx = ty) = true by simpa using hp1]; rfl, hS.ext_of⟩
 try simp only [n3, n4]
 try simp only [dZ, ne_eq] at hp1
 refine g_off (yi (t := 10) rfl rfl) ?_
 try simp only [nY]
 refine g_off (yi (t := 10) rfl rfl) ?_
 try simp only [nY]
 refine g_off (yi (t := 10) rfl rfl) ?_
 try simp only [nY]
 refine g_off (yi (t := 10) rfl rfl) ?_
 try simp only [nY]
 refine g_off (yi (t := 10) rfl rfl) ?_
 try simp only [nY]
 refine s_go s_pick_f ?_
 try simp only [nY]
 refine s_go s_assign ?_
 try simp only [nY]
 refine x_nil (hK2 _ _ ?_)
 refine x_ret (r_tmp rfl ?_)
 exact ⟨by rw [show decide (tx = ty) = false by simpa using hp1]; rfl, hS.ext_of⟩
end Go.Proofs.YtpekghaodmeemaaGreat
set_option linter.unusedSimpArgs false
set_option linter.unusedVariables false
set_option maxHeartbeats 400000
set_option maxRecDepth 100000
namespace Go.Proofs.YtpekghaodmeemaaGreat
open Go.RowKit

def o1 : List Int := [1, 1] ++ cup8 ++ [3] ++ nm0
def o2 : List Int := [3, 1] ++ cup8 ++ [1] ++ nm0
def o3 : List Int := [2, 1] ++ cup8 ++ [0] ++ nm0
theorem oo_ok : OpsOk [o1, o2, o3] := by
  intro x hx
  simp only [List.mem_cons, List.not_mem_nil, or_false] at hx
  rcases hx with rfl | rfl | rfl
  · exact ⟨rfl, by decide, by decide, rfl, by decide, by unfold Byt; decide, by decide, by decide, by unfold Byt; decide⟩
  · exact ⟨rfl, by decide, by decide, rfl, by decide, by unfold Byt; decide, by decide, by decide, by unfold Byt; decide⟩
  · exact ⟨rfl, by decide, by decide, rfl, by decide, by unfold Byt; decide, by decide, by decide, by unfold Byt; decide⟩
def alS : List (List Int) := runS 99 0 (normP []) [o1, o2, o3]
theorem al_e : runE 99 0 (normP []) [o1, o2, o3] = [0, 0, 0] := by decide +kernel
theorem al_ok : AOks alS := (run_at (m := 99) (r := 0) (s := normP []) StaR.nil (by decide) (by decide) oo_ok (by decide) 3).1.ok
theorem al_len : alS.length = 3 := by decide +kernel
theorem al_ln : (linesL alS 1).length = 0 := by decide +kernel
theorem al_tot : totL (normP alS) 1 cup8 = 0 := by decide +kernel

theorem c_law18alive  (w0 : World) :
    CallR Tryz.prog 7 #[] w0 fun v w' => v = .bool true ∧ Ext w0 w' := by
 have hS : St NoB w0 w0 [] := St.start w0
 have hc8 : cup8.length = 8 := rfl
 have hn8 : nm0.length = 8 := rfl
 have hlen := al_len
 refine c_enter (l := [undef, undef, undef, undef, undef, undef, undef, undef, undef, undef, undef, undef, undef, undef, undef, undef, undef, undef, undef, undef, undef, undef, undef, undef, undef, undef, undef, undef, undef, undef, undef, undef, undef, undef, undef, undef, undef, undef, undef, undef, undef, undef]) Tryz.func7 rfl (by simp only [Tryz.ntmps7, List.size_toArray, List.length_cons, List.length_nil, Nat.reduceAdd, Nat.reduceSub, Array.replicate_succ, Array.replicate_zero, List.push_toArray, List.append_toArray, List.nil_append, List.cons_append]) ?_
 refine x_seq fun K1 hK1 => x_region ?_
 refine s_go s_assign ?_
 try simp only [nY]
 refine x_nil (hK1 _ _ ?_)
 refine x_seq fun K2 hK2 => x_region ?_
 refine s_go (s_build_arr (cells := #[_, _, _, .int .u8 0, .int .u8 0, .int .u8 0, .int .u8 0, .int .u8 0]) U25 ti25 ti5 (hc := by simp only [List.map_toArray, List.map_cons, List.map_nil, nY, List.toList_toArray]; (repeat (refine fill_cons rfl rfl (Nat.le_of_ble_eq_true rfl) ?_)); rfl)) ?_
 try simp only [nY]
 rw [show (#[.int .u8 99, .int .u8 117, .int .u8 112, .int .u8 0, .int .u8 0, .int .u8 0, .int .u8 0, .int .u8 0] : Array Value) = ic .u8 cup8 from rfl]
 refine m_alloc ti25 hS (fun w1 g1 hS => ?_)
 try simp only [nY, aY] at hS ⊢
 replace hS : St _ _ w1 (.obj g1 (.cells (ic .u8 nm0) 25 (0, 0)) :: _) := hS
 obtain ⟨gc, hgc⟩ : ∃ z, z = g1 := ⟨_, rfl⟩
 rw [← hgc] at hS ⊢
 refine m_store_obj ti25 (hS := hS) (h := fun w2 hS => ?_)
 try simp only [nY, aY] at hS ⊢
 refine x_nil (hK2 _ _ ?_)
 refine x_seq fun K3 hK3 => x_region ?_
 refine s_go (m_load_row U25 (hi := ti25) (hS := hS)) ?_
 try simp only [nY, gY]
 refine s_go (s_build_struct (cells := (OA o1)) U27 ti27 bp27 (hc := by simp only [List.map_toArray, List.map_cons, List.map_nil, nY, List.toList_toArray]; (repeat (refine fill_cons rfl rfl (Nat.le_of_ble_eq_true rfl) ?_)); rfl)) ?_
 try simp only [nY]
 refine s_go (m_load_row U25 (hi := ti25) (hS := hS)) ?_
 try simp only [nY, gY]
 refine s_go (s_build_struct (cells := (OA o2)) U27 ti27 bp27 (hc := by simp only [List.map_toArray, List.map_cons, List.map_nil, nY, List.toList_toArray]; (repeat (refine fill_cons rfl rfl (Nat.le_of_ble_eq_true rfl) ?_)); rfl)) ?_
 try simp only [nY]
 refine s_go (m_load_row U25 (hi := ti25) (hS := hS)) ?_
 try simp only [nY, gY]
 refine s_go (s_build_struct (cells := (OA o3)) U27 ti27 bp27 (hc := by simp only [List.map_toArray, List.map_cons, List.map_nil, nY, List.toList_toArray]; (repeat (refine fill_cons rfl rfl (Nat.le_of_ble_eq_true rfl) ?_)); rfl)) ?_
 try simp only [nY]
 refine m_buildRow (cells := (orows [o1, o2, o3]).toArray) U30 ti27 (hc := by simp only [List.map_toArray, List.map_cons, List.map_nil, nY, List.toList_toArray]; (repeat (refine fill_cons rfl rfl (Nat.le_of_ble_eq_true rfl) ?_)); rfl) (hS := hS) (h := fun w3 g3 hS => ?_)
 try simp only [nY, aY] at hS ⊢
 replace hS := hS.obj_rd (sz := 19) (n := 3) rfl .head
 replace hS := hS.rd_none none 21
 refine s_call en8 ?_
 try simp only [nY, mY]
 refine CallR.mono (c_shopRun _ none 0 [] (hS.hasRd (by repeat (exact Has.head))) AOks.nil (by decide) 99 0 (by decide) _ _ [o1, o2, o3] (hS.hasA) oo_ok (by decide)) ?_
 rintro _ w4 ⟨Os, os, Oe, oe, rfl, hC4⟩
 replace hS := hS.call hC4
 simp only [List.cons_append, List.nil_append] at hS
 rw [al_e] at hS ⊢
 replace hS : St NoB w0 w4 (.vec Os os _ _ (alS).length (arows (alS)) :: _) := hS
 rw [show runS 99 0 (normP []) [o1, o2, o3] = alS from rfl]
 simp only [List.length_cons, List.length_nil, Nat.reduceAdd, Nat.zero_add] at hS ⊢
 try simp only [nY]
 refine s_go s_move ?_
 try simp only [nY]
 refine s_go (s_extract (hv := rfl)) ?_
 try simp only [gY]
 try simp only [nY]
 refine s_go (s_extract (hv := rfl)) ?_
 try simp only [gY]
 try simp only [nY]
 refine s_go s_assign ?_
 try simp only [nY]
 refine s_go s_assign ?_
 try simp only [nY]
 refine x_nil (hK3 _ _ ?_)
 refine x_seq fun K4 hK4 => x_region ?_
 refine s_go s_move ?_
 try simp only [nY]
 refine s_go (s_len_sl U32) ?_
 try simp only [nY]
 refine s_go s_eql ?_
 try simp only [nY]
 try simp only [decide_true, eq_self]
 refine s_go s_move ?_
 try simp only [nY]
 refine g_on (yi (t := 19) rfl rfl) ?_
 refine s_go s_move ?_
 try simp only [nY]
 refine g_on (yi (t := 19) rfl rfl) ?_
 refine s_go (m_indexAddr_vec U32 ti39 (hS := hS)) ?_
 try simp only [nY, Nat.mul_one, Nat.zero_add, Int.toNat_natCast, Int.reduceToNat]
 refine g_on (yi (t := 19) rfl rfl) ?_
 refine s_go (m_load_vec U39 (hS := hS)) ?_
 try simp only [nY, gY]
 try rw [show ([0, 0, 0] : List Int).getD 2 0 = 0 from rfl]
 refine g_on (yi (t := 19) rfl rfl) ?_
 refine s_go s_eql ?_
 try simp only [nY]
 try simp only [eq_self, decide_true, beq_self_eq_true, Bool.and_self]
 refine s_go s_pick_t ?_
 try simp only [nY]
 refine s_go s_move ?_
 try simp only [nY]
 refine g_on (yi (t := 25) rfl rfl) ?_
 refine s_go s_move ?_
 try simp only [nY]
 refine g_on (yi (t := 25) rfl rfl) ?_
 refine s_call en24 ?_
 try simp only [nY, mY]
 refine CallR.mono (c_ref17Lines _ Os os alS (hS.vecRd (by repeat (exact Has.head))) al_ok (by omega) 1 (by decide)) ?_
 rintro _ w5 ⟨Ol, ol, rfl, hC5⟩
 replace hS := hS.call hC5
 simp only [List.cons_append, List.nil_append] at hS
 rw [al_ln] at hS ⊢
 try simp only [nY]
 refine g_on (yi (t := 25) rfl rfl) ?_
 refine s_go (s_len_sl U54) ?_
 try simp only [nY]
 refine g_on (yi (t := 25) rfl rfl) ?_
 refine s_go s_eql ?_
 try simp only [nY]
 try simp only [eq_self, decide_true, beq_self_eq_true, Bool.and_self]
 refine s_go s_pick_t ?_
 try simp only [nY]
 refine s_go s_move ?_
 try simp only [nY]
 refine g_on (yi (t := 31) rfl rfl) ?_
 refine s_go s_move ?_
 try simp only [nY]
 refine g_on (yi (t := 31) rfl rfl) ?_
 refine s_go (m_load_row U25 (hi := ti25) (hS := hS)) ?_
 try simp only [nY, gY]
 refine g_on (yi (t := 31) rfl rfl) ?_
 refine s_call en20 ?_
 try simp only [nY, mY]
 refine CallR.mono (c_ref15Total _ Os os alS (hS.vecA) al_ok (by omega) 1 (by decide) cup8 rfl cup8_byt) ?_
 rintro _ w6 ⟨rfl, hE6⟩
 replace hS := hS.ext hE6
 try simp only [nY]
 rw [al_tot]
 refine g_on (yi (t := 31) rfl rfl) ?_
 refine s_go s_eql ?_
 try simp only [nY]
 try simp only [eq_self, decide_true, beq_self_eq_true, Bool.and_self]
 refine s_go s_pick_t ?_
 try simp only [nY]
 refine s_go s_move ?_
 try simp only [nY]
 refine g_on (yi (t := 37) rfl rfl) ?_
 refine s_go s_move ?_
 try simp only [nY]
 refine g_on (yi (t := 37) rfl rfl) ?_
 refine s_go (s_len_sl U22) ?_
 try simp only [nY]
 refine g_on (yi (t := 37) rfl rfl) ?_
 refine s_go s_gtr ?_
 try simp only [nY]
 rw [show decide ((0 : Int) < (alS.length : Int)) = true by rw [al_len]; rfl]
 refine s_go s_pick_t ?_
 try simp only [nY]
 refine s_go s_assign ?_
 try simp only [nY]
 refine x_nil (hK4 _ _ ?_)
 refine x_ret (r_tmp rfl ?_)
 exact ⟨rfl, hS.ext_of⟩
end Go.Proofs.YtpekghaodmeemaaGreat
set_option linter.unusedSimpArgs false
set_option linter.unusedVariables false
set_option maxHeartbeats 400000
set_option maxRecDepth 100000
namespace Go.Proofs.YtpekghaodmeemaaGreat
open Go.RowKit

def qaL (r : Nat) (x : List Int) (m : Int) : List Value := .int .u8 (r : Int) :: (zi opKs x ++ [.int .i64 m])
abbrev QA (r : Nat) (x : List Int) (m : Int) : Array Value := (qaL r x m).toArray
section
variable {r : Nat} {x : List Int} {m : Int}
theorem qa_size (h : x.length = 19) : (QA r x m).size = 21 := by simp [QA, qaL, op_llen h]
theorem qa_0 : (QA r x m)[0]? = some (.int .u8 (r : Int)) := by simp [QA, qaL]
theorem qa_m (h : x.length = 19) : (QA r x m)[20]? = some (.int .i64 m) := by
  have := op_llen h
  simp [QA, qaL, List.getElem?_append_right, this]
theorem qa_op (h : x.length = 19) : (((QA r x m).toList.drop 1).take 19).toArray = OA x := by
  have := op_llen h
  simp only [QA, qaL, List.toList_toArray, List.drop_succ_cons, List.drop_zero]
  rw [List.take_left' this]
end

end Go.Proofs.YtpekghaodmeemaaGreat
set_option linter.unusedSimpArgs false
set_option linter.unusedVariables false
set_option maxHeartbeats 400000
set_option maxRecDepth 100000
namespace Go.Proofs.YtpekghaodmeemaaGreat
open Go.RowKit

section
variable {l r : List (List Int)}
theorem fnd_out (hr : AOks r) {k : List Int} (h : ∀ b ∈ r, ¬ akey b = k) : fnd k (normP r) = none := by rw [fnd_norm hr, lk, lk_none h]
theorem filter_same (hv : AOks l) (hr : AOks r) (Q : List Int → Bool) (h : ∀ a ∈ r, Q (akey a) = false) : (normP (l ++ r)).filter (fun a => Q (akey a)) = (normP l).filter (fun a => Q (akey a)) := by
  have h1 := norm_sta (hv.app hr)
  have h2 := norm_sta hv
  have key : ∀ k, Q k = true → fnd k (normP (l ++ r)) = fnd k (normP l) := fun k hk => fnd_join_l hv hr (fnd_out hr fun b hb e => by have := h b hb; rw [e, hk] at this; cases this)
  refine sta_ext (h1.sub List.filter_sublist) (h2.sub List.filter_sublist) fun a => ?_
  rw [List.mem_filter, List.mem_filter]
  constructor
  · rintro ⟨ha, hq⟩
    exact ⟨(mem_fnd h2.knd).1 (by rw [← key _ hq]; exact (mem_fnd h1.knd).2 ha), hq⟩
  · rintro ⟨ha, hq⟩
    exact ⟨(mem_fnd h1.knd).1 (by rw [key _ hq]; exact (mem_fnd h2.knd).2 ha), hq⟩
theorem filter_in {α : Type} {p q : α → Bool} {s : List α} (h : ∀ a ∈ s, p a = true → q a = true) : s.filter p = (s.filter q).filter p := by
  rw [List.filter_filter]
  refine List.filter_congr fun a ha => ?_
  cases hp : p a
  · rfl
  · rw [h a ha hp]; rfl
theorem tag_by (hv : AOks l) (hr : AOks r) (Q : List Int → Bool) (h : ∀ a ∈ r, Q (akey a) = false) (c n : Nat) (it : List Int) (hq : ∀ a : List Int, a.length = 21 → tagQ c it n a = true → Q (akey a) = true) : tagS (normP (l ++ r)) c it n = tagS (normP l) c it n := by
  rw [tagS, tagS, filter_in (q := fun a => Q (akey a)) (fun a ha hp => hq a ((norm_sta (hv.app hr)).ok a ha).len hp), filter_same hv hr Q h, ← filter_in (fun a ha hp => hq a ((norm_sta hv).ok a ha).len hp)]
theorem tot_filter (c : Nat) (it : List Int) (q : List Int → Bool) : ∀ {s : List (List Int)}, (∀ a ∈ s, q a = false → totA c it a = 0) → totL s c it = totL (s.filter q) c it
  | [], _ => rfl
  | a :: s, h => by
    have ih := tot_filter c it q (s := s) fun b hb => h b (by simp [hb])
    rw [tot_cons, ih]
    cases hq : q a
    · rw [List.filter_cons_of_neg (by rw [hq]; decide), h a (by simp) hq]; omega
    · rw [List.filter_cons_of_pos hq, tot_cons]
theorem tot_by (hv : AOks l) (hr : AOks r) (Q : List Int → Bool) (h : ∀ a ∈ r, Q (akey a) = false) (c : Nat) (it : List Int) (hq : ∀ a : List Int, a.length = 21 → Q (akey a) = false → totA c it a = 0) : totL (normP (l ++ r)) c it = totL (normP l) c it := by
  rw [tot_filter c it (fun a => Q (akey a)) (fun a ha hp => hq a ((norm_sta (hv.app hr)).ok a ha).len hp), filter_same hv hr Q h, ← tot_filter c it (fun a => Q (akey a)) (fun a ha hp => hq a ((norm_sta hv).ok a ha).len hp)]
theorem tag_not1 (hv : AOks l) (hr : AOks r) (h : ∀ a ∈ r, ¬ kn (akey a) 0 = 1) (c n : Nat) (it : List Int) : tagS (normP (l ++ r)) c it n = tagS (normP l) c it n :=
  tag_by hv hr (fun k => decide (kn k 0 = 1)) (fun a ha => decide_eq_false (h a ha)) c n it fun a ha hq => decide_eq_true ((tagQ_iff ha c n it).1 hq).1.1
theorem tot_1 (hv : AOks l) (hr : AOks r) (h : ∀ a ∈ r, kn (akey a) 0 = 1) (c : Nat) (it : List Int) : totL (normP (l ++ r)) c it = totL (normP l) c it :=
  tot_by hv hr (fun k => !decide (kn k 0 = 1)) (fun a ha => by simp [h a ha]) c it fun a ha hq => by
    have e : kn (akey a) 0 = 1 := by simpa using hq
    rw [(akey_k ha).1] at e
    rw [totA, if_neg (fun q => by omega)]
theorem turn_k0 {s k q c : Nat} {it : List Int} {n : Int} {m : List (List Int)} (h8 : it.length = 8) {a : List Int} (ha : a ∈ turnP m s q c it n) : kn (akey a) 0 = s := by rw [turn_key h8 ha]; rfl
theorem turn_k1 {s k q c : Nat} {it : List Int} {n : Int} {m : List (List Int)} (h8 : it.length = 8) {a : List Int} (ha : a ∈ turnP m s q c it n) : kn (akey a) 1 = c := by rw [turn_key h8 ha]; rfl
theorem drp_k0 (hv : StaR l) {c : Nat} {it a : List Int} (ha : a ∈ drpS l c it) : kn (akey a) 0 = 1 := by
  obtain ⟨b, hb, rfl⟩ := List.mem_map.1 ha
  obtain ⟨h1, h2⟩ := List.mem_filter.1 hb
  rw [akey_drop (hv.ok b h1)]
  exact ((tagQ_iff (hv.ok b h1).len c 1 it).1 h2).1.1
end
section
variable {s : List (List Int)} {r c : Nat} {it : List Int}
/-- an addition and a raise -/
theorem add_reads (hs : StaR s) (hr : r < 256) (hc : c < 65536) (h8 : it.length = 8) (hb : Byt it) {n : Int} (hn2 : n ≤ 9223372036854775807) (hA : addE s r it = 0) (hT : turnE s 2 r c it n = 0) :
    0 < (tagS (normP (s ++ normP (addP s r c it ++ turnP s 2 r c it n))) c it 1).length ∧ totL (normP (s ++ normP (addP s r c it ++ turnP s 2 r c it n))) c it = totL s c it + n := by
  have hpo := addP_aok (c := c) hs.ok hr hc h8 hb
  have hto := turnP_ok (n := n) hs.ok (.inl rfl) hr hc h8 hb hn2
  have hni := norm_id hs
  rw [norm_app_r hs.ok (hpo.app hto), ← List.append_assoc]
  have hpe : addP s r c it = [addA s r c it] := by rw [addP, if_pos hA]
  have hk : ∀ a ∈ addP s r c it, kn (akey a) 0 = 1 := fun a ha => by
    rw [hpe, List.mem_singleton] at ha
    rw [ha, add_key h8]; rfl
  constructor
  · rw [tag_not1 (hs.ok.app hpo) hto (fun a ha => by rw [turn_k0 (k := 0) h8 ha]; decide), hpe]
    have h1 := win_add (m := []) hs.ok AOks.nil hr hc h8 hb hA rfl
    rw [List.append_nil, norm_norm (norm_sta (hs.ok.app (hpe ▸ hpo))).ok, norm_norm (hs.ok.app (hpe ▸ hpo)), List.length_map] at h1
    have := of_decide_eq_true h1
    omega
  · have hf : fnd (turnK 2 r c it) (normP (s ++ addP s r c it)) = fnd (turnK 2 r c it) (normP s) := fnd_join_l hs.ok hpo (fnd_out hpo fun b hb e => by have := hk b hb; rw [e] at this; cases this)
    have h1 := turn_add hs.ok (hs.ok.app hpo) (.inl rfl) hr hc h8 hb hn2 hf c
    rw [if_pos rfl, if_pos hT, tot_1 hs.ok hpo hk, hni] at h1
    rw [h1]; rfl
/-- a removal -/
theorem rem_reads (hs : StaR s) (hr : r < 256) (hc : c < 65536) (h8 : it.length = 8) (hb : Byt it) {n : Int} (hn2 : n ≤ 9223372036854775807) (hT : turnE s 3 r c it n = 0) :
    tagS (normP (s ++ normP (drpS s c it ++ turnP s 3 r c it n))) c it 1 = [] ∧ totL (normP (s ++ normP (drpS s c it ++ turnP s 3 r c it n))) c it = totL s c it - n := by
  have hdo := (drp_sta hs c it).ok
  have hto := turnP_ok (n := n) hs.ok (.inr rfl) hr hc h8 hb hn2
  have hni := norm_id hs
  rw [norm_app_r hs.ok (hdo.app hto), ← List.append_assoc]
  constructor
  · rw [tag_not1 (hs.ok.app hdo) hto (fun a ha => by rw [turn_k0 (k := 0) h8 ha]; decide)]
    have h1 := win_gone hs.ok c it
    rw [hni, norm_norm (hs.ok.app hdo)] at h1
    exact h1
  · have hf : fnd (turnK 3 r c it) (normP (s ++ drpS s c it)) = fnd (turnK 3 r c it) (normP s) := fnd_join_l hs.ok hdo (fnd_out hdo fun b hb e => by have := drp_k0 hs hb; rw [e] at this; cases this)
    have h1 := turn_add hs.ok (hs.ok.app hdo) (.inr rfl) hr hc h8 hb hn2 hf c
    rw [if_pos rfl, if_pos hT, tot_1 hs.ok hdo (fun a ha => drp_k0 hs ha), hni] at h1
    rw [h1]; show _ + -n = _; omega
/-- a shift to a number -/
theorem set_reads (hs : StaR s) (hr : r < 256) (hc : c < 65536) (h8 : it.length = 8) (hb : Byt it) {by' : Int} (hb2 : by' ≤ 9223372036854775807) (hT : turnE s (shiftS by') r c it (shiftN by') = 0) :
    tagS (normP (s ++ turnP s (shiftS by') r c it (shiftN by'))) c it 1 = tagS s c it 1 ∧ totL (normP (s ++ turnP s (shiftS by') r c it (shiftN by'))) c it = totL s c it + by' := by
  have hsl := shiftN_le hb2
  have hto := turnP_ok (n := shiftN by') hs.ok (shiftS_or by') hr hc h8 hb hsl.1
  have hni := norm_id hs
  constructor
  · rw [tag_not1 hs.ok hto (fun a ha => by rw [turn_k0 (k := 0) h8 ha]; rcases shiftS_or by' with h | h <;> rw [h] <;> decide), hni]
  · have h1 := turn_add hs.ok hs.ok (shiftS_or by') hr hc h8 hb hsl.1 rfl c
    rw [if_pos rfl, if_pos hT, hni] at h1
    rw [h1]
    congr 1
    obtain ⟨_, _, _, h4⟩ := turnE_iff hT
    by_cases h : 0 ≤ by'
    · obtain ⟨e1, e2⟩ := shift_p h
      rw [e1, e2]; rfl
    · obtain ⟨e1, e2⟩ := shift_m h
      rw [e1]; rw [e2] at h4 ⊢
      show -(-(max by' (-4294967296))) = by'
      omega
end
end Go.Proofs.YtpekghaodmeemaaGreat
set_option linter.unusedSimpArgs false
set_option linter.unusedVariables false
set_option maxHeartbeats 400000
set_option maxRecDepth 100000
namespace Go.Proofs.YtpekghaodmeemaaGreat
open Go.RowKit

section
variable {s : List (List Int)} {r c : Nat}
theorem rm_gone (hs : StaR s) (hn : s.length ≤ 40000000) (hr : r < 256) (hc : c < 65536) {it k v : List Int} (h8 : it.length = 8) (hb : Byt it) (hq : KQ c it k) (hf : fnd k s = some v) (h1 : kn v 0 = 1) : 36893488147419103233 ≤ rnk (fnd k (normP (rmP s r c it))) := by
  have hni := norm_id hs
  have hao := rm_aok (r := r) (c := c) hs.ok hn hr hc h8 hb
  have hd := drp_sta hs c it
  rw [rmP, norm_norm hao]
  rw [hni] at hao ⊢
  have hto := turnP_ok (n := qtyN s c it) hs.ok (.inr rfl) hr hc h8 hb (by have := qty_b hs.ok (by omega) c it; omega)
  rw [val_join hd.ok hto, norm_id hd, (fnd_drp hs c it k).1 hq ⟨v, hf, h1⟩]
  have h2 : rnk (some (mkV 2 nm0)) = 36893488147419103233 := by decide +kernel
  omega
theorem cl_gone (hs : StaR s) (hn : s.length ≤ 40000000) (hr : r < 256) (hc : c < 65536) {k v : List Int} (hf : fnd k s = some v) (h1 : kn v 0 = 1) {it : List Int} (hq : KQ c it k) : ∀ (ns o : List (List Int)), (∀ x ∈ ns, x.length = 8 ∧ Byt x) → StaR o → (it ∈ ns ∨ 36893488147419103233 ≤ rnk (fnd k o)) → 36893488147419103233 ≤ rnk (fnd k (ns.foldl (fun o it => normP (o ++ rmP s r c it)) o))
  | [], o, _, _, h => h.resolve_left (by simp)
  | y :: ns, o, h8, ho, h => by
    rw [List.foldl_cons]
    have hy := h8 y (by simp)
    have hro := rmP_ok (r := r) (c := c) hs.ok hn hr hc hy.1 hy.2
    refine cl_gone hs hn hr hc hf h1 hq ns _ (fun x hx => h8 x (by simp [hx])) (norm_sta (ho.ok.app hro)) ?_
    have hj := val_join ho.ok hro k
    rw [norm_id ho] at hj
    rcases h with h | h
    · rcases List.mem_cons.1 h with rfl | h
      · right
        have := rm_gone (r := r) hs hn hr hc hy.1 hy.2 hq hf h1
        omega
      · exact .inl h
    · right; omega
theorem clr_reads (hs : StaR s) (hn : s.length ≤ 40000000) (hr : r < 256) (hc : c < 65536) : itmS (normP (s ++ clP s r c (itmS s c))) c = [] := by
  have hio := itm_ok hs.ok c
  obtain ⟨hcs, hck⟩ := cl_all (r := r) hs.ok hn hr hc hio
  have hni := norm_id hs
  have hj := norm_sta (hs.ok.app hcs.ok)
  have hfil : (normP (s ++ clP s r c (itmS s c))).filter (liveQ c) = [] := by
    refine List.filter_eq_nil_iff.2 fun a ha hq => ?_
    have hao := hj.ok a ha
    rw [live_key hao] at hq
    simp only [Bool.and_eq_true, decide_eq_true_eq] at hq
    obtain ⟨q0, q1, q2⟩ := hq
    have h3 := (mem_fnd hj.knd).2 ha
    have h4 := val_join hs.ok hcs.ok (akey a)
    rw [h3, hni, norm_id hcs] at h4
    have h5 := rnk_one hao.val q2
    cases hf : fnd (akey a) s with
    | none =>
      obtain ⟨b, hb, e⟩ := norm_keys (hs.ok.app hcs.ok) ha
      have hno := fnd_none.1 hf
      rcases List.mem_append.1 hb with hb | hb
      · exact hno b hb e
      · have h6 := hck b hb
        rw [hni, e] at h6
        rcases List.mem_append.1 h6 with h6 | h6
        · obtain ⟨d, hd, e2⟩ := List.mem_map.1 h6
          exact hno d hd e2
        · obtain ⟨it, _, e2⟩ := List.mem_map.1 h6
          rw [← e2] at q0
          exact absurd q0 (show ¬ (3 : Nat) = 1 by decide)
    | some v =>
      obtain ⟨b, hb, hbk, rfl⟩ := fnd_mem hf
      have hbo := hs.ok b hb
      rcases tag_val hbo (hs.right b hb) (by rw [hbk]; exact q0) with h1 | h1
      · have hlive : liveQ c b = true := by
          rw [live_key hbo, hbk, decide_eq_true q0, decide_eq_true q1, decide_eq_true h1]; rfl
        have hin : kitem (akey a) ∈ itmS s c := mem_ded.2 (List.mem_map.2 ⟨b, List.mem_filter.2 ⟨hb, hlive⟩, by rw [hbk]⟩)
        have := cl_gone (r := r) hs hn hr hc hf h1 (it := kitem (akey a)) ⟨q0, q1, rfl⟩ (itmS s c) [] hio StaR.nil (.inl hin)
        rw [show (itmS s c).foldl (fun o it => normP (o ++ rmP s r c it)) [] = clP s r c (itmS s c) from rfl] at this
        omega
      · have h2 := kn_rank hbo.val
        rw [hf] at h4
        have h6 : rnk (some (aval b)) = rankV (aval b) + 1 := rfl
        omega
  rw [itmS, nmsS, hfil]; rfl
theorem norm_cart {d : List (List Int)} (hd : AOks d) (h : ∀ a ∈ d, kn (akey a) 1 = c) : ∀ a ∈ normP d, kn (akey a) 1 = c := fun a ha => by
  obtain ⟨b, hb, e⟩ := norm_keys hd ha
  rw [← e]; exact h b hb
theorem rm_cart (hs : StaR s) (hn : s.length ≤ 40000000) (hr : r < 256) (hc : c < 65536) {it : List Int} (h8 : it.length = 8) (hb : Byt it) : ∀ a ∈ rmP s r c it, kn (akey a) 1 = c := by
  refine norm_cart (rm_aok hs.ok hn hr hc h8 hb) fun a ha => ?_
  rcases List.mem_append.1 ha with ha | ha
  · exact drp_cart (norm_sta hs.ok) c it a ha
  · exact turn_k1 (k := 0) h8 ha
theorem cl_cart (hs : StaR s) (hn : s.length ≤ 40000000) (hr : r < 256) (hc : c < 65536) : ∀ (ns o : List (List Int)), (∀ x ∈ ns, x.length = 8 ∧ Byt x) → StaR o → (∀ a ∈ o, kn (akey a) 1 = c) → ∀ a ∈ ns.foldl (fun o it => normP (o ++ rmP s r c it)) o, kn (akey a) 1 = c
  | [], _, _, _, h => h
  | y :: ns, o, h8, ho, h => by
    rw [List.foldl_cons]
    have hy := h8 y (by simp)
    have hro := rmP_ok (r := r) (c := c) hs.ok hn hr hc hy.1 hy.2
    refine cl_cart hs hn hr hc ns _ (fun x hx => h8 x (by simp [hx])) (norm_sta (ho.ok.app hro)) (norm_cart (ho.ok.app hro) fun a ha => ?_)
    rcases List.mem_append.1 ha with ha | ha
    · exact h a ha
    · exact rm_cart hs hn hr hc hy.1 hy.2 a ha
theorem mk_cart {x : List Int} (hs : StaR s) (hn : s.length ≤ 40000000) (hr : r < 256) (hx : OpOk x) : ∀ a ∈ mkP s r x, kn (akey a) 1 = kn x 1 := by
  have hil := op_il hx.len
  have hb := hx.item
  have hc := hx.b1
  unfold mkP
  split
  · refine norm_cart ((addP_aok hs.ok hr hc hil hb).app (turnP_ok (n := opN x) hs.ok (.inl rfl) hr hc hil hb hx.m2)) fun a ha => ?_
    rcases List.mem_append.1 ha with ha | ha
    · exact addP_cart hil a ha
    · exact turn_k1 (k := 0) hil ha
  · split
    · exact rm_cart hs hn hr hc hil hb
    · split
      · exact fun a ha => turn_k1 (k := 0) hil ha
      · split
        · intro a ha
          unfold noteP at ha
          split at ha
          · rw [List.mem_singleton] at ha
            rw [ha, show akey (noteA s r (opT x) (kn x 1)) = noteK (kn x 1) from akey_kv (noteK_ok hc).len]; rfl
          · cases ha
        · exact cl_cart hs hn hr hc _ [] (itm_ok (norm_sta hs.ok).ok _) StaR.nil (fun a ha => by cases ha)
end
theorem dE_inv {s : List (List Int)} {m : Int} {r : Nat} {x : List Int} (h : dE s m r x = 0) : opE x = 0 ∧ r < 16 ∧ ¬ ((opK x = 2 ∨ opK x = 3) ∧ qtyB s (kn x 1) (kitem x) = false) ∧ mkE s r x = 0 := by
  unfold dE at h
  split at h
  · next q => exact absurd h q
  · next h1 =>
    split at h
    · cases h
    · next h2 =>
      split at h
      · cases h
      · next h3 =>
        split at h
        · next q => exact absurd h q
        · next h4 => exact ⟨by omega, by omega, h3, by omega⟩
/-- rows of one cart leave what another one is read as -/
theorem oth_reads {l d : List (List Int)} (hv : AOks l) (hd : AOks d) {c c' : Nat} (hne : ¬ c = c') (h : ∀ a ∈ d, kn (akey a) 1 = c) : noteT (normP (l ++ d)) c' = noteT l c' ∧ linesL (normP (l ++ d)) c' = linesL l c' := by
  have hnn := norm_norm (hv.app hd)
  have hQ : ∀ a ∈ d, (fun k : List Int => decide (kn k 1 = c')) (akey a) = false := fun a ha => decide_eq_false fun e => hne ((h a ha).symm.trans e)
  constructor
  · rw [noteT, noteT, noteV, noteV, hnn, fnd_join_l hv hd (fnd_out hd fun b hb e => hne ((h b hb).symm.trans (by rw [e]; rfl)))]
  · rw [linesL, linesL, itm_other hv hd hne h]
    refine List.map_congr_left fun it _ => ?_
    have e1 : ∀ n, tagS (normP (l ++ d)) c' it n = tagS (normP l) c' it n := fun n => tag_by hv hd (fun k => decide (kn k 1 = c')) hQ c' n it fun a ha hq => decide_eq_true ((tagQ_iff ha c' n it).1 hq).1.2.1
    have e2 : totL (normP (l ++ d)) c' it = totL (normP l) c' it := tot_by hv hd (fun k => decide (kn k 1 = c')) hQ c' it fun a ha hq => by
      have e : ¬ kn (akey a) 1 = c' := of_decide_eq_false hq
      rw [(akey_k ha).2] at e
      rw [totA, if_neg (fun q => e q.2.1)]
    rw [lnL, lnL, qtyN, qtyN, qtyB, qtyB, hnn, e1, e2]
theorem rd_all {l : List (List Int)} {m : Int} {r : Nat} {x : List Int} (hv : AOks l) (hn : l.length ≤ 40) (hr : r < 256) (hx : OpOk x) (hD : dE (normP l) m r x = 0) {J : List (List Int)} (hJ : normP (l ++ dP (normP l) m r x) = J) :
    (opK x = 1 → 0 < ((tagS (normP J) (kn x 1) (kitem x) 1).map akey).length ∧ totL (normP J) (kn x 1) (kitem x) = totL (normP l) (kn x 1) (kitem x) + opN x) ∧
    (opK x = 2 → ((tagS (normP J) (kn x 1) (kitem x) 1).map akey).length = 0 ∧ totL (normP J) (kn x 1) (kitem x) = min (totL (normP l) (kn x 1) (kitem x)) 0) ∧
    (opK x = 3 → 0 < ((tagS (normP J) (kn x 1) (kitem x) 1).map akey).length ∧ totL (normP J) (kn x 1) (kitem x) = opN x) ∧
    (opK x = 4 → noteT J (kn x 1) = opT x ∧ noteR J (kn x 1) = r) ∧
    (opK x = 5 → (linesL J (kn x 1)).length = 0) ∧
    (opK x ≤ 3 → totL (normP J) (kn x 1) (kitem x) - totL (normP l) (kn x 1) (kitem x) = amtN l x) ∧
    (∀ c', ¬ kn x 1 = c' → noteT J c' = noteT l c' ∧ linesL J c' = linesL l c') := by
  have hil := op_il hx.len
  have htl := op_tl hx.len
  have hb := hx.item
  have hc := hx.b1
  have hm2 := hx.m2
  have hm1 := hx.m1
  have hs := norm_sta hv
  have hnl := norm_len l
  have hni := norm_id hs
  obtain ⟨hE, hr16, hP, hM⟩ := dE_inv hD
  obtain ⟨hK, _, hON, _⟩ := opE_ok hE
  obtain ⟨hmo, _⟩ := mkP_all hs.ok (by omega) hr hx hON
  rw [dP_yes hD] at hJ
  have hJ2 : normP (normP l ++ mkP (normP l) r x) = J := by rw [norm_app_l hv hmo]; exact hJ
  have hJn : normP J = J := by rw [← hJ]; exact norm_norm (hv.app hmo)
  have htb := tot_b hv (by omega) (kn x 1) (kitem x)
  rw [hJn]
  have hqb : qtyB (normP l) (kn x 1) (kitem x) = qtyB l (kn x 1) (kitem x) := by rw [qtyB, qtyB, hni]
  have hqn : qtyN (normP l) (kn x 1) (kitem x) = qtyN l (kn x 1) (kitem x) := by rw [qtyN, qtyN, hqb, hni]
  have f1 : opK x = 1 → 0 < ((tagS J (kn x 1) (kitem x) 1).map akey).length ∧ totL J (kn x 1) (kitem x) = totL (normP l) (kn x 1) (kitem x) + opN x := fun h => by
    have eM : mkE (normP l) r x = adE (normP l) r x := by rw [mkE, if_pos h]
    have eP : mkP (normP l) r x = adP (normP l) r x := by rw [mkP, if_pos h]
    have hA : addE (normP l) r (kitem x) = 0 := by
      by_cases q : addE (normP l) r (kitem x) = 0
      · exact q
      · rw [eM, ad_1 q] at hM; exact absurd hM q
    rw [eM, ad_0 hA] at hM
    rw [eP, adP] at hJ2
    have := add_reads hs hr hc hil hb hm2 hA hM
    rw [hJ2] at this
    rw [List.length_map]; exact this
  have f2 : opK x = 2 → ((tagS J (kn x 1) (kitem x) 1).map akey).length = 0 ∧ totL J (kn x 1) (kitem x) = min (totL (normP l) (kn x 1) (kitem x)) 0 := fun h => by
    have hq : qtyB (normP l) (kn x 1) (kitem x) = true := by
      cases e : qtyB (normP l) (kn x 1) (kitem x)
      · exact absurd ⟨.inl h, e⟩ hP
      · rfl
    have eM : mkE (normP l) r x = rmE (normP l) r (kn x 1) (kitem x) := by rw [mkE, if_neg (by omega), if_pos h]
    have eP : mkP (normP l) r x = rmP (normP l) r (kn x 1) (kitem x) := by rw [mkP, if_neg (by omega), if_pos h]
    rw [eM, rmE] at hM
    rw [eP, rmP, hni] at hJ2
    have hqv := qty_yes hq
    rw [hni] at hqv
    have := rem_reads hs hr hc hil hb (n := qtyN (normP l) (kn x 1) (kitem x)) (by omega) hM
    rw [hJ2] at this
    rw [this.1, this.2, hqv]
    exact ⟨rfl, by omega⟩
  have f3 : opK x = 3 → 0 < ((tagS J (kn x 1) (kitem x) 1).map akey).length ∧ totL J (kn x 1) (kitem x) = opN x := fun h => by
    have hq : qtyB (normP l) (kn x 1) (kitem x) = true := by
      cases e : qtyB (normP l) (kn x 1) (kitem x)
      · exact absurd ⟨.inr h, e⟩ hP
      · rfl
    have hq2 := of_decide_eq_true hq
    have eM : mkE (normP l) r x = stE (normP l) r x := by rw [mkE, if_neg (by omega), if_neg (by omega), if_pos h]
    have eP : mkP (normP l) r x = stP (normP l) r x := by rw [mkP, if_neg (by omega), if_neg (by omega), if_pos h]
    have hN := hON (.inr h)
    rw [eM, stE] at hM
    rw [eP, stP] at hJ2
    have hst : stN (normP l) x = opN x - totL (normP l) (kn x 1) (kitem x) := by rw [stN, hni]
    have := set_reads hs hr hc hil hb (by' := stN (normP l) x) (by omega) hM
    rw [hJ2] at this
    rw [this.1, this.2, hst]
    rw [hni] at hq2
    exact ⟨hq2, by omega⟩
  refine ⟨f1, f2, f3, fun h => ?_, fun h => ?_, fun h => ?_, fun c' hne => ?_⟩
  · have eM : mkE (normP l) r x = noteE (normP l) r (opT x) (kn x 1) := by rw [mkE, if_neg (by omega), if_neg (by omega), if_neg (by omega), if_pos h]
    have eP : mkP (normP l) r x = noteP (normP l) r (opT x) (kn x 1) := by rw [mkP, if_neg (by omega), if_neg (by omega), if_neg (by omega), if_pos h]
    rw [eM] at hM
    rw [eP, noteP, if_pos hM] at hJ2
    rw [← hJ2]
    exact ⟨nl_t hs.ok hr hc htl hx.text hM, nl_r hs.ok hr hc htl hx.text hM⟩
  · have eP : mkP (normP l) r x = clP (normP l) r (kn x 1) (itmS (normP l) (kn x 1)) := by rw [mkP, if_neg (by omega), if_neg (by omega), if_neg (by omega), if_neg (by omega), hni]
    rw [eP] at hJ2
    have := clr_reads (r := r) hs (by omega) hr hc
    rw [linesL, List.length_map, hJn, ← hJ2, this]; rfl
  · rcases (show opK x = 1 ∨ opK x = 2 ∨ opK x = 3 by omega) with h | h | h
    · rw [amt_1 hE h, (f1 h).2]; omega
    · have hq : qtyB l (kn x 1) (kitem x) = true := by
        rw [← hqb]
        cases e : qtyB (normP l) (kn x 1) (kitem x)
        · exact absurd ⟨.inl h, e⟩ hP
        · rfl
      rw [amt_2 hE h hq, (f2 h).2, qty_yes hq]; omega
    · have hq : qtyB l (kn x 1) (kitem x) = true := by
        rw [← hqb]
        cases e : qtyB (normP l) (kn x 1) (kitem x)
        · exact absurd ⟨.inr h, e⟩ hP
        · rfl
      rw [amt_3 hE h hq, (f3 h).2]
  · rw [← hJ]
    exact oth_reads hv hmo hne (mk_cart hs (by omega) hr hx)
end Go.Proofs.YtpekghaodmeemaaGreat
set_option linter.unusedSimpArgs false
set_option linter.unusedVariables false
set_option maxHeartbeats 400000
set_option maxRecDepth 100000
namespace Go.Proofs.YtpekghaodmeemaaGreat
open Go.RowKit

theorem wrap_next {n : Nat} : IntKind.u16.wrap ((n : Int) + 1) = (((n + 1) % 65536 : Nat) : Int) := by
  rw [show (n : Int) + 1 = ((n + 1 : Nat) : Int) by omega]; exact cv_u16 rfl

theorem c_ShopReads (w0 : World) (A : Option Addr) (c : Nat) (l : List (List Int)) (hr : Rd w0 A 21 l.length (arows l)) (hv : AOks l) (hn : l.length ≤ 900000000000000) (r : Nat) (hr8 : r < 256) (x : List Int) (hx : OpOk x) (mr : Int)  :
    CallR Tryz.prog 6 #[.slice A l.length c, .agg (QA r x mr)] w0 fun v w' => v = .bool true ∧ Ext w0 w' := by
 have hS := St.rd1 (S := NoB) hr
 have hxl := hx.len
 have hil := op_il hxl
 have htl := op_tl hxl
 have hk1 := hx.k1
 have hk2 := hx.k2
 have hm1 := hx.m1
 have hm2 := hx.m2
 have hbi := hx.item
 have hbt := hx.text
 have hcx := hx.b1
 have hqs := qa_size (r := r) (m := mr) hxl
 have hxs := op_size hxl
 refine c_enter (l := [.slice A l.length c, .agg (QA r x mr), undef, undef, undef, undef, undef, undef, undef, undef, undef, undef, undef, undef, undef, undef, undef, undef, undef, undef, undef, undef, undef, undef, undef, undef, undef, undef, undef, undef, undef, undef, undef, undef, undef, undef, undef, undef, undef, undef, undef, undef, undef, undef, undef, undef, undef, undef, undef, undef, undef, undef, undef, undef, undef, undef, undef, undef, undef, undef, undef, undef, undef, undef, undef, undef, undef, undef, undef, undef, undef, undef, undef, undef, undef, undef, undef, undef, undef, undef, undef, undef, undef, undef, undef, undef, undef, undef, undef, undef, undef, undef, undef, undef, undef, undef, undef, undef, undef, undef, undef, undef, undef, undef, undef, undef, undef, undef, undef, undef, undef, undef, undef, undef, undef, undef, undef, undef, undef, undef, undef, undef, undef, undef, undef, undef, undef, undef, undef, undef, undef, undef, undef, undef, undef, undef, undef, undef, undef, undef, undef, undef, undef, undef, undef, undef, undef, undef, undef, undef, undef, undef, undef, undef, undef, undef, undef, undef, undef, undef, undef]) Tryz.func6 rfl (by simp only [Tryz.ntmps6, List.size_toArray, List.length_cons, List.length_nil, Nat.reduceAdd, Nat.reduceSub, Array.replicate_succ, Array.replicate_zero, List.push_toArray, List.append_toArray, List.nil_append, List.cons_append]) ?_
 refine x_seq fun K1 hK1 => x_region ?_
 refine m_box hS (fun w1 g1 hS => ?_)
 try simp only [nY, aY] at hS ⊢
 obtain ⟨gq, hgq⟩ : ∃ z, z = g1 := ⟨_, rfl⟩
 rw [← hgq] at hS ⊢
 refine s_go s_assign ?_
 try simp only [nY]
 refine x_nil (hK1 _ _ ?_)
 refine x_seq fun K2 hK2 => ?_
 refine x_seq fun K3 hK3 => x_region ?_
 refine s_go s_move ?_
 try simp only [nY]
 refine s_go (s_len_sl U22) ?_
 try simp only [nY]
 refine s_go s_gtr ?_
 try simp only [nY]
 refine x_nil (hK3 _ _ ?_)
 refine x_cond (ht := fun hc1 => ?_) (hf := fun hc1 => ?_)
 ·
  try simp only [dY] at hc1
  refine x_seq fun K4 hK4 => x_region ?_
  refine s_call en7 ?_
  try simp only [nY, mY]
  refine CallR.mono (c_law18alive _) ?_
  rintro _ w2 ⟨rfl, hE2⟩
  replace hS := hS.ext hE2
  try simp only [nY]
  refine s_go s_assign ?_
  try simp only [nY]
  refine x_nil (hK4 _ _ ?_)
  refine x_ret (r_tmp rfl ?_)
  exact ⟨rfl, hS.ext_of⟩
 try simp only [dY] at hc1
 have hl40 : l.length ≤ 40 := by omega
 have hnb := norm_len l
 obtain ⟨hda, hdl, _⟩ := stp_all (m := mr) (norm_sta hv) (by omega) hr8 hx
 rw [norm_norm hv] at hda hdl
 refine x_skip ?_
 refine hK2 _ _ ?_
 refine x_seq fun K5 hK5 => x_region ?_
 refine s_go (m_fieldAddr U29 (hi := ti27)) ?_
 try simp only [nY, fY, gY]
 refine s_go (m_loada_obj U27 (hi := ti27) (hS := hS) (hfit := by omega)) ?_
 try simp only [nY, gY]
 rw [qa_op hxl]
 refine m_alloc ti27 hS (fun w3 g3 hS => ?_)
 try simp only [nY, aY] at hS ⊢
 replace hS : St NoB w0 w3 (.obj g3 (.cells (OA (List.replicate 19 0)) 27 (0, 0)) :: _) := hS
 obtain ⟨go, hgo⟩ : ∃ z, z = g3 := ⟨_, rfl⟩
 rw [← hgo] at hS ⊢
 refine m_store_obj ti27 (hS := hS) (hc := by exact zi_whole (by rfl) (by exact hxl)) (hv := by (show (zi _ _).toArray.size = _; rw [zi_size (by omega)]; rfl)) (hfit := by (simp only [ic_size, List.length_map, List.size_toArray]; decide)) (h1 := by exact zi_one _ _) (h := fun w4 hS => ?_)
 try simp only [nY, aY] at hS ⊢
 refine x_nil (hK5 _ _ ?_)
 refine x_seq fun K6 hK6 => x_region ?_
 refine s_go s_move ?_
 try simp only [nY]
 refine s_go (m_fieldAddr U29 (hi := ti3)) ?_
 try simp only [nY, fY, gY]
 refine s_go (m_load_obj U3 (hS := hS) (hv := qa_m hxl)) ?_
 try simp only [nY, gY]
 refine s_go (m_fieldAddr U29 (hi := ti5)) ?_
 try simp only [nY, fY, gY]
 refine s_go (m_load_obj U5 (hS := hS) (hv := qa_0)) ?_
 try simp only [nY, gY]
 refine s_go (m_load_row U27 (hi := ti27) (hS := hS) (hfit := by omega)) ?_
 try simp only [nY, gY]
 refine s_call en13 ?_
 try simp only [nY, mY]
 refine CallR.mono (c_shopDo _ A c l (hS.hasA) hv (by omega) mr r hr8 x hx) ?_
 rintro _ w5 ⟨Od, od, rfl, hC5⟩
 replace hS := hS.call hC5
 simp only [List.cons_append, List.nil_append] at hS
 try simp only [nY]
 refine s_go s_move ?_
 try simp only [nY]
 refine s_go (s_extract (hv := rfl)) ?_
 try simp only [gY]
 try simp only [nY]
 refine s_go (s_extract (hv := rfl)) ?_
 try simp only [gY]
 try simp only [nY]
 refine s_go s_assign ?_
 try simp only [nY]
 refine s_go s_assign ?_
 try simp only [nY]
 refine x_nil (hK6 _ _ ?_)
 refine x_seq fun K7 hK7 => ?_
 refine x_seq fun K8 hK8 => x_region ?_
 refine s_go s_move ?_
 try simp only [nY]
 refine s_go s_neq ?_
 try simp only [nY]
 refine x_nil (hK8 _ _ ?_)
 refine x_cond (ht := fun hc2 => ?_) (hf := fun hc2 => ?_)
 ·
  try simp only [dY] at hc2
  have hD : ¬ dE (normP l) mr r x = 0 := hc2
  rw [dP_no hD] at hS ⊢
  refine x_seq fun K9 hK9 => x_region ?_
  refine s_go s_move ?_
  try simp only [nY]
  refine s_go (s_len_sl U22) ?_
  try simp only [nY]
  try simp only [List.length_nil]
  refine s_go s_eql ?_
  try simp only [nY]
  try simp only [eq_self, decide_true, beq_self_eq_true, Bool.and_self]
  refine s_go s_move ?_
  try simp only [nY]
  refine g_on (yi (t := 39) rfl rfl) ?_
  refine s_call en7 ?_
  try simp only [nY, mY]
  refine CallR.mono (c_law18alive _) ?_
  rintro _ w6 ⟨rfl, hE6⟩
  replace hS := hS.ext hE6
  try simp only [nY]
  refine s_go s_pick_t ?_
  try simp only [nY]
  refine s_go s_assign ?_
  try simp only [nY]
  refine x_nil (hK9 _ _ ?_)
  refine x_ret (r_tmp rfl ?_)
  exact ⟨rfl, hS.ext_of⟩
 try simp only [dY] at hc2
 have hD : dE (normP l) mr r x = 0 := by omega
 obtain ⟨J, hJ⟩ : ∃ z, normP (l ++ dP (normP l) mr r x) = z := ⟨_, rfl⟩
 obtain ⟨rd1, rd2, rd3, rd4, rd5, rd6, rd7⟩ := rd_all (m := mr) hv hl40 hr8 hx hD hJ
 obtain ⟨hK, _, hONN, _⟩ := opE_ok (dE_inv hD).1
 have hJs : StaR J := by rw [← hJ]; exact norm_sta (hv.app hda)
 have hJl : J.length ≤ 200 := by rw [← hJ]; exact Nat.le_trans (norm_len _) (by rw [List.length_append]; omega)
 have htl1 := tot_b hv (by omega) (kn x 1) (kitem x)
 have htl2 := tot_b hJs.ok (by omega) (kn x 1) (kitem x)
 have htq := qty_b hJs.ok (by omega) (kn x 1) (kitem x)
 have hNT : (noteT J (kn x 1)).length = 8 := vtext_len ((fndD_ok (k := noteK (kn x 1)) (norm_sta hJs.ok).ok).len)
 refine x_skip ?_
 refine hK7 _ _ ?_
 refine x_seq fun K10 hK10 => x_region ?_
 refine s_go s_move ?_
 try simp only [nY]
 refine s_go s_move ?_
 try simp only [nY]
 refine s_call en14 ?_
 try simp only [nY, mY]
 refine CallR.mono (c_ref10Join _ A c l (hS.hasA) hv Od od (dP (normP l) mr r x) (hS.vecRd (by repeat (exact Has.head))) hda (by omega)) ?_
 rintro _ w7 ⟨Oj, oj, rfl, hC7⟩
 replace hS := hS.call hC7
 simp only [List.cons_append, List.nil_append] at hS
 rw [hJ] at hS ⊢
 try simp only [nY]
 refine s_go s_assign ?_
 try simp only [nY]
 refine x_nil (hK10 _ _ ?_)
 refine x_seq fun K11 hK11 => ?_
 refine x_quiet (by kernel_rfl) (by kernel_rfl) hS ?_
 refine q_go (fun w hS => s_move) ?_
 try simp only [nY]
 refine q_go (fun w hS => m_fieldAddr U27 (hi := ti23)) ?_
 try simp only [nY, fY, gY]
 refine q_go (fun w hS => m_load_obj U23 (hS := hS) (hv := by exact zi_get rfl (by omega))) ?_
 try simp only [nY, gY]
 rw [hx.e1]
 refine q_go (fun w hS => m_fieldAddr U27 (hi := ti25)) ?_
 try simp only [nY, fY, gY]
 refine q_go (fun w hS => m_loada_obj U25 (hi := ti25) (hS := hS) (hfit := by (rw [zi_size (by omega)]; decide))) ?_
 try simp only [nY, gY]
 rw [op_item hxl]
 apply q_call en20
 case H =>
   intro w hS
   try simp only [nY, mY]
   refine CallR.mono (c_ref15Total _ A c l (hS.hasA) hv (by omega) _ hcx _ hil hbi) ?_
   rintro _ w1 ⟨rfl, hE⟩; exact ⟨rfl, hS.ext hE⟩
 try simp only [nY]
 refine q_go (fun w hS => s_move) ?_
 try simp only [nY]
 refine q_go (fun w hS => m_fieldAddr U27 (hi := ti23)) ?_
 try simp only [nY, fY, gY]
 refine q_go (fun w hS => m_load_obj U23 (hS := hS) (hv := by exact zi_get rfl (by omega))) ?_
 try simp only [nY, gY]
 rw [hx.e1]
 refine q_go (fun w hS => m_fieldAddr U27 (hi := ti25)) ?_
 try simp only [nY, fY, gY]
 refine q_go (fun w hS => m_loada_obj U25 (hi := ti25) (hS := hS) (hfit := by (rw [zi_size (by omega)]; decide))) ?_
 try simp only [nY, gY]
 rw [op_item hxl]
 apply q_call en20
 case H =>
   intro w hS
   try simp only [nY, mY]
   refine CallR.mono (c_ref15Total _ Oj oj J (hS.vecRd (by repeat (exact Has.head))) hJs.ok (by omega) _ hcx _ hil hbi) ?_
   rintro _ w1 ⟨rfl, hE⟩; exact ⟨rfl, hS.ext hE⟩
 try simp only [nY]
 refine q_go (fun w hS => s_assign) ?_
 try simp only [nY]
 refine q_go (fun w hS => s_assign) ?_
 try simp only [nY]
 clear hS
 refine q_nil fun w8 hS => ?_
 refine hK11 _ _ ?_
 refine x_seq fun K12 hK12 => x_region ?_
 refine s_go s_move ?_
 try simp only [nY]
 refine s_go (m_fieldAddr U27 (hi := ti23)) ?_
 try simp only [nY, fY, gY]
 refine s_go (m_load_obj U23 (hS := hS) (hv := by exact zi_get rfl (by omega))) ?_
 try simp only [nY, gY]
 rw [hx.e1]
 refine s_go (m_fieldAddr U27 (hi := ti25)) ?_
 try simp only [nY, fY, gY]
 refine s_go (m_loada_obj U25 (hi := ti25) (hS := hS) (hfit := by (rw [zi_size (by omega)]; decide))) ?_
 try simp only [nY, gY]
 rw [op_item hxl]
 refine s_call en21 ?_
 try simp only [nY, mY]
 refine CallR.mono (c_ref14Live _ Oj oj J (hS.vecRd (by repeat (exact Has.head))) hJs.ok (by omega) _ hcx _ hil) ?_
 rintro _ w9 ⟨Ol, ol, rfl, hC9⟩
 replace hS := hS.call hC9
 simp only [List.cons_append, List.nil_append] at hS
 try simp only [nY]
 refine s_go (s_len_sl U47) ?_
 try simp only [nY]
 refine s_go s_gtr ?_
 try simp only [nY]
 refine s_go s_assign ?_
 try simp only [nY]
 refine x_nil (hK12 _ _ ?_)
 refine x_seq fun K13 hK13 => x_region ?_
 refine s_go s_assign ?_
 try simp only [nY]
 refine x_nil (hK13 _ _ ?_)
 refine x_seq_j [12, 13, 14, 15, 16, 17, 65, 66, 67, 68, 69, 70, 71, 72, 73, 74, 75, 76, 77, 78, 79, 80, 81, 82, 83, 84, 85, 86, 87, 88, 89, 90, 91, 92, 93, 94, 95, 96, 97, 98, 99, 100, 101, 102, 103, 104, 105, 106, 107, 108, 109, 110, 111, 112, 113, 114, 115, 116, 117, 118, 119, 120, 121, 122, 123, 124, 125, 126, 127, 128, 129, 130, 131] (fun f w => f 12 = .bool true ∧ St NoB w0 w [.obj go (.cells (OA x) 27 (0, 0)), .obj gq (.cells (QA r x mr) 29 (0, 0)), .rd A 21 (l).length (arows (l)), .vec Oj oj 66 21 (J).length (arows (J))]) ?jx1 ?jy1
 case jx1 =>
  refine x_seq fun K14 hK14 => x_region ?_
  refine s_go (m_fieldAddr U27 (hi := ti3)) ?_
  try simp only [nY, fY, gY]
  refine s_go (m_load_obj U3 (hS := hS) (hv := by exact zi_get rfl (by omega))) ?_
  try simp only [nY, gY]
  rw [show x.getD 0 0 = opK x from rfl]
  refine x_nil (hK14 _ _ ?_)
  refine x_block ?_
  refine x_seq fun K15 hK15 => x_region ?_
  refine s_go s_eql ?_
  try simp only [nY]
  refine s_go s_assign ?_
  try simp only [nY]
  refine x_nil (hK15 _ _ ?_)
  refine x_cond (ht := fun hc3 => ?_) (hf := fun hc3 => ?_)
  ·
   try simp only [dY] at hc3
   obtain ⟨q1, q2⟩ := rd1 (by omega)
   have hONx := hONN (.inl (by omega))
   refine x_region ?_
   refine s_go s_move ?_
   try simp only [nY]
   refine s_go s_move ?_
   try simp only [nY]
   rw [show decide ((0 : Int) < ((((tagS (normP J) (kn x 1) (kitem x) 1).map akey).length : Nat) : Int)) = true from decide_eq_true (by omega)]
   refine g_on (yi (t := 76) rfl rfl) ?_
   refine s_go s_move ?_
   try simp only [nY]
   refine g_on (yi (t := 76) rfl rfl) ?_
   refine s_go s_move ?_
   try simp only [nY]
   refine g_on (yi (t := 76) rfl rfl) ?_
   refine s_go (m_fieldAddr U27 (hi := ti3)) ?_
   try simp only [nY, fY, gY]
   refine g_on (yi (t := 76) rfl rfl) ?_
   refine s_go (m_load_obj U3 (hS := hS) (hv := by exact zi_get rfl (by omega))) ?_
   try simp only [nY, gY]
   rw [show x.getD 10 0 = opN x from rfl]
   refine g_on (yi (t := 76) rfl rfl) ?_
   refine s_go (s_add (hc := by exact wr_i64 (by omega) (by omega))) ?_
   try simp only [nY]
   refine g_on (yi (t := 76) rfl rfl) ?_
   refine s_go s_eql ?_
   try simp only [nY]
   rw [q2]
   try simp only [eq_self, decide_true]
   refine s_go s_pick_t ?_
   try simp only [nY]
   refine s_go s_assign ?_
   try simp only [nY]
   refine x_nil ?_
   refine mix_leaf (by simp only [clob, List.foldl, nZ]) ?_
   try simp only [n1, n2]
   exact ⟨by trivial, hS.selA⟩
  try simp only [dY] at hc3
  refine x_seq fun K16 hK16 => x_region ?_
  refine s_go s_eql ?_
  try simp only [nY]
  refine s_go s_assign ?_
  try simp only [nY]
  refine x_nil (hK16 _ _ ?_)
  refine x_cond (ht := fun hc4 => ?_) (hf := fun hc4 => ?_)
  ·
   try simp only [dY] at hc4
   obtain ⟨q1, q2⟩ := rd2 (by omega)
   refine x_region ?_
   refine s_go s_move ?_
   try simp only [nY]
   refine s_go s_not ?_
   try simp only [nY]
   rw [show decide ((0 : Int) < ((((tagS (normP J) (kn x 1) (kitem x) 1).map akey).length : Nat) : Int)) = false from decide_eq_false (by omega)]
   try simp only [Bool.not_false]
   refine s_go s_move ?_
   try simp only [nY]
   refine g_on (yi (t := 88) rfl rfl) ?_
   refine s_go s_move ?_
   try simp only [nY]
   refine g_on (yi (t := 88) rfl rfl) ?_
   refine s_go s_move ?_
   try simp only [nY]
   refine g_on (yi (t := 88) rfl rfl) ?_
   refine s_go s_min ?_
   try simp only [nY]
   refine g_on (yi (t := 88) rfl rfl) ?_
   refine s_go s_eql ?_
   try simp only [nY]
   rw [q2]
   try simp only [eq_self, decide_true]
   refine s_go s_pick_t ?_
   try simp only [nY]
   refine s_go s_assign ?_
   try simp only [nY]
   refine x_nil ?_
   refine mix_leaf (by simp only [clob, List.foldl, nZ]) ?_
   try simp only [n1, n2]
   exact ⟨by trivial, hS.selA⟩
  try simp only [dY] at hc4
  refine x_seq fun K17 hK17 => x_region ?_
  refine s_go s_eql ?_
  try simp only [nY]
  refine s_go s_assign ?_
  try simp only [nY]
  refine x_nil (hK17 _ _ ?_)
  refine x_cond (ht := fun hc5 => ?_) (hf := fun hc5 => ?_)
  ·
   try simp only [dY] at hc5
   obtain ⟨q1, q2⟩ := rd3 (by omega)
   have hONx := hONN (.inr (by omega))
   have hqb : qtyB J (kn x 1) (kitem x) = true := decide_eq_true q1
   have hqv := qty_yes hqb
   refine x_seq fun K18 hK18 => x_region ?_
   refine s_go s_move ?_
   try simp only [nY]
   refine s_go (m_fieldAddr U27 (hi := ti23)) ?_
   try simp only [nY, fY, gY]
   refine s_go (m_load_obj U23 (hS := hS) (hv := by exact zi_get rfl (by omega))) ?_
   try simp only [nY, gY]
   rw [hx.e1]
   refine s_go (m_fieldAddr U27 (hi := ti25)) ?_
   try simp only [nY, fY, gY]
   refine s_go (m_loada_obj U25 (hi := ti25) (hS := hS) (hfit := by (rw [zi_size (by omega)]; decide))) ?_
   try simp only [nY, gY]
   rw [op_item hxl]
   refine s_call en22 ?_
   try simp only [nY, mY]
   refine CallR.mono (c_ref17Quantity _ Oj oj J (hS.vecA) hJs.ok (by omega) _ hcx _ hil hbi) ?_
   rintro _ w10 ⟨rfl, hE10⟩
   replace hS := hS.ext hE10
   try simp only [nY]
   refine s_go s_move ?_
   try simp only [nY]
   refine s_go (s_extract (hv := rfl)) ?_
   try simp only [gY]
   try simp only [nY]
   refine s_go (s_extract (hv := rfl)) ?_
   try simp only [gY]
   try simp only [nY]
   refine s_go s_assign ?_
   try simp only [nY]
   refine s_go s_assign ?_
   try simp only [nY]
   refine x_nil (hK18 _ _ ?_)
   refine x_region ?_
   refine s_go s_move ?_
   try simp only [nY]
   refine s_go s_move ?_
   try simp only [nY]
   rw [show decide ((0 : Int) < ((((tagS (normP J) (kn x 1) (kitem x) 1).map akey).length : Nat) : Int)) = true from decide_eq_true (by omega)]
   refine g_on (yi (t := 106) rfl rfl) ?_
   refine s_go s_move ?_
   try simp only [nY]
   refine g_on (yi (t := 106) rfl rfl) ?_
   refine s_go (m_fieldAddr U27 (hi := ti3)) ?_
   try simp only [nY, fY, gY]
   refine g_on (yi (t := 106) rfl rfl) ?_
   refine s_go (m_load_obj U3 (hS := hS) (hv := by exact zi_get rfl (by omega))) ?_
   try simp only [nY, gY]
   rw [show x.getD 10 0 = opN x from rfl]
   refine g_on (yi (t := 106) rfl rfl) ?_
   refine s_go s_eql ?_
   try simp only [nY]
   rw [show decide (qtyN J (kn x 1) (kitem x) = opN x) = true from decide_eq_true (by omega)]
   refine s_go s_pick_t ?_
   try simp only [nY]
   refine s_go s_assign ?_
   try simp only [nY]
   refine x_nil ?_
   refine mix_leaf (by simp only [clob, List.foldl, nZ]) ?_
   try simp only [n1, n2]
   exact ⟨by trivial, hS.selA⟩
  try simp only [dY] at hc5
  refine x_seq fun K19 hK19 => x_region ?_
  refine s_go s_eql ?_
  try simp only [nY]
  refine s_go s_assign ?_
  try simp only [nY]
  refine x_nil (hK19 _ _ ?_)
  refine x_cond (ht := fun hc6 => ?_) (hf := fun hc6 => ?_)
  ·
   try simp only [dY] at hc6
   obtain ⟨q1, q2⟩ := rd4 (by omega)
   refine x_seq fun K20 hK20 => x_region ?_
   refine s_go s_move ?_
   try simp only [nY]
   refine s_go (m_fieldAddr U27 (hi := ti23)) ?_
   try simp only [nY, fY, gY]
   refine s_go (m_load_obj U23 (hS := hS) (hv := by exact zi_get rfl (by omega))) ?_
   try simp only [nY, gY]
   rw [hx.e1]
   refine s_call en23 ?_
   try simp only [nY, mY]
   refine CallR.mono (c_ref16Get _ Oj oj J (hS.vecA) hJs.ok (by omega) _ hcx) ?_
   rintro _ w11 ⟨rfl, hE11⟩
   replace hS := hS.ext hE11
   try simp only [nY]
   refine s_go s_move ?_
   try simp only [nY]
   refine s_go (s_extract (hv := rfl)) ?_
   try simp only [gY]
   try simp only [nY]
   refine s_go (s_extract (hv := rfl)) ?_
   try simp only [gY]
   try simp only [nY]
   refine s_go (s_extract (hv := rfl)) ?_
   try simp only [gY]
   try simp only [nY]
   refine m_alloc ti25 hS (fun w12 g12 hS => ?_)
   try simp only [nY, aY] at hS ⊢
   replace hS : St _ _ w12 (.obj g12 (.cells (ic .u8 nm0) 25 (0, 0)) :: _) := hS
   obtain ⟨gn, hgn⟩ : ∃ z, z = g12 := ⟨_, rfl⟩
   rw [← hgn] at hS ⊢
   refine m_store_obj ti25 (hS := hS) (hc := by exact splice_whole (by exact (ic_size _ _).trans hNT)) (hv := by (simp [opv, Value.cells, *]; done)) (hfit := by (simp only [ic_size, List.length_map, List.size_toArray]; decide)) (h1 := by exact ic_one _ _) (h := fun w13 hS => ?_)
   try simp only [nY, aY] at hS ⊢
   refine s_go s_assign ?_
   try simp only [nY]
   refine s_go s_assign ?_
   try simp only [nY]
   refine x_nil (hK20 _ _ ?_)
   refine x_region ?_
   refine s_go (m_load_row U25 (hi := ti25) (hS := hS) (hfit := by rw [ic_size, hNT])) ?_
   try simp only [nY, gY]
   refine s_go (m_fieldAddr U27 (hi := ti25)) ?_
   try simp only [nY, fY, gY]
   refine s_go (m_loada_obj U25 (hi := ti25) (hS := hS) (hfit := by (rw [zi_size (by omega)]; decide))) ?_
   try simp only [nY, gY]
   rw [op_text hxl]
   refine s_go (s_eql_agg eqv25 (hg := eg25) (hX := zi_ic (by assumption)) (hY := zi_ic (by assumption)) (h1 := by assumption) (h2 := by assumption)) ?_
   try simp only [nY]
   rw [q1]
   try simp only [eq_self, decide_true]
   refine s_go s_move ?_
   try simp only [nY]
   refine g_on (yi (t := 126) rfl rfl) ?_
   refine s_go s_move ?_
   try simp only [nY]
   refine g_on (yi (t := 126) rfl rfl) ?_
   refine s_go (m_fieldAddr U29 (hi := ti5)) ?_
   try simp only [nY, fY, gY]
   refine g_on (yi (t := 126) rfl rfl) ?_
   refine s_go (m_load_obj U5 (hS := hS) (hv := qa_0)) ?_
   try simp only [nY, gY]
   refine g_on (yi (t := 126) rfl rfl) ?_
   refine s_go s_eql ?_
   try simp only [nY]
   rw [q2]
   try simp only [eq_self, decide_true]
   refine s_go s_pick_t ?_
   try simp only [nY]
   refine s_go s_assign ?_
   try simp only [nY]
   refine x_nil ?_
   refine mix_leaf (by simp only [clob, List.foldl, nZ]) ?_
   try simp only [n1, n2]
   exact ⟨by trivial, hS.selA⟩
  try simp only [dY] at hc6
  have q1 := rd5 (by omega)
  refine x_region ?_
  refine s_go s_move ?_
  try simp only [nY]
  refine s_go (m_fieldAddr U27 (hi := ti23)) ?_
  try simp only [nY, fY, gY]
  refine s_go (m_load_obj U23 (hS := hS) (hv := by exact zi_get rfl (by omega))) ?_
  try simp only [nY, gY]
  rw [hx.e1]
  refine s_call en24 ?_
  try simp only [nY, mY]
  refine CallR.mono (c_ref17Lines _ Oj oj J (hS.vecA) hJs.ok (by omega) _ hcx) ?_
  rintro _ w14 ⟨On, on, rfl, hC14⟩
  replace hS := hS.call hC14
  simp only [List.cons_append, List.nil_append] at hS
  try simp only [nY]
  refine s_go (s_len_sl U54) ?_
  try simp only [nY]
  refine s_go s_eql ?_
  try simp only [nY]
  rw [q1]
  try simp only [eq_self, decide_true]
  refine s_go s_assign ?_
  try simp only [nY]
  refine x_nil ?_
  refine mix_leaf (by simp only [clob, List.foldl, nZ]) ?_
  try simp only [n1, n2]
  exact ⟨by trivial, hS.selA⟩
 intro fm1 w15 hM
 simp only [clob, List.foldl, n3, n4]
 obtain ⟨hf12, hS⟩ := hM
 simp only [hf12]
 refine x_seq fun K21 hK21 => ?_
 refine x_seq fun K22 hK22 => x_region ?_
 refine s_go (m_fieldAddr U27 (hi := ti3)) ?_
 try simp only [nY, fY, gY]
 refine s_go (m_load_obj U3 (hS := hS) (hv := by exact zi_get rfl (by omega))) ?_
 try simp only [nY, gY]
 rw [show x.getD 0 0 = opK x from rfl]
 refine s_go s_leq ?_
 try simp only [nY]
 refine s_go s_move ?_
 try simp only [nY]
 refine s_part 135 rfl (fun hp1 => ?_) (fun hp1 => ?_)
 ·
  try simp only [n3, n4]
  try simp only [dZ, ne_eq] at hp1
  refine g_on (yi (t := 135) rfl rfl) ?_
  refine s_go s_move ?_
  try simp only [nY]
  refine g_on (yi (t := 135) rfl rfl) ?_
  refine s_go s_move ?_
  try simp only [nY]
  refine g_on (yi (t := 135) rfl rfl) ?_
  refine s_go (s_sub (hc := by exact wr_i64 (by omega) (by omega))) ?_
  try simp only [nY]
  refine g_on (yi (t := 135) rfl rfl) ?_
  refine s_go s_move ?_
  try simp only [nY]
  refine g_on (yi (t := 135) rfl rfl) ?_
  refine s_go (m_load_row U27 (hi := ti27) (hS := hS) (hfit := by omega)) ?_
  try simp only [nY, gY]
  refine g_on (yi (t := 135) rfl rfl) ?_
  refine s_call en18 ?_
  try simp only [nY, mY]
  refine CallR.mono (c_shopAmount _ A c l (hS.hasA) hv (by omega) x hx) ?_
  rintro _ w16 ⟨rfl, hE16⟩
  replace hS := hS.ext hE16
  try simp only [nY]
  refine g_on (yi (t := 135) rfl rfl) ?_
  refine s_go s_neq ?_
  try simp only [nY]
  rw [rd6 (by omega)]
  try simp only [ne_eq, not_true_eq_false, decide_false, eq_self, decide_true]
  refine s_go s_pick_t ?_
  try simp only [nY]
  refine x_nil (hK22 _ _ ?_)
  refine x_cond_f (h := ?_)
  refine x_skip ?_
  refine hK21 _ _ ?_
  refine x_seq fun K23 hK23 => ?_
  refine x_mixed_c (Lc := [.obj go (.cells (OA x) 27 (0, 0)), .rd A 21 (l).length (arows (l)), .vec Oj oj 66 21 (J).length (arows (J))]) [] 0 [4, 144, 145, 146, 147, 148, 149, 150, 151, 152, 153, 154, 155, 156, 157, 158, 159, 160] (fun f w => f 4 = .bool true ∧ Ext w0 w) (by kernel_rfl) (by kernel_rfl) (by kernel_rfl) (by decide) hS (fun w17 hS => ?mixpre2501) ?mixrest2501
  case mixpre2501 =>
   refine p_nil ?_
   simp only [List.length_cons, List.length_nil, Nat.reduceAdd, Nat.reduceSub]
   refine any_gn 0 rfl (go_yields w_none (fun w hS => s_move)) ?_
   try simp only [nY]
   refine any_gn 1 rfl (go_yields w_none (fun w hS => s_move)) ?_
   try simp only [nY]
   refine any_gn 2 rfl (go_yields (w_on (yi (t := 145) rfl rfl)) (fun w hS => s_move)) ?_
   try simp only [nY]
   refine any_gn 3 rfl (go_yields (w_on (yi (t := 145) rfl rfl)) (fun w hS => m_fieldAddr U27 (hi := ti23))) ?_
   try simp only [nY, fY, gY]
   refine any_gn 4 rfl (go_yields (w_on (yi (t := 145) rfl rfl)) (fun w hS => m_load_obj U23 (hS := hS) (hv := by exact zi_get rfl (by omega)))) ?_
   try simp only [nY, gY]
   rw [hx.e1]
   refine any_gn 5 rfl (go_yields (w_on (yi (t := 145) rfl rfl)) (fun w hS => s_add (hc := by exact wrap_next))) ?_
   try simp only [nY]
   refine any_gn 7 rfl (go_yields (w_on (yi (t := 145) rfl rfl)) (fun w hS => s_move)) ?_
   try simp only [nY]
   refine any_gn 8 rfl (go_yields (w_on (yi (t := 145) rfl rfl)) (fun w hS => m_fieldAddr U27 (hi := ti23))) ?_
   try simp only [nY, fY, gY]
   refine any_gn 9 rfl (go_yields (w_on (yi (t := 145) rfl rfl)) (fun w hS => m_load_obj U23 (hS := hS) (hv := by exact zi_get rfl (by omega)))) ?_
   try simp only [nY, gY]
   rw [hx.e1]
   refine any_gn 10 rfl (go_yields (w_on (yi (t := 145) rfl rfl)) (fun w hS => s_add (hc := by exact wrap_next))) ?_
   try simp only [nY]
   refine any_step [6] (by kernel_rfl) (by decide) (fun w18 hE => ⟨fun _ => (hS.ext hE).sel (by repeat (first | exact Sel.nil | (refine Sel.cons (by repeat (first | exact Del.head | apply Del.tail)) ?_))), ?_⟩)
   replace hS := hS.ext hE
   intro i hi
   simp only [List.mem_cons, List.not_mem_nil, or_false] at hi
   subst hi
   refine any_op (by rfl) ?_
   refine g_on (yi (t := 145) rfl rfl) ?_
   refine s_call en26 ?_
   try simp only [nY, mY]
   refine CallR.mono (c_ref17Of _ Oj oj J (hS.vecA) hJs.ok (by omega) ((kn x 1 + 1) % 65536) (Nat.mod_lt _ (by decide))) ?_
   rintro _ w19 ⟨Ov, ov, rfl, hC19⟩
   replace hS := hS.call hC19
   simp only [List.cons_append, List.nil_append] at hS
   try simp only [nY]
   refine x_nil ?_
   refine any_step [11] (by kernel_rfl) (by decide) (fun w20 hE => ⟨fun _ => (hS.ext hE).sel (by repeat (first | exact Sel.nil | (refine Sel.cons (by repeat (first | exact Del.head | apply Del.tail)) ?_))), ?_⟩)
   replace hS := hS.ext hE
   intro i hi
   simp only [List.mem_cons, List.not_mem_nil, or_false] at hi
   subst hi
   refine any_op (by rfl) ?_
   refine g_on (yi (t := 145) rfl rfl) ?_
   refine s_call en26 ?_
   try simp only [nY, mY]
   refine CallR.mono (c_ref17Of _ A c l (hS.hasA) hv (by omega) ((kn x 1 + 1) % 65536) (Nat.mod_lt _ (by decide))) ?_
   rintro _ w21 ⟨Oz, oz, rfl, hC21⟩
   replace hS := hS.call hC21
   simp only [List.cons_append, List.nil_append] at hS
   try simp only [nY]
   refine x_nil ?_
   refine any_step [12] (by kernel_rfl) (by decide) (fun w22 hE => ⟨fun _ => (hS.ext hE).sel (by repeat (first | exact Sel.nil | (refine Sel.cons (by repeat (first | exact Del.head | apply Del.tail)) ?_))), ?_⟩)
   replace hS := hS.ext hE
   intro i hi
   simp only [List.mem_cons, List.not_mem_nil, or_false] at hi
   subst hi
   refine any_op (by rfl) ?_
   refine g_on (yi (t := 145) rfl rfl) ?_
   refine s_call en25 ?_
   try simp only [nY, mY]
   refine CallR.mono (c_ref17Same _ Ov ov (linesL J ((kn x 1 + 1) % 65536)) (hS.vecA) (lines_9 hJs.ok _) (noteT J ((kn x 1 + 1) % 65536)) (vtext_len ((fndD_ok (k := noteK ((kn x 1 + 1) % 65536)) (norm_sta hJs.ok).ok).len)) Oz oz (linesL l ((kn x 1 + 1) % 65536)) (hS.vecRd (by repeat (exact Has.head))) (lines_9 hv _) (noteT l ((kn x 1 + 1) % 65536)) (vtext_len ((fndD_ok (k := noteK ((kn x 1 + 1) % 65536)) (norm_sta hv).ok).len)) (by have := lines_len J ((kn x 1 + 1) % 65536); have := lines_len l ((kn x 1 + 1) % 65536); omega)) ?_
   rintro _ w23 ⟨rfl, hE23⟩
   replace hS := hS.ext hE23
   try simp only [nY]
   obtain ⟨e1, e2⟩ := rd7 ((kn x 1 + 1) % 65536) (by omega)
   rw [e1, e2]
   try simp only [eq_self, decide_true, Bool.and_self]
   refine x_nil ?_
   refine any_gn 13 rfl (go_yields w_none (fun w hS => s_pick_t)) ?_
   try simp only [nY]
   refine any_gn 14 rfl (go_yields w_none (fun w hS => s_move)) ?_
   try simp only [nY]
   apply any_gn 15 rfl (call_yields (w_on (yi (t := 158) rfl rfl)) en7 ?H1) ?K1
   case H1 =>
     intro w hS
     try simp only [nY, mY]
     refine CallR.mono (c_law18alive _) ?_
     rintro _ w1 ⟨rfl, hE⟩; exact ⟨rfl, hE⟩
   try simp only [nY]
   refine any_gn 16 rfl (go_yields w_none (fun w hS => s_pick_t)) ?_
   try simp only [nY]
   refine any_gn 17 rfl (go_yields w_none (fun w hS => s_assign)) ?_
   try simp only [nY]
   refine any_nil (by kernel_rfl) (fun w24 hE => ?_)
   replace hS := hS.ext hE
   refine ⟨fun _ => hS.selA, ?_⟩
   refine mix_leaf (by simp only [clob, List.foldl, nZ]) ?_
   try simp only [n1, n2]
   exact ⟨by trivial, hS.ext_of⟩
  intro fm2 w25 hM
  obtain ⟨hf4, hEE⟩ := hM
  simp only [clob, List.foldl, n3, n4, hf4]
  refine hK23 _ _ ?_
  refine x_ret (r_tmp rfl ?_)
  exact ⟨rfl, hEE⟩
 try simp only [n3, n4]
 try simp only [dZ, ne_eq] at hp1
 refine g_off (yi (t := 135) rfl rfl) ?_
 try simp only [nY]
 refine g_off (yi (t := 135) rfl rfl) ?_
 try simp only [nY]
 refine g_off (yi (t := 135) rfl rfl) ?_
 try simp only [nY]
 refine g_off (yi (t := 135) rfl rfl) ?_
 try simp only [nY]
 refine g_off (yi (t := 135) rfl rfl) ?_
 try simp only [nY]
 refine g_off (yi (t := 135) rfl rfl) ?_
 try simp only [nY]
 refine g_off (yi (t := 135) rfl rfl) ?_
 try simp only [nY]
 refine s_go s_pick_f ?_
 try simp only [nY]
 refine x_nil (hK22 _ _ ?_)
 refine x_cond_f (h := ?_)
 refine x_skip ?_
 refine hK21 _ _ ?_
 refine x_seq fun K24 hK24 => ?_
 refine x_mixed_c (Lc := [.obj go (.cells (OA x) 27 (0, 0)), .rd A 21 (l).length (arows (l)), .vec Oj oj 66 21 (J).length (arows (J))]) [] 0 [4, 144, 145, 146, 147, 148, 149, 150, 151, 152, 153, 154, 155, 156, 157, 158, 159, 160] (fun f w => f 4 = .bool true ∧ Ext w0 w) (by kernel_rfl) (by kernel_rfl) (by kernel_rfl) (by decide) hS (fun w26 hS => ?mixpre2502) ?mixrest2502
 case mixpre2502 =>
  refine p_nil ?_
  simp only [List.length_cons, List.length_nil, Nat.reduceAdd, Nat.reduceSub]
  refine any_gn 0 rfl (go_yields w_none (fun w hS => s_move)) ?_
  try simp only [nY]
  refine any_gn 1 rfl (go_yields w_none (fun w hS => s_move)) ?_
  try simp only [nY]
  refine any_gn 2 rfl (go_yields (w_on (yi (t := 145) rfl rfl)) (fun w hS => s_move)) ?_
  try simp only [nY]
  refine any_gn 3 rfl (go_yields (w_on (yi (t := 145) rfl rfl)) (fun w hS => m_fieldAddr U27 (hi := ti23))) ?_
  try simp only [nY, fY, gY]
  refine any_gn 4 rfl (go_yields (w_on (yi (t := 145) rfl rfl)) (fun w hS => m_load_obj U23 (hS := hS) (hv := by exact zi_get rfl (by omega)))) ?_
  try simp only [nY, gY]
  rw [hx.e1]
  refine any_gn 5 rfl (go_yields (w_on (yi (t := 145) rfl rfl)) (fun w hS => s_add (hc := by exact wrap_next))) ?_
  try simp only [nY]
  refine any_gn 7 rfl (go_yields (w_on (yi (t := 145) rfl rfl)) (fun w hS => s_move)) ?_
  try simp only [nY]
  refine any_gn 8 rfl (go_yields (w_on (yi (t := 145) rfl rfl)) (fun w hS => m_fieldAddr U27 (hi := ti23))) ?_
  try simp only [nY, fY, gY]
  refine any_gn 9 rfl (go_yields (w_on (yi (t := 145) rfl rfl)) (fun w hS => m_load_obj U23 (hS := hS) (hv := by exact zi_get rfl (by omega)))) ?_
  try simp only [nY, gY]
  rw [hx.e1]
  refine any_gn 10 rfl (go_yields (w_on (yi (t := 145) rfl rfl)) (fun w hS => s_add (hc := by exact wrap_next))) ?_
  try simp only [nY]
  refine any_step [6] (by kernel_rfl) (by decide) (fun w27 hE => ⟨fun _ => (hS.ext hE).sel (by repeat (first | exact Sel.nil | (refine Sel.cons (by repeat (first | exact Del.head | apply Del.tail)) ?_))), ?_⟩)
  replace hS := hS.ext hE
  intro i hi
  simp only [List.mem_cons, List.not_mem_nil, or_false] at hi
  subst hi
  refine any_op (by rfl) ?_
  refine g_on (yi (t := 145) rfl rfl) ?_
  refine s_call en26 ?_
  try simp only [nY, mY]
  refine CallR.mono (c_ref17Of _ Oj oj J (hS.vecA) hJs.ok (by omega) ((kn x 1 + 1) % 65536) (Nat.mod_lt _ (by decide))) ?_
  rintro _ w28 ⟨Ov, ov, rfl, hC28⟩
  replace hS := hS.call hC28
  simp only [List.cons_append, List.nil_append] at hS
  try simp only [nY]
  refine x_nil ?_
  refine any_step [11] (by kernel_rfl) (by decide) (fun w29 hE => ⟨fun _ => (hS.ext hE).sel (by repeat (first | exact Sel.nil | (refine Sel.cons (by repeat (first | exact Del.head | apply Del.tail)) ?_))), ?_⟩)
  replace hS := hS.ext hE
  intro i hi
  simp only [List.mem_cons, List.not_mem_nil, or_false] at hi
  subst hi
  refine any_op (by rfl) ?_
  refine g_on (yi (t := 145) rfl rfl) ?_
  refine s_call en26 ?_
  try simp only [nY, mY]
  refine CallR.mono (c_ref17Of _ A c l (hS.hasA) hv (by omega) ((kn x 1 + 1) % 65536) (Nat.mod_lt _ (by decide))) ?_
  rintro _ w30 ⟨Oz, oz, rfl, hC30⟩
  replace hS := hS.call hC30
  simp only [List.cons_append, List.nil_append] at hS
  try simp only [nY]
  refine x_nil ?_
  refine any_step [12] (by kernel_rfl) (by decide) (fun w31 hE => ⟨fun _ => (hS.ext hE).sel (by repeat (first | exact Sel.nil | (refine Sel.cons (by repeat (first | exact Del.head | apply Del.tail)) ?_))), ?_⟩)
  replace hS := hS.ext hE
  intro i hi
  simp only [List.mem_cons, List.not_mem_nil, or_false] at hi
  subst hi
  refine any_op (by rfl) ?_
  refine g_on (yi (t := 145) rfl rfl) ?_
  refine s_call en25 ?_
  try simp only [nY, mY]
  refine CallR.mono (c_ref17Same _ Ov ov (linesL J ((kn x 1 + 1) % 65536)) (hS.vecA) (lines_9 hJs.ok _) (noteT J ((kn x 1 + 1) % 65536)) (vtext_len ((fndD_ok (k := noteK ((kn x 1 + 1) % 65536)) (norm_sta hJs.ok).ok).len)) Oz oz (linesL l ((kn x 1 + 1) % 65536)) (hS.vecRd (by repeat (exact Has.head))) (lines_9 hv _) (noteT l ((kn x 1 + 1) % 65536)) (vtext_len ((fndD_ok (k := noteK ((kn x 1 + 1) % 65536)) (norm_sta hv).ok).len)) (by have := lines_len J ((kn x 1 + 1) % 65536); have := lines_len l ((kn x 1 + 1) % 65536); omega)) ?_
  rintro _ w32 ⟨rfl, hE32⟩
  replace hS := hS.ext hE32
  try simp only [nY]
  obtain ⟨e1, e2⟩ := rd7 ((kn x 1 + 1) % 65536) (by omega)
  rw [e1, e2]
  try simp only [eq_self, decide_true, Bool.and_self]
  refine x_nil ?_
  refine any_gn 13 rfl (go_yields w_none (fun w hS => s_pick_t)) ?_
  try simp only [nY]
  refine any_gn 14 rfl (go_yields w_none (fun w hS => s_move)) ?_
  try simp only [nY]
  apply any_gn 15 rfl (call_yields (w_on (yi (t := 158) rfl rfl)) en7 ?H2) ?K2
  case H2 =>
    intro w hS
    try simp only [nY, mY]
    refine CallR.mono (c_law18alive _) ?_
    rintro _ w1 ⟨rfl, hE⟩; exact ⟨rfl, hE⟩
  try simp only [nY]
  refine any_gn 16 rfl (go_yields w_none (fun w hS => s_pick_t)) ?_
  try simp only [nY]
  refine any_gn 17 rfl (go_yields w_none (fun w hS => s_assign)) ?_
  try simp only [nY]
  refine any_nil (by kernel_rfl) (fun w33 hE => ?_)
  replace hS := hS.ext hE
  refine ⟨fun _ => hS.selA, ?_⟩
  refine mix_leaf (by simp only [clob, List.foldl, nZ]) ?_
  try simp only [n1, n2]
  exact ⟨by trivial, hS.ext_of⟩
 intro fm3 w34 hM
 obtain ⟨hf4, hEE⟩ := hM
 simp only [clob, List.foldl, n3, n4, hf4]
 refine hK24 _ _ ?_
 refine x_ret (r_tmp rfl ?_)
 exact ⟨rfl, hEE⟩
end Go.Proofs.YtpekghaodmeemaaGreat
set_option linter.unusedSimpArgs false
set_option linter.unusedVariables false
set_option maxHeartbeats 800000
set_option maxRecDepth 100000
namespace Go.Proofs.YtpekghaodmeemaaGreat
open Go.ChangeShapes Go.WideShapes Go.ChangeAt Go.RowKit

theorem rows_aok {l : List (List Int)} (h : ∀ x ∈ l, x.length = atomKs.length ∧ ∀ i k, atomKs[i]? = some k → (Lit.int k (x.getD i 0)).wf = true) : AOks l := fun x hx => by
  obtain ⟨h1, h2⟩ := h x hx
  have W : World := { heap := #[], tape := fun _ _ => 0, drawn := 0, os := default, output := #[] }
  obtain ⟨a, e, ha⟩ := atom_open (w := W) (allOk_of h1 h2)
  rw [zi_inj h1 (by simpa using ha.len) e]; exact ha
theorem open_rows {w : World} {n : Nat} {xs : List Value} {A : Option Addr} (hr : Rd w A 21 n xs) (h : ∀ i, i < n → AllOk w (atomKs.map LK.int) ((xs.drop (i * 21)).take 21)) : ∃ l : List (List Int), l.length = n ∧ xs = arows l ∧ AOks l := by
  obtain ⟨l, hl, e, hok⟩ := rowsZ_open (w := w) (ks := atomKs) (n := n) (xs := xs) hr.1 h
  exact ⟨l, hl, e, rows_aok hok⟩
end Go.Proofs.YtpekghaodmeemaaGreat
set_option linter.unusedSimpArgs false
set_option linter.unusedVariables false
set_option maxHeartbeats 800000
set_option maxRecDepth 100000
namespace Go.Proofs.YtpekghaodmeemaaGreat
open Go.ChangeShapes Go.WideShapes Go.ChangeAt Go.RowKit

theorem byt_cut {x : List Int} {i n : Nat} (h : ∀ j, j < n → ∃ v, x[i + j]? = some v ∧ 0 ≤ v ∧ v ≤ 255) : Byt ((x.drop i).take n) := by
  intro y hy
  obtain ⟨j, hj, rfl⟩ := List.getElem_of_mem hy
  rw [List.length_take] at hj
  obtain ⟨v, hv, h1⟩ := h j (by omega)
  have : ((x.drop i).take n)[j]? = some v := by rw [List.getElem?_take, if_pos (by omega), List.getElem?_drop]; exact hv
  rw [List.getElem?_eq_getElem (by rw [List.length_take]; omega)] at this
  rw [Option.some.inj this]; exact h1
theorem op_of_wf {x : List Int} (hl : x.length = 19) (hx : ∀ i k, opKs[i]? = some k → (Lit.int k (x.getD i 0)).wf = true) : OpOk x := by
  have hbt : ∀ i n, (∀ j, j < n → opKs[i + j]? = some .u8) → Byt ((x.drop i).take n) := fun i n hk => byt_cut fun j hj => by
    have h1 := hk j hj
    have h2 := bounds_u8 (hx _ _ h1)
    have h3 : i + j < 19 := (List.getElem?_eq_some_iff.1 h1).1
    rw [List.getD_eq_getElem?_getD, List.getElem?_eq_getElem (by omega)] at h2
    exact ⟨_, List.getElem?_eq_getElem (by omega), h2⟩
  have hi : ∀ j, j < 8 → opKs[2 + j]? = some .u8 := fun j hj => by
    have : j = 0 ∨ j = 1 ∨ j = 2 ∨ j = 3 ∨ j = 4 ∨ j = 5 ∨ j = 6 ∨ j = 7 := by omega
    rcases this with rfl | rfl | rfl | rfl | rfl | rfl | rfl | rfl <;> rfl
  have ht : ∀ j, j < 8 → opKs[11 + j]? = some .u8 := fun j hj => by
    have : j = 0 ∨ j = 1 ∨ j = 2 ∨ j = 3 ∨ j = 4 ∨ j = 5 ∨ j = 6 ∨ j = 7 := by omega
    rcases this with rfl | rfl | rfl | rfl | rfl | rfl | rfl | rfl <;> rfl
  have b0 := bounds_i64 (hx 0 .i64 rfl)
  have b1 := wf_u16 (hx 1 .u16 rfl)
  have b10 := bounds_i64 (hx 10 .i64 rfl)
  exact ⟨hl, b0.1, b0.2, b1.1, b1.2, hbt 2 8 hi, b10.1, b10.2, hbt 11 8 ht⟩
abbrev ask18Ks : List IntKind := .u8 :: (opKs ++ [.i64])
theorem ask18_open {w : World} {cs : List Value} (h : AllOk w (ask18Ks.map LK.int) cs) : ∃ (r : Nat) (x : List Int) (m : Int), cs = qaL r x m ∧ r < 256 ∧ OpOk x := by
  obtain ⟨z, rfl, hl, hz⟩ := allOk_zi h
  have hl : z.length = 21 := hl
  have b0 := wf_u8 (hz 0 .u8 rfl)
  have hx : OpOk ((z.drop 1).take 19) := op_of_wf (by simp [hl]) fun i k hk => by
    have h1 : i < 19 := (List.getElem?_eq_some_iff.1 hk).1
    have h2 := hz (i + 1) k (by
      rw [show ask18Ks = .u8 :: (opKs ++ [.i64]) from rfl, List.getElem?_cons_succ, List.getElem?_append_left (by exact h1)]; exact hk)
    have h3 : ((z.drop 1).take 19).getD i 0 = z.getD (i + 1) 0 := by
      rw [List.getD_eq_getElem?_getD, List.getElem?_take, if_pos h1, List.getElem?_drop, Nat.add_comm, ← List.getD_eq_getElem?_getD]
    rw [h3]; exact h2
  refine ⟨(z.getD 0 0).toNat, (z.drop 1).take 19, z.getD 20 0, ?_, b0.2, hx⟩
  match z, hl with
  | [a0, a1, a2, a3, a4, a5, a6, a7, a8, a9, a10, a11, a12, a13, a14, a15, a16, a17, a18, a19, a20], _ =>
    have e : a0 = ((a0.toNat : Nat) : Int) := b0.1
    show zi ask18Ks [a0, a1, a2, a3, a4, a5, a6, a7, a8, a9, a10, a11, a12, a13, a14, a15, a16, a17, a18, a19, a20] = .int .u8 ((a0.toNat : Nat) : Int) :: (zi opKs [a1, a2, a3, a4, a5, a6, a7, a8, a9, a10, a11, a12, a13, a14, a15, a16, a17, a18, a19] ++ [.int .i64 a20])
    rw [← e]; rfl
end Go.Proofs.YtpekghaodmeemaaGreat
namespace Go.Proofs.YtpekghaodmeemaaGreat
open Go.ChangeShapes Go.WideShapes Go.ChangeAt Go.RowKit
theorem own0 : ownKnob Tryz.prog.godebug = none := by kernel_rfl
theorem laidOut0 : laidOutB Tryz.prog = true := by kernel_rfl
theorem fl5 : Flat Tryz.prog 5 [LK.int .u8] := flat_int U5
theorem fl23 : Flat Tryz.prog 23 [LK.int .u16] := flat_int U23
theorem fl25 : Flat Tryz.prog 25 (List.replicate 8 [LK.int .u8]).flatten := flat_arr U25 fl5 rfl (by kernel_rfl) (by kernel_rfl)
theorem fl51 : Flat Tryz.prog 51 [LK.int .u32] := flat_int U51
theorem fl61 : Flat Tryz.prog 61 ([LK.int .u8] ++ ([LK.int .u16] ++ ((List.replicate 8 [LK.int .u8]).flatten ++ ([LK.int .u8] ++ ([LK.int .u32] ++ ([])))))) := flat_struct U61 (.cons rfl fl5 rfl (by kernel_rfl) (.cons rfl fl23 rfl (by kernel_rfl) (.cons rfl fl25 rfl (by kernel_rfl) (.cons rfl fl5 rfl (by kernel_rfl) (.cons rfl fl51 rfl (by kernel_rfl) (.nil)))))) (by kernel_rfl)
theorem fl62 : Flat Tryz.prog 62 [LK.int .u64] := flat_int U62
theorem fl64 : Flat Tryz.prog 64 ([LK.int .u64] ++ ((List.replicate 8 [LK.int .u8]).flatten ++ ([]))) := flat_struct U64 (.cons rfl fl62 rfl (by kernel_rfl) (.cons rfl fl25 rfl (by kernel_rfl) (.nil))) (by kernel_rfl)
theorem fl66 : Flat Tryz.prog 66 (([LK.int .u8] ++ ([LK.int .u16] ++ ((List.replicate 8 [LK.int .u8]).flatten ++ ([LK.int .u8] ++ ([LK.int .u32] ++ ([])))))) ++ (([LK.int .u64] ++ ((List.replicate 8 [LK.int .u8]).flatten ++ ([]))) ++ ([]))) := flat_struct U66 (.cons rfl fl61 rfl (by kernel_rfl) (.cons rfl fl64 rfl (by kernel_rfl) (.nil))) (by kernel_rfl)
theorem fl3 : Flat Tryz.prog 3 [LK.int .i64] := flat_int U3
theorem fl27 : Flat Tryz.prog 27 ([LK.int .i64] ++ ([LK.int .u16] ++ ((List.replicate 8 [LK.int .u8]).flatten ++ ([LK.int .i64] ++ ((List.replicate 8 [LK.int .u8]).flatten ++ ([])))))) := flat_struct U27 (.cons rfl fl3 rfl (by kernel_rfl) (.cons rfl fl23 rfl (by kernel_rfl) (.cons rfl fl25 rfl (by kernel_rfl) (.cons rfl fl3 rfl (by kernel_rfl) (.cons rfl fl25 rfl (by kernel_rfl) (.nil)))))) (by kernel_rfl)
theorem fl29 : Flat Tryz.prog 29 ([LK.int .u8] ++ (([LK.int .i64] ++ ([LK.int .u16] ++ ((List.replicate 8 [LK.int .u8]).flatten ++ ([LK.int .i64] ++ ((List.replicate 8 [LK.int .u8]).flatten ++ ([])))))) ++ ([LK.int .i64] ++ ([])))) := flat_struct U29 (.cons rfl fl5 rfl (by kernel_rfl) (.cons rfl fl27 rfl (by kernel_rfl) (.cons rfl fl3 rfl (by kernel_rfl) (.nil)))) (by kernel_rfl)
end Go.Proofs.YtpekghaodmeemaaGreat
namespace Go.Proofs.YtpekghaodmeemaaGreat
theorem ws_cons {c : Char} (h : c ≠ Char.ofNat 32) (x : List Char) : wordsSigns (c :: x) = (match wordsSigns x with | w :: ws => (c :: w) :: ws | [] => [[c]]) := by
  conv => lhs; unfold wordsSigns
  split
  · simp_all
  · next h1 => exact absurd (by simpa using (List.cons.inj h1).1) h
  · next h1 => obtain ⟨rfl, rfl⟩ := List.cons.inj h1; rfl
theorem ws_app (b : List Char) : ∀ (a : List Char), (∀ c ∈ a, c ≠ Char.ofNat 32) → wordsSigns (a ++ Char.ofNat 32 :: b) = a :: wordsSigns b
  | [], _ => rfl
  | c :: r, h => by
    rw [List.cons_append, ws_cons (h c (by simp)), ws_app b r (fun x hx => h x (by simp [hx]))]
/-- the head's words: harness, a sum, cut -/
theorem head_words {P : Program} {s b : List Char} (he : P.initOrder = String.ofList ("harness".toList ++ Char.ofNat 32 :: (s ++ Char.ofNat 32 :: ("cut".toList ++ Char.ofNat 32 :: b)))) (hs : isSumSigns s = true) (hb : ∀ c ∈ s, c ≠ Char.ofNat 32) :
    ∃ R, behindMainWord (wordsSigns P.initOrder.toList) = "cut".toList :: R := by
  refine ⟨wordsSigns b, ?_⟩
  rw [he, String.toList_ofList, ws_app _ _ (by decide), ws_app _ _ hb, ws_app _ _ (by decide)]
  simp only [behindMainWord, hs, beq_self_eq_true, Bool.true_or, Bool.and_self, if_true]
theorem e_gc : ("cut".toList == "gc".toList) = false := by decide
theorem e_spec : ("cut".toList == "spec".toList) = false := by decide
theorem e_car : ("cut".toList == "carried".toList) = false := by decide
theorem e_sl (R : List (List Char)) : stripLifts liftWords ("cut".toList :: R) = ([], "cut".toList :: R) := by
  have h : ∀ (l : List String), (∀ o ∈ l, ("cut".toList == o.toList) = false) → stripLifts l ("cut".toList :: R) = ([], "cut".toList :: R) := by
    intro l
    induction l with
    | nil => intro _; rfl
    | cons o os ih => intro hl; rw [stripLifts, hl o (by simp)]; simp only [Bool.false_eq_true, if_false]; exact ih fun x hx => hl x (by simp [hx])
  exact h liftWords (by decide)
section
variable {P : Program} (h : ∃ R, behindMainWord (wordsSigns P.initOrder.toList) = "cut".toList :: R)
include h
theorem make_of : P.make = some .cut := by
  obtain ⟨R, h⟩ := h
  unfold Program.make
  rw [h]
  simp only [e_gc, e_spec, beq_self_eq_true, Bool.or_self, Bool.true_or, Bool.false_eq_true, if_false, if_true]
theorem lifts_of : P.liftsFinal = false := by
  obtain ⟨R, h⟩ := h
  unfold Program.liftsFinal Program.headLifts
  rw [h, e_sl]
  show (_ || _) = false
  rfl
theorem enter_of (hl : P.laysLater = false) (hr : P.bearsReflect = false) (hd : P.doorFits [] = true) : P.mayEnter = true := by
  obtain ⟨R, h⟩ := h
  unfold Program.mayEnter
  rw [h]
  dsimp only
  rw [e_sl, hl, hr]
  simp only [hd, e_gc, e_spec, e_car, beq_self_eq_true, Bool.or_self, Bool.false_and, Bool.not_false, Bool.or_true, Bool.and_true, List.head?_cons, List.contains_nil]
end
theorem closed_of {P : Program} {f : FuncId} {fn : Func} {s : ChangeSpec} {c : OpenClaim} (hm : P.make = some .cut) (hl : P.liftsFinal = false) (he : P.mayEnter = true) (h2 : laidOutB P = true) (h3 : mapsRowed P = true) (hst : (P.stops == []) = true) (hk : (P.stopKnobs == []) = true)
    (hp : P.plainKeys = c.plainKeys) (hh : P.stopsHeard = true) (i1 : P.inPlace f = c.inPlace) (i2 : P.unfollowed f = c.unfollowed) (i3 : P.recurses f = c.recurses) (i4 : P.varsNamed f = c.named)
    (rest : (c.wf (OpenSpec.ofChange s) && fn.params.all (P.readableRec ·) && namedTie P c.named s.vars && (c.stops == []) && (c.knobs == []) &&
      (c.maps == (fn.params.toList ++ s.plain.varTypes P).any (P.mapsRec ·)) && (c.ifaces == (fn.params.toList ++ s.plain.varTypes P).any (P.ifacesRec ·)) && (c.mapsOut == P.mapsAmong fn.resultTypes.toList) &&
      (c.loops == (fn.params.toList ++ s.plain.varTypes P).any (P.loopsFrom ·)) && (c.wideKeys == (fn.params.toList ++ s.plain.varTypes P ++ fn.resultTypes.toList).any (P.wideKeysFrom ·)) &&
      s.vars.all (P.varReadable ·) && fn.resultTypes.all (fun t => P.readableRec t && decide (t < P.types.size)) && (c.ifacesOut == fn.resultTypes.toList.any (P.ifacesRec ·)) && (c.loopsOut == fn.resultTypes.toList.any (P.loopsFrom ·)) && c.shortTexts.isNone && (c.lifted == false) && (some Make.cut == some c.make) &&
      (c.kinds == (if c.domain.isEmpty then [] else fn.params.toList.map fun t => match P.underlying t with | some (.int k) => some k | _ => none)) && (c.pinned == c.pinnedBy) &&
      (c.veiled == (fn.params.toList ++ s.plain.varTypes P ++ fn.resultTypes.toList).any (P.veiledRec ·)) && c.veiledFits P fn.params.toList (fn.params.toList ++ s.plain.varTypes P ++ fn.resultTypes.toList)) = true) : joinedFacts P f fn s c = true := by
  simp only [Bool.and_eq_true] at rest
  unfold joinedFacts
  rw [hm, hl, he, h2, h3, hst, hk, hp, hh, i1, i2, i3, i4]
  simp only [beq_self_eq_true, Bool.and_eq_true, Bool.and_true]
  have hkd := rest.1.1.1.2
  simp only [rest, and_self]
  exact ⟨⟨⟨⟨trivial, hkd⟩, trivial⟩, trivial⟩, trivial⟩
end Go.Proofs.YtpekghaodmeemaaGreat
namespace Go.Proofs.YtpekghaodmeemaaGreat
def ioS : List Nat := [101, 49, 100, 50, 55, 101, 57, 54, 54, 50, 53, 99, 56, 101, 50, 52, 100, 50, 100, 56, 97, 100, 98, 57, 57, 49, 99, 56, 97, 55, 54, 101, 48, 51, 98, 98, 48, 54, 101, 56, 56, 55, 55, 52, 50, 99, 102, 53, 55, 99, 99, 57, 100, 100, 50, 48, 57, 56, 57, 97, 56, 55, 98, 52]
def ioB : List Nat := [97, 116, 32, 104, 97, 110, 100, 99, 97, 114, 116, 47, 104, 97, 110, 100, 99, 97, 114, 116, 108, 97, 119, 49, 56, 46, 83, 104, 111, 112, 82, 117, 110, 115, 32, 104, 97, 110, 100, 99, 97, 114, 116, 47, 104, 97, 110, 100, 99, 97, 114, 116, 108, 97, 119, 49, 56, 46, 83, 104, 111, 112, 82, 111, 111, 109, 32, 104, 97, 110, 100, 99, 97, 114, 116, 47, 104, 97, 110, 100, 99, 97, 114, 116, 108, 97, 119, 49, 56, 46, 83, 104, 111, 112, 68, 111, 101, 115, 32, 104, 97, 110, 100, 99, 97, 114, 116, 47, 104, 97, 110, 100, 99, 97, 114, 116, 108, 97, 119, 49, 56, 46, 83, 104, 111, 112, 82, 101, 97, 100, 115]
theorem io_eq : Tryz.prog.initOrder = String.ofList ("harness".toList ++ Char.ofNat 32 :: (ioS.map Char.ofNat ++ Char.ofNat 32 :: ("cut".toList ++ Char.ofNat 32 :: ioB.map Char.ofNat))) := by kernel_rfl
theorem io_sum : isSumSigns (ioS.map Char.ofNat) = true := by kernel_rfl
theorem io_hd : ∃ R, behindMainWord (wordsSigns Tryz.prog.initOrder.toList) = "cut".toList :: R := head_words io_eq io_sum (by decide)
theorem p_make : Tryz.prog.make = some .cut := make_of io_hd
theorem p_lifts : Tryz.prog.liftsFinal = false := lifts_of io_hd
theorem p_ll : Tryz.prog.laysLater = false := by kernel_rfl
theorem p_br : Tryz.prog.bearsReflect = false := by kernel_rfl
theorem p_df : Tryz.prog.doorFits [] = true := by kernel_rfl
theorem p_enter : Tryz.prog.mayEnter = true := enter_of io_hd p_ll p_br p_df
theorem p_rowed : mapsRowed Tryz.prog = true := by kernel_rfl
theorem p_stops : (Tryz.prog.stops == []) = true := by kernel_rfl
theorem p_knobs : (Tryz.prog.stopKnobs == []) = true := by kernel_rfl
theorem p_keys : Tryz.prog.plainKeys = false := by kernel_rfl
theorem p_heard : Tryz.prog.stopsHeard = true := by kernel_rfl
end Go.Proofs.YtpekghaodmeemaaGreat
