/- Rules, plain words and walks that the claim leans on: Qd, Qe, Qf, Qg, Qh, Oa, Ob, Oc, Qi, Pheap, Rk, Rl, Sa, Sb. -/
import Derived.Test.YtpekghaodmeemaaGreatZShopReads4
set_option linter.unusedSimpArgs false
set_option linter.unusedVariables false
set_option linter.unusedSimpArgs false
set_option linter.unusedVariables false
set_option maxHeartbeats 2000000
set_option maxRecDepth 100000
namespace Go.Proofs.YtpekghaodmeemaaGreat
open Go.RowKit

def tagQ (c : Nat) (it : List Int) (n : Nat) (a : List Int) : Bool := decide (kn a 0 = 1) && decide (kn a 1 = c) && decide (kitem (akey a) = it) && (decide (n = 0) || decide (kn (aval a) 0 = n))
def tagS (s : List (List Int)) (c : Nat) (it : List Int) (n : Nat) : List (List Int) := s.filter (tagQ c it n)
theorem tag_take {s : List (List Int)} {c n : Nat} {it : List Int} {k : Nat} {x : List Int} (hk : k < s.length) (hx : s.getD k [] = x) : (tagQ c it n x = true → tagS (s.take (k + 1)) c it n = tagS (s.take k) c it n ++ [x]) ∧ (tagQ c it n x = false → tagS (s.take (k + 1)) c it n = tagS (s.take k) c it n) := by
  rw [take_snoc hk, hx, tagS, List.filter_append]
  refine ⟨fun h => ?_, fun h => ?_⟩
  · rw [List.filter_cons_of_pos h]; rfl
  · rw [List.filter_cons_of_neg (by rw [h]; decide)]; simp [tagS]
theorem tag_len (s : List (List Int)) (c : Nat) (it : List Int) (n : Nat) : (tagS s c it n).length ≤ s.length := List.length_filter_le _ _
theorem arow_num {l : List (List Int)} {k : Nat} (hk : k < l.length) (hv : AOks l) : (arows l)[k * 21 + 12]? = some (.int .u64 ((aval (l.getD k [])).getD 0 0)) := by
  have h := congrArg (fun a : Array Value => a[0]?) (arow_val hk hv)
  have ha := (hv.get hk).val.len
  have h2 : (VA (aval (l.getD k [])))[0]? = some (.int .u64 ((aval (l.getD k [])).getD 0 0)) := zi_get rfl (by omega)
  rw [← h2, ← h]
  simp [List.getElem?_take, List.getElem?_drop]

theorem c_ref14tags (w0 : World) (A : Option Addr) (c : Nat) (l : List (List Int)) (hr : Rd w0 A 21 l.length (arows l)) (hv : AOks l) (hn : l.length ≤ 1000000000) (ct : Nat) (hct : ct < 65536) (it : List Int) (h8 : it.length = 8) (n : Nat) (hn64 : n < 18446744073709551616)  :
    CallR Tryz.prog 46 #[.slice A l.length c, .int .u16 (ct : Int), .agg (ic .u8 it), .int .u64 (n : Int)] w0 fun v w' => ∃ D e, v = .slice D (tagS (normP l) ct it n).length e ∧ St NoB w0 w' [.vec D e 66 21 (tagS (normP l) ct it n).length (arows (tagS (normP l) ct it n))] := by
 have hS := St.rd1 (S := NoB) hr
 have hsn := norm_sta hv
 have hno := hsn.ok
 have hnb := norm_len l
 have hnl := arows_len (normP l)
 refine c_enter (l := [.slice A l.length c, .int .u16 (ct : Int), .agg (ic .u8 it), .int .u64 (n : Int), undef, undef, undef, undef, undef, undef, undef, undef, undef, undef, undef, undef, undef, undef, undef, undef, undef, undef, undef, undef, undef, undef, undef, undef, undef, undef, undef, undef, undef, undef, undef, undef, undef, undef, undef, undef, undef, undef, undef, undef, undef, undef, undef, undef, undef, undef, undef, undef, undef, undef, undef, undef, undef, undef, undef, undef, undef, undef]) Tryz.func46 rfl (by simp only [Tryz.ntmps46, List.size_toArray, List.length_cons, List.length_nil, Nat.reduceAdd, Nat.reduceSub, Array.replicate_succ, Array.replicate_zero, List.push_toArray, List.append_toArray, List.nil_append, List.cons_append]) ?_
 refine x_seq fun K1 hK1 => x_region ?_
 refine m_box hS (fun w1 g1 hS => ?_)
 try simp only [nY, aY] at hS ⊢
 obtain ⟨gi, hgi⟩ : ∃ z, z = g1 := ⟨_, rfl⟩
 rw [← hgi] at hS ⊢
 refine s_go s_assign ?_
 try simp only [nY]
 refine x_nil (hK1 _ _ ?_)
 refine x_seq fun K2 hK2 => x_region ?_
 refine s_go s_move ?_
 try simp only [nY]
 refine s_call en12 ?_
 try simp only [nY, mY]
 refine CallR.mono (c_ref10Norm _ A c l (hS.hasA) hv hn) ?_
 rintro _ w2 ⟨Bn, cn, rfl, hR2⟩
 replace hS := hS.back hR2
 try simp only [nY]
 refine s_go s_assign ?_
 try simp only [nY]
 refine x_nil (hK2 _ _ ?_)
 refine x_seq fun K3 hK3 => x_region ?_
 refine s_go s_assign ?_
 try simp only [nY]
 refine x_nil (hK3 _ _ ?_)
 refine x_seq fun K4 hK4 => ?_
 refine x_seq fun K5 hK5 => x_region ?_
 refine s_go s_assign ?_
 try simp only [nY]
 refine x_nil (hK5 _ _ ?_)
 refine x_block ?_
 refine x_loop [9, 10, 11, 14, 15, 16, 17, 18, 19, 20, 21, 22, 23, 24, 25, 26, 27, 28, 29, 30, 31, 32, 33, 34, 35, 36, 37, 38, 39, 40, 41, 42, 43, 44, 45, 46, 47, 48, 49, 50, 51, 52, 53, 54, 55, 56, 57, 58, 59, 60] (fun m f w => ∃ (k : Nat) (D : Option Addr) (e : Nat), k ≤ (normP l).length ∧ m = (normP l).length - k ∧ f 10 = .int .i64 (k : Int) ∧ f 9 = .slice D (tagS ((normP l).take k) ct it n).length e ∧ St NoB w0 w [.vec D e 66 21 ((tagS ((normP l).take k) ct it n)).length (arows ((tagS ((normP l).take k) ct it n))), .obj gi (.cells (ic .u8 it) 25 (0, 0)), .rd Bn 21 (normP l).length (arows (normP l))]) ((normP l).length) ?init1 (fun m1 f1 wl1 hI => ?_)
 case init1 =>
  try simp only [nY]
  replace hS := hS.nil_vec 66 21
  exact ⟨0, none, 0, by omega, rfl, rfl, rfl, hS.selA⟩
 obtain ⟨k, D, e, hk0, hmk, h10, h9, hS⟩ := hI
 simp only [clob, List.foldl, n3, n4, h10, h9]
 obtain ⟨x, hx⟩ : ∃ x, (normP l).getD k [] = x := ⟨_, rfl⟩
 have htl := tag_len ((normP l).take k) ct it n
 have hlt : ((normP l).take k).length ≤ (normP l).length := by rw [List.length_take]; omega
 refine x_seq fun K6 hK6 => ?_
 refine x_seq fun K7 hK7 => x_region ?_
 refine s_go s_move ?_
 try simp only [nY]
 refine s_go s_move ?_
 try simp only [nY]
 refine s_go (s_len_sl U22) ?_
 try simp only [nY]
 refine s_go s_lss ?_
 try simp only [nY]
 refine x_nil (hK7 _ _ ?_)
 refine x_cond (ht := fun hc1 => ?_) (hf := fun hc1 => ?_)
 ·
  try simp only [dY] at hc1
  have ha : AtomOk x := by rw [← hx]; exact hno.get (by omega)
  have hal := ha.len
  have hkx := ha.key
  have hk12 := hkx.len
  have hvx := ha.val
  have hk01 := akey_k hal
  have hil := kitem_len hkx.len
  have htk := tag_take (c := ct) (n := n) (it := it) (k := k) (by omega) hx
  refine x_skip ?_
  refine hK6 _ _ ?_
  refine x_seq fun K8 hK8 => ?_
  refine x_block ?_
  refine x_seq fun K9 hK9 => x_region ?_
  refine s_go s_move ?_
  try simp only [nY]
  refine s_go s_move ?_
  try simp only [nY]
  refine s_go (m_indexAddr_rd U22 ti66 (hS := hS)) ?_
  try simp only [nY, Nat.mul_one, Nat.zero_add, Int.toNat_natCast, Int.reduceToNat]
  refine s_go (m_fieldAddr_rd U66 (hi := ti61) (hS := hS)) ?_
  try simp only [nY, fY, gY]
  refine s_go (m_loada_rd U61 (hi := ti61) (hS := hS) (hfit := by rw [arows_len]; omega)) ?_
  try simp only [nY, gY]
  rw [arow_key (by omega) hno, hx]
  refine m_alloc ti61 hS (fun w3 g3 hS => ?_)
  try simp only [nY, aY] at hS ⊢
  have h0l : key0.length = 12 := rfl
  replace hS : St _ _ w3 (.obj g3 (.cells (KA key0) 61 (0, 0)) :: _) := hS
  refine m_store_obj ti61 (hS := hS) (hc := by exact zi_whole (by omega) (by omega)) (hv := by (show (zi _ _).toArray.size = _; rw [zi_size (by omega)]; rfl)) (hfit := by (rw [zi_size (by omega)]; decide)) (h1 := by exact zi_one _ _) (h := fun w4 hS => ?_)
  try simp only [nY, aY] at hS ⊢
  refine x_nil (hK9 _ _ ?_)
  refine x_seq fun K10 hK10 => x_region ?_
  refine s_go (m_fieldAddr U61 (hi := ti5)) ?_
  try simp only [nY, fY, gY]
  refine s_go (m_load_obj U5 (hS := hS) (hv := by exact zi_get rfl (by omega))) ?_
  try simp only [nY, gY]
  rw [hkx.e0, hk01.1]
  refine s_go s_eql ?_
  try simp only [nY]
  refine s_go s_move ?_
  try simp only [nY]
  refine s_part 28 rfl (fun hp1 => ?_) (fun hp1 => ?_)
  ·
   try simp only [n3, n4]
   try simp only [dZ, ne_eq] at hp1
   have q1 : decide (kn x 0 = 1) = true := decide_eq_true (by omega)
   refine g_on (yi (t := 28) rfl rfl) ?_
   refine s_go (m_fieldAddr U61 (hi := ti23)) ?_
   try simp only [nY, fY, gY]
   refine g_on (yi (t := 28) rfl rfl) ?_
   refine s_go (m_load_obj U23 (hS := hS) (hv := by exact zi_get rfl (by omega))) ?_
   try simp only [nY, gY]
   rw [hkx.e1, hk01.2]
   refine g_on (yi (t := 28) rfl rfl) ?_
   refine s_go s_move ?_
   try simp only [nY]
   refine g_on (yi (t := 28) rfl rfl) ?_
   refine s_go s_eql ?_
   try simp only [nY]
   refine s_go s_pick_t ?_
   try simp only [nY]
   refine s_go s_move ?_
   try simp only [nY]
   refine s_part 34 rfl (fun hp2 => ?_) (fun hp2 => ?_)
   ·
    try simp only [n3, n4]
    try simp only [dZ, ne_eq] at hp2
    have q2 : decide (kn x 1 = ct) = true := decide_eq_true (by omega)
    refine g_on (yi (t := 34) rfl rfl) ?_
    refine s_go (m_fieldAddr U61 (hi := ti25)) ?_
    try simp only [nY, fY, gY]
    refine g_on (yi (t := 34) rfl rfl) ?_
    refine s_go (m_loada_obj U25 (hi := ti25) (hS := hS) (hfit := by (rw [zi_size (by omega)]; decide))) ?_
    try simp only [nY, gY]
    rw [key_item hkx.len]
    refine g_on (yi (t := 34) rfl rfl) ?_
    refine s_go (m_load_row U25 (hi := ti25) (hS := hS) (hfit := by (simp only [ic_size, List.length_map, List.size_toArray]; omega))) ?_
    try simp only [nY, gY]
    refine g_on (yi (t := 34) rfl rfl) ?_
    refine s_go (s_eql_agg eqv25 (hg := eg25) (hX := zi_ic (by assumption)) (hY := zi_ic (by assumption)) (h1 := by assumption) (h2 := by assumption)) ?_
    try simp only [nY]
    refine s_go s_pick_t ?_
    try simp only [nY]
    refine s_go s_move ?_
    try simp only [nY]
    refine s_part 40 rfl (fun hp3 => ?_) (fun hp3 => ?_)
    ·
     try simp only [n3, n4]
     try simp only [dZ, ne_eq] at hp3
     have q3 : decide (kitem (akey x) = it) = true := by simpa using hp3
     refine g_on (yi (t := 40) rfl rfl) ?_
     refine s_go s_move ?_
     try simp only [nY]
     refine g_on (yi (t := 40) rfl rfl) ?_
     refine s_go s_eql ?_
     try simp only [nY]
     refine g_on (yi (t := 40) rfl rfl) ?_
     refine s_go s_move ?_
     try simp only [nY]
     refine s_part 43 rfl (fun hp4 => ?_) (fun hp4 => ?_)
     ·
      try simp only [n3, n4]
      try simp only [dZ, ne_eq] at hp4
      have hst := htk.1 (by rw [tagQ, q1, q2, q3, decide_eq_true (show n = 0 by omega)]; rfl)
      refine g_off (yi (t := 43) rfl rfl) ?_
      try simp only [nY]
      refine g_off (yi (t := 43) rfl rfl) ?_
      try simp only [nY]
      refine g_off (yi (t := 43) rfl rfl) ?_
      try simp only [nY]
      refine g_off (yi (t := 43) rfl rfl) ?_
      try simp only [nY]
      refine g_off (yi (t := 43) rfl rfl) ?_
      try simp only [nY]
      refine g_off (yi (t := 43) rfl rfl) ?_
      try simp only [nY]
      refine g_off (yi (t := 43) rfl rfl) ?_
      try simp only [nY]
      refine g_off (yi (t := 43) rfl rfl) ?_
      try simp only [nY]
      refine g_on (yi (t := 40) rfl rfl) ?_
      refine s_go s_pick_t ?_
      try simp only [nY]
      refine s_go s_pick_t ?_
      try simp only [nY]
      refine x_nil (hK10 _ _ ?_)
      refine x_cond_t (h := ?_)
      try have hst := htk.1 (by rw [tagQ, q1, q2, q3, decide_eq_true (show kn (aval x) 0 = n by omega), Bool.or_true]; rfl)
      refine x_region ?_
      refine s_go s_move ?_
      try simp only [nY]
      refine s_go s_move ?_
      try simp only [nY]
      refine s_go s_move ?_
      try simp only [nY]
      refine s_go (m_indexAddr_rd U22 ti66 (hS := hS)) ?_
      try simp only [nY, Nat.mul_one, Nat.zero_add, Int.toNat_natCast, Int.reduceToNat]
      refine s_go (m_loada_rd U66 (hi := ti66) (hS := hS) (hfit := by rw [arows_len]; omega)) ?_
      try simp only [nY, gY]
      rw [arow_get (by omega) hno, hx]
      refine m_buildRow (cells := (AA x)) U22 ti66 (hc := by simp only [List.map_toArray, List.map_cons, List.map_nil, nY, List.toList_toArray]; exact fill_one (by rfl) (zi_size21 hal) (by rfl)) (hS := hS) (h := fun w5 g5 hS => ?_)
      try simp only [nY, aY] at hS ⊢
      replace hS := hS.obj_rd (sz := 21) (n := 1) (by exact zi_size21 hal) .head
      rw [arow_one hal] at hS
      refine m_append U22 ti66 (hS := hS) (h1 := rowsZ_cells _ _) (h := fun w6 A6 C6 hS => ?_)
      try simp only [← List.map_append, ← List.map_drop, ← List.map_take, Nat.mul_one, Nat.zero_mul, Nat.sub_zero, List.drop_zero, List.nil_append, Nat.zero_add] at hS ⊢
      try simp only [nY, aY] at hS ⊢
      rw [add_one] at hS
      refine s_go s_assign ?_
      try simp only [nY]
      refine x_nil (hK8 _ _ ?_)
      refine x_region ?_
      refine s_go s_move ?_
      try simp only [nY]
      refine s_go (s_add (hc := by exact wr_i64 (by omega) (by omega))) ?_
      try simp only [nY]
      refine s_go s_assign ?_
      try simp only [nY]
      refine x_nil ?_
      refine loop_back (m' := (normP l).length - (k + 1)) (by simp only [clob, List.foldl, nZ]) ?_ ?_
      · try simp only [nY]
        exact ⟨k + 1, _, _, by omega, by omega, by rfl, by rw [hst, List.length_append]; rfl, by rw [hst, List.length_append]; exact hS.selA⟩
      · omega
     try simp only [n3, n4]
     try simp only [dZ, ne_eq] at hp4
     have q4 : ¬ n = 0 := by omega
     refine g_on (yi (t := 43) rfl rfl) ?_
     refine s_go s_move ?_
     try simp only [nY]
     refine g_on (yi (t := 43) rfl rfl) ?_
     refine s_go s_move ?_
     try simp only [nY]
     refine g_on (yi (t := 43) rfl rfl) ?_
     refine s_go (m_indexAddr_rd U22 ti66 (hS := hS)) ?_
     try simp only [nY, Nat.mul_one, Nat.zero_add, Int.toNat_natCast, Int.reduceToNat]
     refine g_on (yi (t := 43) rfl rfl) ?_
     refine s_go (m_fieldAddr_rd U66 (hi := ti64) (hS := hS)) ?_
     try simp only [nY, fY, gY]
     refine g_on (yi (t := 43) rfl rfl) ?_
     refine s_go (m_fieldAddr_rd U64 (hi := ti62) (hS := hS)) ?_
     try simp only [nY, fY, gY]
     refine g_on (yi (t := 43) rfl rfl) ?_
     refine s_go (m_load_rd U62 (hS := hS) (hv := arow_num (by omega) hno)) ?_
     try simp only [nY, gY]
     rw [hx, hvx.e0]
     refine g_on (yi (t := 43) rfl rfl) ?_
     refine s_go s_move ?_
     try simp only [nY]
     refine g_on (yi (t := 43) rfl rfl) ?_
     refine s_go s_eql ?_
     try simp only [nY]
     refine g_on (yi (t := 40) rfl rfl) ?_
     refine s_go s_pick_f ?_
     try simp only [nY]
     refine s_go s_pick_t ?_
     try simp only [nY]
     refine x_nil (hK10 _ _ ?_)
     refine x_cond (ht := fun hc3 => ?_) (hf := fun hc3 => ?_)
     ·
      try simp only [dY] at hc3
      try have hst := htk.1 (by rw [tagQ, q1, q2, q3, decide_eq_true (show kn (aval x) 0 = n by omega), Bool.or_true]; rfl)
      refine x_region ?_
      refine s_go s_move ?_
      try simp only [nY]
      refine s_go s_move ?_
      try simp only [nY]
      refine s_go s_move ?_
      try simp only [nY]
      refine s_go (m_indexAddr_rd U22 ti66 (hS := hS)) ?_
      try simp only [nY, Nat.mul_one, Nat.zero_add, Int.toNat_natCast, Int.reduceToNat]
      refine s_go (m_loada_rd U66 (hi := ti66) (hS := hS) (hfit := by rw [arows_len]; omega)) ?_
      try simp only [nY, gY]
      rw [arow_get (by omega) hno, hx]
      refine m_buildRow (cells := (AA x)) U22 ti66 (hc := by simp only [List.map_toArray, List.map_cons, List.map_nil, nY, List.toList_toArray]; exact fill_one (by rfl) (zi_size21 hal) (by rfl)) (hS := hS) (h := fun w7 g7 hS => ?_)
      try simp only [nY, aY] at hS ⊢
      replace hS := hS.obj_rd (sz := 21) (n := 1) (by exact zi_size21 hal) .head
      rw [arow_one hal] at hS
      refine m_append U22 ti66 (hS := hS) (h1 := rowsZ_cells _ _) (h := fun w8 A8 C8 hS => ?_)
      try simp only [← List.map_append, ← List.map_drop, ← List.map_take, Nat.mul_one, Nat.zero_mul, Nat.sub_zero, List.drop_zero, List.nil_append, Nat.zero_add] at hS ⊢
      try simp only [nY, aY] at hS ⊢
      rw [add_one] at hS
      refine s_go s_assign ?_
      try simp only [nY]
      refine x_nil (hK8 _ _ ?_)
      refine x_region ?_
      refine s_go s_move ?_
      try simp only [nY]
      refine s_go (s_add (hc := by exact wr_i64 (by omega) (by omega))) ?_
      try simp only [nY]
      refine s_go s_assign ?_
      try simp only [nY]
      refine x_nil ?_
      refine loop_back (m' := (normP l).length - (k + 1)) (by simp only [clob, List.foldl, nZ]) ?_ ?_
      · try simp only [nY]
        exact ⟨k + 1, _, _, by omega, by omega, by rfl, by rw [hst, List.length_append]; rfl, by rw [hst, List.length_append]; exact hS.selA⟩
      · omega
     try simp only [dY] at hc3
     try have hst := htk.2 (by rw [tagQ, q1, q2, q3, decide_eq_false q4, decide_eq_false (show ¬ kn (aval x) 0 = n by omega)]; rfl)
     refine x_skip ?_
     refine hK8 _ _ ?_
     refine x_region ?_
     refine s_go s_move ?_
     try simp only [nY]
     refine s_go (s_add (hc := by exact wr_i64 (by omega) (by omega))) ?_
     try simp only [nY]
     refine s_go s_assign ?_
     try simp only [nY]
     refine x_nil ?_
     refine loop_back (m' := (normP l).length - (k + 1)) (by simp only [clob, List.foldl, nZ]) ?_ ?_
     · try simp only [nY]
       exact ⟨k + 1, _, _, by omega, by omega, by rfl, by rw [hst], by rw [hst]; exact hS.selA⟩
     · omega
    try simp only [n3, n4]
    try simp only [dZ, ne_eq] at hp3
    try have hst := htk.2 (by rw [tagQ, q1, q2, show decide (kitem (akey x) = it) = false by simpa using hp3]; rfl)
    refine g_off (yi (t := 40) rfl rfl) ?_
    try simp only [nY]
    refine g_off (yi (t := 40) rfl rfl) ?_
    try simp only [nY]
    refine g_off (yi (t := 40) rfl rfl) ?_
    try simp only [nY]
    refine g_un (yn (t := 43) rfl rfl) ?_
    try simp only [nY]
    refine g_un (yn (t := 43) rfl rfl) ?_
    try simp only [nY]
    refine g_un (yn (t := 43) rfl rfl) ?_
    try simp only [nY]
    refine g_un (yn (t := 43) rfl rfl) ?_
    try simp only [nY]
    refine g_un (yn (t := 43) rfl rfl) ?_
    try simp only [nY]
    refine g_un (yn (t := 43) rfl rfl) ?_
    try simp only [nY]
    refine g_un (yn (t := 43) rfl rfl) ?_
    try simp only [nY]
    refine g_un (yn (t := 43) rfl rfl) ?_
    try simp only [nY]
    refine g_off (yi (t := 40) rfl rfl) ?_
    try simp only [nY]
    refine s_go s_pick_f ?_
    try simp only [nY]
    refine x_nil (hK10 _ _ ?_)
    refine x_cond_f (h := ?_)
    try have hst := htk.2 (by rw [tagQ, q1, q2, q3, decide_eq_false q4, decide_eq_false (show ¬ kn (aval x) 0 = n by omega)]; rfl)
    refine x_skip ?_
    refine hK8 _ _ ?_
    refine x_region ?_
    refine s_go s_move ?_
    try simp only [nY]
    refine s_go (s_add (hc := by exact wr_i64 (by omega) (by omega))) ?_
    try simp only [nY]
    refine s_go s_assign ?_
    try simp only [nY]
    refine x_nil ?_
    refine loop_back (m' := (normP l).length - (k + 1)) (by simp only [clob, List.foldl, nZ]) ?_ ?_
    · try simp only [nY]
      exact ⟨k + 1, _, _, by omega, by omega, by rfl, by rw [hst], by rw [hst]; exact hS.selA⟩
    · omega
   try simp only [n3, n4]
   try simp only [dZ, ne_eq] at hp2
   try have hst := htk.2 (by rw [tagQ, q1, decide_eq_false (show ¬ kn x 1 = ct by omega)]; rfl)
   refine g_off (yi (t := 34) rfl rfl) ?_
   try simp only [nY]
   refine g_off (yi (t := 34) rfl rfl) ?_
   try simp only [nY]
   refine g_off (yi (t := 34) rfl rfl) ?_
   try simp only [nY]
   refine g_off (yi (t := 34) rfl rfl) ?_
   try simp only [nY]
   refine s_go s_pick_f ?_
   try simp only [nY]
   refine s_go s_move ?_
   try simp only [nY]
   refine g_off (yi (t := 40) rfl rfl) ?_
   try simp only [nY]
   refine g_off (yi (t := 40) rfl rfl) ?_
   try simp only [nY]
   refine g_off (yi (t := 40) rfl rfl) ?_
   try simp only [nY]
   refine g_un (yn (t := 43) rfl rfl) ?_
   try simp only [nY]
   refine g_un (yn (t := 43) rfl rfl) ?_
   try simp only [nY]
   refine g_un (yn (t := 43) rfl rfl) ?_
   try simp only [nY]
   refine g_un (yn (t := 43) rfl rfl) ?_
   try simp only [nY]
   refine g_un (yn (t := 43) rfl rfl) ?_
   try simp only [nY]
   refine g_un (yn (t := 43) rfl rfl) ?_
   try simp only [nY]
   refine g_un (yn (t := 43) rfl rfl) ?_
   try simp only [nY]
   refine g_un (yn (t := 43) rfl rfl) ?_
   try simp only [nY]
   refine g_off (yi (t := 40) rfl rfl) ?_
   try simp only [nY]
   refine s_go s_pick_f ?_
   try simp only [nY]
   refine x_nil (hK10 _ _ ?_)
   refine x_cond_f (h := ?_)
   try have hst := htk.2 (by rw [tagQ, q1, q2, q3, decide_eq_false q4, decide_eq_false (show ¬ kn (aval x) 0 = n by omega)]; rfl)
   refine x_skip ?_
   refine hK8 _ _ ?_
   refine x_region ?_
   refine s_go s_move ?_
   try simp only [nY]
   refine s_go (s_add (hc := by exact wr_i64 (by omega) (by omega))) ?_
   try simp only [nY]
   refine s_go s_assign ?_
   try simp only [nY]
   refine x_nil ?_
   refine loop_back (m' := (normP l).length - (k + 1)) (by simp only [clob, List.foldl, nZ]) ?_ ?_
   · try simp only [nY]
     exact ⟨k + 1, _, _, by omega, by omega, by rfl, by rw [hst], by rw [hst]; exact hS.selA⟩
   · omega
  try simp only [n3, n4]
  try simp only [dZ, ne_eq] at hp1
  have hst := htk.2 (by rw [tagQ, decide_eq_false (show ¬ kn x 0 = 1 by omega)]; rfl)
  refine g_off (yi (t := 28) rfl rfl) ?_
  try simp only [nY]
  refine g_off (yi (t := 28) rfl rfl) ?_
  try simp only [nY]
  refine g_off (yi (t := 28) rfl rfl) ?_
  try simp only [nY]
  refine g_off (yi (t := 28) rfl rfl) ?_
  try simp only [nY]
  refine s_go s_pick_f ?_
  try simp only [nY]
  refine s_go s_move ?_
  try simp only [nY]
  refine g_off (yi (t := 34) rfl rfl) ?_
  try simp only [nY]
  refine g_off (yi (t := 34) rfl rfl) ?_
  try simp only [nY]
  refine g_off (yi (t := 34) rfl rfl) ?_
  try simp only [nY]
  refine g_off (yi (t := 34) rfl rfl) ?_
  try simp only [nY]
  refine s_go s_pick_f ?_
  try simp only [nY]
  refine s_go s_move ?_
  try simp only [nY]
  refine g_off (yi (t := 40) rfl rfl) ?_
  try simp only [nY]
  refine g_off (yi (t := 40) rfl rfl) ?_
  try simp only [nY]
  refine g_off (yi (t := 40) rfl rfl) ?_
  try simp only [nY]
  refine g_un (yn (t := 43) rfl rfl) ?_
  try simp only [nY]
  refine g_un (yn (t := 43) rfl rfl) ?_
  try simp only [nY]
  refine g_un (yn (t := 43) rfl rfl) ?_
  try simp only [nY]
  refine g_un (yn (t := 43) rfl rfl) ?_
  try simp only [nY]
  refine g_un (yn (t := 43) rfl rfl) ?_
  try simp only [nY]
  refine g_un (yn (t := 43) rfl rfl) ?_
  try simp only [nY]
  refine g_un (yn (t := 43) rfl rfl) ?_
  try simp only [nY]
  refine g_un (yn (t := 43) rfl rfl) ?_
  try simp only [nY]
  refine g_off (yi (t := 40) rfl rfl) ?_
  try simp only [nY]
  refine s_go s_pick_f ?_
  try simp only [nY]
  refine x_nil (hK10 _ _ ?_)
  refine x_cond_f (h := ?_)
  try have hst := htk.2 (by rw [tagQ, q1, q2, q3, decide_eq_false q4, decide_eq_false (show ¬ kn (aval x) 0 = n by omega)]; rfl)
  refine x_skip ?_
  refine hK8 _ _ ?_
  refine x_region ?_
  refine s_go s_move ?_
  try simp only [nY]
  refine s_go (s_add (hc := by exact wr_i64 (by omega) (by omega))) ?_
  try simp only [nY]
  refine s_go s_assign ?_
  try simp only [nY]
  refine x_nil ?_
  refine loop_back (m' := (normP l).length - (k + 1)) (by simp only [clob, List.foldl, nZ]) ?_ ?_
  · try simp only [nY]
    exact ⟨k + 1, _, _, by omega, by omega, by rfl, by rw [hst], by rw [hst]; exact hS.selA⟩
  · omega
 try simp only [dY] at hc1
 obtain rfl : k = (normP l).length := by omega
 rw [List.take_of_length_le (Nat.le_refl _)] at hS ⊢
 refine x_exit (look_here ?_)
 refine hK4 _ _ ?_
 refine x_seq fun K11 hK11 => x_region ?_
 refine s_go s_move ?_
 try simp only [nY]
 refine s_go s_assign ?_
 try simp only [nY]
 refine x_nil (hK11 _ _ ?_)
 refine x_ret (r_tmp rfl ?_)
 exact ⟨_, _, rfl, hS.sel (by repeat (first | exact Sel.nil | (refine Sel.cons (by repeat (exact Del.head)) ?_)))⟩
end Go.Proofs.YtpekghaodmeemaaGreat
set_option linter.unusedSimpArgs false
set_option linter.unusedVariables false
set_option maxHeartbeats 2000000
set_option maxRecDepth 100000
namespace Go.Proofs.YtpekghaodmeemaaGreat
open Go.RowKit

def dropA (a : List Int) : List Int := akey a ++ mkV 2 nm0
theorem dropA_ok {a : List Int} (h : AtomOk a) : AtomOk (dropA a) := kv_ok h.key ⟨rfl, by decide, by decide, nm0_byt⟩
def drpS (s : List (List Int)) (c : Nat) (it : List Int) : List (List Int) := (tagS s c it 1).map dropA
theorem drop_take {t : List (List Int)} {k : Nat} {x : List Int} (hk : k < t.length) (hx : t.getD k [] = x) : (t.take (k + 1)).map dropA = (t.take k).map dropA ++ [dropA x] := by rw [take_snoc hk, hx, List.map_append]; rfl
theorem tag_ok {s : List (List Int)} (h : AOks s) (c : Nat) (it : List Int) (n : Nat) : AOks (tagS s c it n) := fun a ha => h a (List.mem_filter.1 ha).1

end Go.Proofs.YtpekghaodmeemaaGreat
set_option linter.unusedSimpArgs false
set_option linter.unusedVariables false
set_option maxHeartbeats 2000000
set_option maxRecDepth 100000
namespace Go.Proofs.YtpekghaodmeemaaGreat
open Go.RowKit

abbrev krows (l : List (List Int)) : List Value := rowsZ keyKs l
theorem krow_one {x : List Int} (h : x.length = 12) : (KA x).toList = krows [x] := by
  show (zi keyKs x).toArray.toList = rowsZ keyKs [x]
  rw [rowsZ_one, padL_zi (by simpa using h)]
theorem kadd_one {o : List (List Int)} {y : List Int} : krows o ++ krows [y] = krows (o ++ [y]) := (rowsZ_app _ _ _).symm
/-- does a tag lie at an item (and is it live, if that is asked)? -/
def ofQ (c : Nat) (it : List Int) (b : Bool) (k v : List Int) : Bool := decide (kn k 1 = c) && decide (kitem k = it) && (!b || decide (kn v 0 = 1))

theorem c_tagsOf1 (w0 : World) (gc gi gl ct : Nat) (it : List Int) (h8 : it.length = 8) (fl : Bool) (x y : List Int) (hx : KeyOk x) (hy : ValOk y) (hM : St (OwnB [.obj gc (.cells #[.int .u16 (ct : Int)] 23 (0, 0)), .obj gi (.cells (ic .u8 it) 25 (0, 0)), .obj gl (.cells #[.bool fl] 4 (0, 0))]) w0 w0 [.obj gc (.cells #[.int .u16 (ct : Int)] 23 (0, 0)), .obj gi (.cells (ic .u8 it) 25 (0, 0)), .obj gl (.cells #[.bool fl] 4 (0, 0))])  :
    CallR Tryz.prog 109 #[.agg (KA x), .agg (VA y), .pointer (some ⟨gc, 0, none⟩), .pointer (some ⟨gi, 0, none⟩), .pointer (some ⟨gl, 0, none⟩)] w0 fun v w' => v = .bool (ofQ ct it fl x y) ∧ St (OwnB [.obj gc (.cells #[.int .u16 (ct : Int)] 23 (0, 0)), .obj gi (.cells (ic .u8 it) 25 (0, 0)), .obj gl (.cells #[.bool fl] 4 (0, 0))]) w0 w' [.obj gc (.cells #[.int .u16 (ct : Int)] 23 (0, 0)), .obj gi (.cells (ic .u8 it) 25 (0, 0)), .obj gl (.cells #[.bool fl] 4 (0, 0))] := by
 have hS := hM
 have hxl := hx.len
 have hyl := hy.len
 have hil := kitem_len hxl
 refine c_enter (l := [.agg (KA x), .agg (VA y), .pointer (some ⟨gc, 0, none⟩), .pointer (some ⟨gi, 0, none⟩), .pointer (some ⟨gl, 0, none⟩), undef, undef, undef, undef, undef, undef, undef, undef, undef, undef, undef, undef, undef, undef, undef, undef, undef, undef, undef, undef, undef, undef]) Tryz.func109 rfl (by simp only [Tryz.ntmps109, List.size_toArray, List.length_cons, List.length_nil, Nat.reduceAdd, Nat.reduceSub, Array.replicate_succ, Array.replicate_zero, List.push_toArray, List.append_toArray, List.nil_append, List.cons_append]) ?_
 refine x_seq fun K1 hK1 => x_region ?_
 refine m_box hS (fun w1 g1 hS => ?_)
 try simp only [nY, aY] at hS ⊢
 refine m_box hS (fun w2 g2 hS => ?_)
 try simp only [nY, aY] at hS ⊢
 refine s_go s_assign ?_
 try simp only [nY]
 refine x_nil (hK1 _ _ ?_)
 refine x_seq fun K2 hK2 => x_region ?_
 refine s_go (m_fieldAddr U61 (hi := ti23)) ?_
 try simp only [nY, fY, gY]
 refine s_go (m_load_obj U23 (hS := hS) (hv := by exact zi_get rfl (by omega))) ?_
 try simp only [nY, gY]
 rw [hx.e1]
 refine s_go (m_load_obj U23 (hS := hS) (hv := by rfl)) ?_
 try simp only [nY, gY]
 refine s_go s_eql ?_
 try simp only [nY]
 refine s_go s_move ?_
 try simp only [nY]
 refine s_part 12 rfl (fun hp1 => ?_) (fun hp1 => ?_)
 ·
  try simp only [n3, n4]
  try simp only [dZ, ne_eq] at hp1
  have q1 : decide (kn x 1 = ct) = true := decide_eq_true (by omega)
  refine g_on (yi (t := 12) rfl rfl) ?_
  refine s_go (m_fieldAddr U61 (hi := ti25)) ?_
  try simp only [nY, fY, gY]
  refine g_on (yi (t := 12) rfl rfl) ?_
  refine s_go (m_loada_obj U25 (hi := ti25) (hS := hS) (hfit := by (rw [zi_size (by omega)]; decide))) ?_
  try simp only [nY, gY]
  rw [key_item hxl]
  refine g_on (yi (t := 12) rfl rfl) ?_
  refine s_go (m_load_row U25 (hi := ti25) (hS := hS) (hfit := by (simp only [ic_size, List.length_map, List.size_toArray]; omega))) ?_
  try simp only [nY, gY]
  refine g_on (yi (t := 12) rfl rfl) ?_
  refine s_go (s_eql_agg eqv25 (hg := eg25) (hX := zi_ic (by assumption)) (hY := zi_ic (by assumption)) (h1 := by assumption) (h2 := by assumption)) ?_
  try simp only [nY]
  refine s_go s_pick_t ?_
  try simp only [nY]
  refine s_go s_move ?_
  try simp only [nY]
  refine s_part 18 rfl (fun hp2 => ?_) (fun hp2 => ?_)
  ·
   try simp only [n3, n4]
   try simp only [dZ, ne_eq] at hp2
   have q2 : decide (kitem x = it) = true := by simpa using hp2
   refine g_on (yi (t := 18) rfl rfl) ?_
   refine s_go (m_load_obj U4 (hS := hS) (hv := by rfl)) ?_
   try simp only [nY, gY]
   refine g_on (yi (t := 18) rfl rfl) ?_
   refine s_go s_not ?_
   try simp only [nY]
   refine g_on (yi (t := 18) rfl rfl) ?_
   refine s_go s_move ?_
   try simp only [nY]
   refine s_part 21 rfl (fun hp3 => ?_) (fun hp3 => ?_)
   ·
    try simp only [n3, n4]
    try simp only [dZ, ne_eq] at hp3
    have hfl : fl = false := by simpa using hp3
    have hQ : ofQ ct it fl x y = true := by rw [ofQ, q1, q2, hfl]; rfl
    refine g_off (yi (t := 21) rfl rfl) ?_
    try simp only [nY]
    refine g_off (yi (t := 21) rfl rfl) ?_
    try simp only [nY]
    refine g_off (yi (t := 21) rfl rfl) ?_
    try simp only [nY]
    refine g_on (yi (t := 18) rfl rfl) ?_
    refine s_go s_pick_t ?_
    try simp only [nY]
    refine s_go s_pick_t ?_
    try simp only [nY]
    refine s_go s_assign ?_
    try simp only [nY]
    refine x_nil (hK2 _ _ ?_)
    refine x_ret (r_tmp rfl ?_)
    exact ⟨by rw [hQ]; rfl, hS.selA⟩
   try simp only [n3, n4]
   try simp only [dZ, ne_eq] at hp3
   have hfl : fl = true := by simpa using hp3
   have hQ : ofQ ct it fl x y = decide ((kn y 0 : Int) = 1) := by rw [ofQ, q1, q2, hfl]; simp; omega
   refine g_on (yi (t := 21) rfl rfl) ?_
   refine s_go (m_fieldAddr U64 (hi := ti62)) ?_
   try simp only [nY, fY, gY]
   refine g_on (yi (t := 21) rfl rfl) ?_
   refine s_go (m_load_obj U62 (hS := hS) (hv := by exact zi_get rfl (by omega))) ?_
   try simp only [nY, gY]
   rw [hy.e0]
   refine g_on (yi (t := 21) rfl rfl) ?_
   refine s_go s_eql ?_
   try simp only [nY]
   refine g_on (yi (t := 18) rfl rfl) ?_
   refine s_go s_pick_f ?_
   try simp only [nY]
   refine s_go s_pick_t ?_
   try simp only [nY]
   refine s_go s_assign ?_
   try simp only [nY]
   refine x_nil (hK2 _ _ ?_)
   refine x_ret (r_tmp rfl ?_)
   exact ⟨by rw [hQ]; rfl, hS.selA⟩
  try simp only [n3, n4]
  try simp only [dZ, ne_eq] at hp2
  try have hQ : ofQ ct it fl x y = false := by rw [ofQ, q1, show decide (kitem x = it) = false by simpa using hp2]; rfl
  refine g_off (yi (t := 18) rfl rfl) ?_
  try simp only [nY]
  refine g_off (yi (t := 18) rfl rfl) ?_
  try simp only [nY]
  refine g_off (yi (t := 18) rfl rfl) ?_
  try simp only [nY]
  refine g_un (yn (t := 21) rfl rfl) ?_
  try simp only [nY]
  refine g_un (yn (t := 21) rfl rfl) ?_
  try simp only [nY]
  refine g_un (yn (t := 21) rfl rfl) ?_
  try simp only [nY]
  refine g_off (yi (t := 18) rfl rfl) ?_
  try simp only [nY]
  refine s_go s_pick_f ?_
  try simp only [nY]
  refine s_go s_assign ?_
  try simp only [nY]
  refine x_nil (hK2 _ _ ?_)
  refine x_ret (r_tmp rfl ?_)
  exact ⟨by rw [hQ]; rfl, hS.selA⟩
 try simp only [n3, n4]
 try simp only [dZ, ne_eq] at hp1
 have hQ : ofQ ct it fl x y = false := by rw [ofQ, decide_eq_false (show ¬ kn x 1 = ct by omega)]; rfl
 refine g_off (yi (t := 12) rfl rfl) ?_
 try simp only [nY]
 refine g_off (yi (t := 12) rfl rfl) ?_
 try simp only [nY]
 refine g_off (yi (t := 12) rfl rfl) ?_
 try simp only [nY]
 refine g_off (yi (t := 12) rfl rfl) ?_
 try simp only [nY]
 refine s_go s_pick_f ?_
 try simp only [nY]
 refine s_go s_move ?_
 try simp only [nY]
 refine g_off (yi (t := 18) rfl rfl) ?_
 try simp only [nY]
 refine g_off (yi (t := 18) rfl rfl) ?_
 try simp only [nY]
 refine g_off (yi (t := 18) rfl rfl) ?_
 try simp only [nY]
 refine g_un (yn (t := 21) rfl rfl) ?_
 try simp only [nY]
 refine g_un (yn (t := 21) rfl rfl) ?_
 try simp only [nY]
 refine g_un (yn (t := 21) rfl rfl) ?_
 try simp only [nY]
 refine g_off (yi (t := 18) rfl rfl) ?_
 try simp only [nY]
 refine s_go s_pick_f ?_
 try simp only [nY]
 refine s_go s_assign ?_
 try simp only [nY]
 refine x_nil (hK2 _ _ ?_)
 refine x_ret (r_tmp rfl ?_)
 exact ⟨by rw [hQ]; rfl, hS.selA⟩
theorem c_tagsLive1 (w0 : World) (gs : Nat) (O : Option Addr) (oc : Nat) (ks : List (List Int)) (hk : ks.length ≤ 1000000000) (x : List Int) (hx : KeyOk x) (hM : St (OwnB [.vec O oc 61 12 (ks).length (krows (ks)), .obj gs (.cells #[.slice O (ks).length oc] 47 (0, 0))]) w0 w0 [.vec O oc 61 12 (ks).length (krows (ks)), .obj gs (.cells #[.slice O (ks).length oc] 47 (0, 0))])  :
    CallR Tryz.prog 89 #[.agg (KA x), .pointer (some ⟨gs, 0, none⟩)] w0 fun v w' => ∃ (O2 : Option Addr) (oc2 : Nat), v = .tuple #[] ∧ St (OwnB [.vec O oc 61 12 (ks).length (krows (ks)), .obj gs (.cells #[.slice O (ks).length oc] 47 (0, 0))]) w0 w' [.vec O2 oc2 61 12 (ks ++ [x]).length (krows (ks ++ [x])), .obj gs (.cells #[.slice O2 (ks ++ [x]).length oc2] 47 (0, 0))] := by
 have hS := hM
 have hxl := hx.len
 refine c_enter (l := [.agg (KA x), .pointer (some ⟨gs, 0, none⟩), undef, undef, undef, undef, undef]) Tryz.func89 rfl (by simp only [Tryz.ntmps89, List.size_toArray, List.length_cons, List.length_nil, Nat.reduceAdd, Nat.reduceSub, Array.replicate_succ, Array.replicate_zero, List.push_toArray, List.append_toArray, List.nil_append, List.cons_append]) ?_
 refine x_seq fun K1 hK1 => x_region ?_
 refine m_box hS (fun w1 g1 hS => ?_)
 try simp only [nY, aY] at hS ⊢
 refine x_nil (hK1 _ _ ?_)
 refine x_region ?_
 refine s_go (m_load_obj U47 (hS := hS) (hv := by rfl)) ?_
 try simp only [nY, gY]
 refine s_go (m_load_row U61 (hi := ti61) (hS := hS) (hfit := by (rw [zi_size (by omega)]; rfl))) ?_
 try simp only [nY, gY]
 refine m_buildRow (cells := (KA x)) U47 ti61 (hc := by simp only [List.map_toArray, List.map_cons, List.map_nil, nY, List.toList_toArray]; exact fill_one (by rfl) (zi_size12 hxl) (by rfl)) (hS := hS) (h := fun w2 g2 hS => ?_)
 try simp only [nY, aY] at hS ⊢
 replace hS := hS.obj_rd (sz := 12) (n := 1) (by exact zi_size12 hxl) .head
 rw [krow_one hxl] at hS
 refine m_append U47 ti61 (hS := hS) (h1 := rowsZ_cells _ _) (h := fun w3 A3 C3 hS => ?_)
 try simp only [← List.map_append, ← List.map_drop, ← List.map_take, Nat.mul_one, Nat.zero_mul, Nat.sub_zero, List.drop_zero, List.nil_append, Nat.zero_add] at hS ⊢
 try simp only [nY, aY] at hS ⊢
 rw [kadd_one] at hS
 refine m_store_obj ti47 (hS := hS) (hc := by (exact splice_whole (by (simp [opv, Value.cells, *]; done)))) (hv := by rfl) (hfit := by (simp [*]; done)) (h1 := by simp [opv, Value.cells, Value.oneCell']) (h := fun w4 hS => ?_)
 try simp only [nY, aY] at hS ⊢
 refine x_nil ?_
 refine r_none rfl ?_
 rw [show ks.length + 1 = (ks ++ [x]).length by rw [List.length_append]; rfl] at hS
 exact ⟨_, _, rfl, hS.selA⟩
end Go.Proofs.YtpekghaodmeemaaGreat
set_option linter.unusedSimpArgs false
set_option linter.unusedVariables false
set_option maxHeartbeats 2000000
set_option maxRecDepth 100000
namespace Go.Proofs.YtpekghaodmeemaaGreat
open Go.RowKit

theorem tag_of {a : List Int} (ha : AtomOk a) (c : Nat) (it : List Int) (fl : Bool) : tagQ c it (if fl = true then 1 else 0) a = (decide (kn a 0 = 1) && ofQ c it fl (akey a) (aval a)) := by
  have h1 := (akey_k ha.len).2
  unfold tagQ ofQ
  rw [h1]
  cases fl
  · simp [Bool.and_assoc]
  · simp [Bool.and_assoc]
theorem key_take {s : List (List Int)} {c n : Nat} {it : List Int} {k : Nat} {x : List Int} (hk : k < s.length) (hx : s.getD k [] = x) : (tagQ c it n x = true → (tagS (s.take (k + 1)) c it n).map akey = (tagS (s.take k) c it n).map akey ++ [akey x]) ∧ (tagQ c it n x = false → (tagS (s.take (k + 1)) c it n).map akey = (tagS (s.take k) c it n).map akey) := by
  obtain ⟨h1, h2⟩ := tag_take (c := c) (n := n) (it := it) hk hx
  exact ⟨fun h => by rw [h1 h, List.map_append]; rfl, fun h => by rw [h2 h]⟩

theorem c_tagsOf (ct : Nat) (hct : ct < 65536) (it : List Int) (h8 : it.length = 8) (fl : Bool)  (w0 : World) :
    CallR Tryz.prog 88 #[.int .u16 (ct : Int), .agg (ic .u8 it), .bool fl] w0 fun v w' => ∃ gc gi gl : Nat, v = .func (.func 109) #[] #[.pointer (some ⟨gc, 0, none⟩), .pointer (some ⟨gi, 0, none⟩), .pointer (some ⟨gl, 0, none⟩)] ∧ St NoB w0 w' [.obj gc (.cells #[.int .u16 (ct : Int)] 23 (0, 0)), .obj gi (.cells (ic .u8 it) 25 (0, 0)), .obj gl (.cells #[.bool fl] 4 (0, 0))] := by
 have hS : St NoB w0 w0 [] := St.start w0
 refine c_enter (l := [.int .u16 (ct : Int), .agg (ic .u8 it), .bool fl, undef, undef, undef, undef, undef]) Tryz.func88 rfl (by simp only [Tryz.ntmps88, List.size_toArray, List.length_cons, List.length_nil, Nat.reduceAdd, Nat.reduceSub, Array.replicate_succ, Array.replicate_zero, List.push_toArray, List.append_toArray, List.nil_append, List.cons_append]) ?_
 refine x_seq fun K1 hK1 => x_region ?_
 refine m_box hS (fun w1 g1 hS => ?_)
 try simp only [nY, aY] at hS ⊢
 refine m_box hS (fun w2 g2 hS => ?_)
 try simp only [nY, aY] at hS ⊢
 refine m_box hS (fun w3 g3 hS => ?_)
 try simp only [nY, aY] at hS ⊢
 refine s_go s_assign ?_
 try simp only [nY]
 refine x_nil (hK1 _ _ ?_)
 refine x_seq fun K2 hK2 => x_region ?_
 refine s_go s_makeFunc ?_
 try simp only [nY, List.map_toArray, List.map_cons, List.map_nil]
 refine s_go s_assign ?_
 try simp only [nY]
 refine x_nil (hK2 _ _ ?_)
 refine x_ret (r_tmp rfl ?_)
 exact ⟨_, _, _, rfl, hS.selA⟩
theorem c_tagsEachLive (w0 : World) (A : Option Addr) (c : Nat) (l : List (List Int)) (hr : Rd w0 A 21 l.length (arows l)) (hv : AOks l) (hn : l.length ≤ 1000000000) (gs : Nat) (gc gi gl ct : Nat) (it : List Int) (h8 : it.length = 8) (fl : Bool) (hM : St (OwnB [.obj gs (.cells #[.slice none 0 0] 47 (0, 0)), .obj gc (.cells #[.int .u16 (ct : Int)] 23 (0, 0)), .obj gi (.cells (ic .u8 it) 25 (0, 0)), .obj gl (.cells #[.bool fl] 4 (0, 0)), .rd A 21 (l).length (arows (l))]) w0 w0 [.obj gs (.cells #[.slice none 0 0] 47 (0, 0)), .obj gc (.cells #[.int .u16 (ct : Int)] 23 (0, 0)), .obj gi (.cells (ic .u8 it) 25 (0, 0)), .obj gl (.cells #[.bool fl] 4 (0, 0)), .rd A 21 (l).length (arows (l))])  :
    CallR Tryz.prog 87 #[.slice A l.length c, .func (.func 109) #[] #[.pointer (some ⟨gc, 0, none⟩), .pointer (some ⟨gi, 0, none⟩), .pointer (some ⟨gl, 0, none⟩)], .func (.func 89) #[] #[.pointer (some ⟨gs, 0, none⟩)]] w0 fun v w' => ∃ (O : Option Addr) (oc : Nat), v = .tuple #[] ∧ St (OwnB [.obj gs (.cells #[.slice none 0 0] 47 (0, 0)), .obj gc (.cells #[.int .u16 (ct : Int)] 23 (0, 0)), .obj gi (.cells (ic .u8 it) 25 (0, 0)), .obj gl (.cells #[.bool fl] 4 (0, 0)), .rd A 21 (l).length (arows (l))]) w0 w' [.vec O oc 61 12 (((tagS (normP l) ct it (if fl = true then 1 else 0)).map akey)).length (krows (((tagS (normP l) ct it (if fl = true then 1 else 0)).map akey))), .obj gs (.cells #[.slice O (((tagS (normP l) ct it (if fl = true then 1 else 0)).map akey)).length oc] 47 (0, 0))] := by
 have hS := hM
 have hno := (norm_sta hv).ok
 have hkn := (norm_sta hv).knd
 have hnl := arows_len (normP l)
 have hnb := norm_len l
 have hsn := norm_sta hv
 refine y_enter (l := [.slice A l.length c, .func (.func 109) #[] #[.pointer (some ⟨gc, 0, none⟩), .pointer (some ⟨gi, 0, none⟩), .pointer (some ⟨gl, 0, none⟩)], .func (.func 89) #[] #[.pointer (some ⟨gs, 0, none⟩)], undef, undef, undef, undef, undef, undef, undef, undef, undef, undef, undef, undef, undef, undef, undef, undef, undef, undef, undef, undef, undef]) Tryz.func87 rfl (by simp only [Tryz.ntmps87, List.size_toArray, List.length_cons, List.length_nil, Nat.reduceAdd, Nat.reduceSub, Array.replicate_succ, Array.replicate_zero, List.push_toArray, List.append_toArray, List.nil_append, List.cons_append]) ?_
 refine y_seq fun K1 hK1 => ?_
 refine y_region (by kernel_rfl) ?_
 refine m_box hS (fun w1 g1 hS => ?_)
 try simp only [nY, aY] at hS ⊢
 obtain ⟨gf, hgf⟩ : ∃ z, z = g1 := ⟨_, rfl⟩
 rw [← hgf] at hS ⊢
 refine m_box hS (fun w2 g2 hS => ?_)
 try simp only [nY, aY] at hS ⊢
 obtain ⟨gd, hgd⟩ : ∃ z, z = g2 := ⟨_, rfl⟩
 rw [← hgd] at hS ⊢
 replace hS := hS.nil_vec 61 12
 refine y_nilf ?_
 refine hK1 _ _ ?_
 refine y_seq fun K2 hK2 => ?_
 refine y_region (by kernel_rfl) ?_
 refine s_go s_move ?_
 try simp only [nY]
 refine s_call en81 ?_
 try simp only [nY, mY]
 refine CallR.mono (c_latEach A c l _) ?_
 rintro _ w3 ⟨b, rfl, hC3⟩
 replace hS := hS.call hC3
 simp only [List.cons_append, List.nil_append] at hS
 try simp only [nY]
 refine y_nilf ?_
 refine hK2 _ _ ?_
 refine y_block ?_
 replace hS : St (OwnB [.obj gs (.cells #[.slice none 0 0] 47 (0, 0)), .obj gc (.cells #[.int .u16 (ct : Int)] 23 (0, 0)), .obj gi (.cells (ic .u8 it) 25 (0, 0)), .obj gl (.cells #[.bool fl] 4 (0, 0)), .rd A 21 (l).length (arows (l))]) w0 w3 [.obj b (.cells #[.slice A l.length c] 22 (0, 0)), .rd A 21 (l).length (arows (l)), .vec none 0 61 12 0 [], .obj gs (.cells #[.slice none 0 0] 47 (0, 0)), .obj gf (.cells #[.func (.func 109) #[] #[.pointer (some ⟨gc, 0, none⟩), .pointer (some ⟨gi, 0, none⟩), .pointer (some ⟨gl, 0, none⟩)]] 118 (0, 0)), .obj gd (.cells #[.func (.func 89) #[] #[.pointer (some ⟨gs, 0, none⟩)]] 120 (0, 0)), .obj gc (.cells #[.int .u16 (ct : Int)] 23 (0, 0)), .obj gi (.cells (ic .u8 it) 25 (0, 0)), .obj gl (.cells #[.bool fl] 4 (0, 0))] := hS.selA
 refine y_range rfl en103 (i_latEach b A c l hv hn) (fun _ => rfl) hS (by repeat (first | exact Spl.nil | (apply Spl.cons (by repeat (exact Del.head))))) (fun k L => k ≤ (normP l).length ∧ ∃ (O : Option Addr) (oc : Nat), L = [.vec O oc 61 12 (((tagS ((normP l).take k) ct it (if fl = true then 1 else 0)).map akey)).length (krows (((tagS ((normP l).take k) ct it (if fl = true then 1 else 0)).map akey))), .obj gs (.cells #[.slice O (((tagS ((normP l).take k) ct it (if fl = true then 1 else 0)).map akey)).length oc] 47 (0, 0)), .obj gf (.cells #[.func (.func 109) #[] #[.pointer (some ⟨gc, 0, none⟩), .pointer (some ⟨gi, 0, none⟩), .pointer (some ⟨gl, 0, none⟩)]] 118 (0, 0)), .obj gd (.cells #[.func (.func 89) #[] #[.pointer (some ⟨gs, 0, none⟩)]] 120 (0, 0)), .obj gc (.cells #[.int .u16 (ct : Int)] 23 (0, 0)), .obj gi (.cells (ic .u8 it) 25 (0, 0)), .obj gl (.cells #[.bool fl] 4 (0, 0))]) (fun L => False) [] ?rfh1 ?rfr1 (fun D1 T1 w4 R1 hC hS => ?rfd1) (fun D1 T1 w5 R1 hX hS => ?rft1) ?rfe1
 case rfh1 =>
  exact ⟨Nat.zero_le _, none, 0, rfl⟩
 case rfr1 =>
  intro k1 w6 R1 T1 lr1 hk1 hC hS
  obtain ⟨hk0, O, oc, rfl⟩ := hC
  simp only [List.cons_append, List.nil_append] at hS
  simp only [List.toList_toArray, entL, List.zip_cons_cons, List.zip_nil_left, List.foldl_cons, List.foldl_nil, n3, n4]
  obtain ⟨x, hx⟩ : ∃ x, (normP l).getD k1 [] = x := ⟨_, rfl⟩
  have ha : AtomOk x := by rw [← hx]; exact hno.get (by omega)
  have hal := ha.len
  have hk12 := ha.key.len
  have hvx := ha.val
  have hx9 := hvx.len
  simp only [hx]
  have hkx := ha.key
  have hk01 := akey_k hal
  have hkt := key_take (c := ct) (n := (if fl = true then 1 else 0)) (it := it) hk1 hx
  have htq := tag_of ha ct it fl
  have htl := tag_len ((normP l).take k1) ct it (if fl = true then 1 else 0)
  have hlt : ((normP l).take k1).length ≤ (normP l).length := by rw [List.length_take]; omega
  have hml : ((tagS ((normP l).take k1) ct it (if fl = true then 1 else 0)).map akey).length ≤ 1000000000 := by rw [List.length_map]; omega
  refine y_seq fun K3 hK3 => ?_
  refine y_region (by kernel_rfl) ?_
  refine m_alloc ti61 hS (fun w7 g7 hS => ?_)
  try simp only [nY, aY] at hS ⊢
  have h0l : key0.length = 12 := rfl
  replace hS : St _ _ w7 (.obj g7 (.cells (KA key0) 61 (0, 0)) :: _) := hS
  refine m_store_obj ti61 (hS := hS) (hc := by exact zi_whole (by omega) (by omega)) (hv := by (show (zi _ _).toArray.size = _; rw [zi_size (by omega)]; rfl)) (hfit := by (rw [zi_size (by omega)]; decide)) (h1 := by exact zi_one _ _) (h := fun w8 hS => ?_)
  try simp only [nY, aY] at hS ⊢
  refine y_nilf ?_
  refine hK3 _ _ ?_
  refine y_region (by kernel_rfl) ?_
  refine m_alloc ti64 hS (fun w9 g9 hS => ?_)
  try simp only [nY, aY] at hS ⊢
  have h9l : v9.length = 9 := rfl
  replace hS : St _ _ w9 (.obj g9 (.cells (VA v9) 64 (0, 0)) :: _) := hS
  refine m_store_obj ti64 (hS := hS) (hc := by exact zi_whole (by omega) (by omega)) (hv := by (show (zi _ _).toArray.size = _; rw [zi_size (by omega)]; rfl)) (hfit := by (rw [zi_size (by omega)]; decide)) (h1 := by exact zi_one _ _) (h := fun w10 hS => ?_)
  try simp only [nY, aY] at hS ⊢
  refine y_nilf ?_
  refine round_open hS (by repeat (first | exact App.nil | apply App.cons)) (fun w11 T2 hS => ?_)
  simp only [List.cons_append, List.nil_append] at hS
  refine y_block ?_
  refine y_seq fun K4 hK4 => ?_
  refine y_region (by kernel_rfl) ?_
  refine s_go (m_fieldAddr U61 (hi := ti5)) ?_
  try simp only [nY, fY, gY]
  refine s_go (m_load_obj U5 (hS := hS) (hv := by exact zi_get rfl (by omega))) ?_
  try simp only [nY, gY]
  rw [hkx.e0, hk01.1]
  refine s_go s_eql ?_
  try simp only [nY]
  refine s_go s_move ?_
  try simp only [nY]
  refine s_part 15 rfl (fun hp1 => ?_) (fun hp1 => ?_)
  ·
   try simp only [n3, n4]
   try simp only [dZ, ne_eq] at hp1
   have q1 : decide (kn x 0 = 1) = true := decide_eq_true (by omega)
   refine g_on (yi (t := 15) rfl rfl) ?_
   refine s_go (m_load_obj U118 (hS := hS) (hv := by rfl)) ?_
   try simp only [nY, gY]
   refine g_on (yi (t := 15) rfl rfl) ?_
   refine s_go (m_load_row U61 (hi := ti61) (hS := hS) (hfit := by (rw [zi_size (by omega)]; rfl))) ?_
   try simp only [nY, gY]
   refine g_on (yi (t := 15) rfl rfl) ?_
   refine s_go (m_load_row U64 (hi := ti64) (hS := hS) (hfit := by (rw [zi_size (by omega)]; rfl))) ?_
   try simp only [nY, gY]
   refine g_on (yi (t := 15) rfl rfl) ?_
   refine s_callv (hv := rfl) en109 ?_
   try simp only [nY, mY]
   refine CallR.mono (c_tagsOf1 _ gc gi gl ct it h8 fl (akey x) (aval x) hkx hvx (hS.owns (by repeat (first | exact Spl.nil | (apply Spl.cons (by repeat (first | exact Del.head | apply Del.tail))))))) ?_
   rintro _ w12 ⟨rfl, hC12⟩
   replace hS := hS.frame (by repeat (first | exact Spl.nil | (apply Spl.cons (by repeat (first | exact Del.head | apply Del.tail))))) hC12 (by intro r hr g hg; simp only [List.mem_cons, List.not_mem_nil, or_false] at hr; rcases hr with rfl | rfl | rfl <;> (simp [Res.reads] at hg; done))
   simp only [List.cons_append, List.nil_append] at hS
   try simp only [nY]
   refine s_go s_pick_t ?_
   try simp only [nY]
   refine y_nilf ?_
   refine hK4 _ _ ?_
   refine y_cond (ht := fun hc1 => ?_) (hf := fun hc1 => ?_)
   ·
    try simp only [dY] at hc1
    have hst := hkt.1 (by rw [htq, q1, hc1]; rfl)
    refine y_region (by kernel_rfl) ?_
    refine s_go (m_load_obj U120 (hS := hS) (hv := by rfl)) ?_
    try simp only [nY, gY]
    refine s_go (m_load_row U61 (hi := ti61) (hS := hS) (hfit := by (rw [zi_size (by omega)]; rfl))) ?_
    try simp only [nY, gY]
    refine s_callv (hv := rfl) en89 ?_
    try simp only [nY, mY]
    refine CallR.mono (c_tagsLive1 _ gs O oc ((tagS ((normP l).take k1) ct it (if fl = true then 1 else 0)).map akey) hml (akey x) hkx (hS.owns (by repeat (first | exact Spl.nil | (apply Spl.cons (by repeat (first | exact Del.head | apply Del.tail))))))) ?_
    rintro _ w13 ⟨O2, oc2, rfl, hC13⟩
    replace hS := hS.frame (by repeat (first | exact Spl.nil | (apply Spl.cons (by repeat (first | exact Del.head | apply Del.tail))))) hC13 (by intro r hr g hg; simp only [List.mem_cons, List.not_mem_nil, or_false] at hr; rcases hr with rfl | rfl <;> (simp [Res.reads] at hg; done))
    simp only [List.cons_append, List.nil_append] at hS
    try simp only [nY]
    refine y_nilf ?_
    rw [← hst] at hS
    exact ⟨_, ⟨by omega, _, _, rfl⟩, hS.sel (by repeat (first | exact Sel.self | (refine Sel.cons (by repeat (first | exact Del.head | apply Del.tail)) ?_) | apply Sel.skip))⟩
   try simp only [dY] at hc1
   try have hst := hkt.2 (by rw [htq, q1, hc1]; rfl)
   refine y_skip ?_
   rw [← hst] at hS
   exact ⟨_, ⟨by omega, _, _, rfl⟩, hS.sel (by repeat (first | exact Sel.self | (refine Sel.cons (by repeat (first | exact Del.head | apply Del.tail)) ?_) | apply Sel.skip))⟩
  try simp only [n3, n4]
  try simp only [dZ, ne_eq] at hp1
  have hst := hkt.2 (by rw [htq, decide_eq_false (show ¬ kn x 0 = 1 by omega)]; rfl)
  refine g_off (yi (t := 15) rfl rfl) ?_
  try simp only [nY]
  refine g_off (yi (t := 15) rfl rfl) ?_
  try simp only [nY]
  refine g_off (yi (t := 15) rfl rfl) ?_
  try simp only [nY]
  refine g_off (yi (t := 15) rfl rfl) ?_
  try simp only [nY]
  refine s_go s_pick_f ?_
  try simp only [nY]
  refine y_nilf ?_
  refine hK4 _ _ ?_
  refine y_cond_f (h := ?_)
  try have hst := hkt.2 (by rw [htq, q1, @c]; rfl)
  refine y_skip ?_
  rw [← hst] at hS
  exact ⟨_, ⟨by omega, _, _, rfl⟩, hS.sel (by repeat (first | exact Sel.self | (refine Sel.cons (by repeat (first | exact Del.head | apply Del.tail)) ?_) | apply Sel.skip))⟩
 case rfd1 =>
  obtain ⟨hk0, O, oc, rfl⟩ := hC
  simp only [List.cons_append, List.nil_append] at hS
  refine rm_mark hS (by repeat (exact Upd.head)) (fun w14 hS => ?_)
  refine rm_nil ?_
  refine r_none rfl ?_
  rw [List.take_of_length_le (Nat.le_refl _)] at hS
  exact ⟨_, _, rfl, hS.selA⟩
 case rft1 =>
  exact hX.elim
 case rfe1 =>
  exact y_ex_nil
end Go.Proofs.YtpekghaodmeemaaGreat
set_option linter.unusedSimpArgs false
set_option linter.unusedVariables false
set_option maxHeartbeats 2000000
set_option maxRecDepth 100000
namespace Go.Proofs.YtpekghaodmeemaaGreat
open Go.RowKit

theorem krow_get {l : List (List Int)} {k : Nat} (hk : k < l.length) (hv : ∀ x ∈ l, KeyOk x) : (((krows l).drop (k * 12)).take 12).toArray = KA (l.getD k []) := by
  have := rowsZ_get (ks := keyKs) hk (by simpa using (hv _ (getD_mem' hk)).len)
  rw [show keyKs.length = 12 from rfl] at this
  rw [this]
theorem krows_len (l : List (List Int)) : (krows l).length = l.length * 12 := rowsZ_len _ _
theorem keys_ok {s : List (List Int)} (h : AOks s) (c : Nat) (it : List Int) (n : Nat) : ∀ x ∈ (tagS s c it n).map akey, KeyOk x := fun x hx => by
  obtain ⟨a, ha, rfl⟩ := List.mem_map.1 hx
  exact (tag_ok h c it n a ha).key

theorem c_tagsLive (w0 : World) (A : Option Addr) (c : Nat) (l : List (List Int)) (hr : Rd w0 A 21 l.length (arows l)) (hv : AOks l) (hn : l.length ≤ 1000000000) (ct : Nat) (hct : ct < 65536) (it : List Int) (h8 : it.length = 8)  :
    CallR Tryz.prog 52 #[.slice A l.length c, .int .u16 (ct : Int), .agg (ic .u8 it)] w0 fun v w' => ∃ (O : Option Addr) (oc : Nat), v = .slice O ((tagS (normP l) ct it 1).map akey).length oc ∧ St NoB w0 w' [.vec O oc 61 12 (((tagS (normP l) ct it 1).map akey)).length (krows (((tagS (normP l) ct it 1).map akey)))] := by
 have hS := St.rd1 (S := NoB) hr
 refine c_enter (l := [.slice A l.length c, .int .u16 (ct : Int), .agg (ic .u8 it), undef, undef, undef, undef, undef, undef, undef, undef, undef, undef, undef]) Tryz.func52 rfl (by simp only [Tryz.ntmps52, List.size_toArray, List.length_cons, List.length_nil, Nat.reduceAdd, Nat.reduceSub, Array.replicate_succ, Array.replicate_zero, List.push_toArray, List.append_toArray, List.nil_append, List.cons_append]) ?_
 refine x_seq fun K1 hK1 => x_region ?_
 refine m_box hS (fun w1 g1 hS => ?_)
 try simp only [nY, aY] at hS ⊢
 obtain ⟨gn, hgn⟩ : ∃ z, z = g1 := ⟨_, rfl⟩
 rw [← hgn] at hS ⊢
 refine m_alloc ti47 hS (fun w2 g2 hS => ?_)
 try simp only [nY, aY] at hS ⊢
 obtain ⟨gs, hgs⟩ : ∃ z, z = g2 := ⟨_, rfl⟩
 rw [← hgs] at hS ⊢
 refine x_nil (hK1 _ _ ?_)
 refine x_seq fun K2 hK2 => x_region ?_
 refine s_go s_move ?_
 try simp only [nY]
 refine s_go s_move ?_
 try simp only [nY]
 refine s_go (m_load_row U25 (hi := ti25) (hS := hS) (hfit := by (simp only [ic_size, List.length_map, List.size_toArray]; omega))) ?_
 try simp only [nY, gY]
 refine s_call en88 ?_
 try simp only [nY, mY]
 refine CallR.mono (c_tagsOf ct hct it h8 true _) ?_
 rintro _ w3 ⟨gc, gi, gl, rfl, hC3⟩
 replace hS := hS.call hC3
 simp only [List.cons_append, List.nil_append] at hS
 try simp only [nY]
 refine s_go s_makeFunc ?_
 try simp only [nY, List.map_toArray, List.map_cons, List.map_nil]
 refine s_call en87 ?_
 try simp only [nY, mY]
 refine CallR.mono (c_tagsEachLive _ A c l (hS.hasA) hv hn gs gc gi gl ct it h8 true (hS.owns (by repeat (first | exact Spl.nil | (apply Spl.cons (by repeat (first | exact Del.head | apply Del.tail))))))) ?_
 rintro _ w4 ⟨O, oc, rfl, hC4⟩
 replace hS := hS.frame (by repeat (first | exact Spl.nil | (apply Spl.cons (by repeat (first | exact Del.head | apply Del.tail))))) hC4 (by intro r hr g hg; simp only [List.mem_cons, List.not_mem_nil, or_false] at hr; rcases hr with rfl | rfl <;> (simp [Res.reads] at hg; done))
 simp only [List.cons_append, List.nil_append] at hS
 try simp only [nY]
 refine x_nil (hK2 _ _ ?_)
 refine x_seq fun K3 hK3 => x_region ?_
 refine s_go (m_load_obj U47 (hS := hS) (hv := by rfl)) ?_
 try simp only [nY, gY]
 refine m_store_obj ti47 (hS := hS) (hc := by (exact splice_whole (by (simp [opv, Value.cells, *]; done)))) (hv := by rfl) (hfit := by (simp [*]; done)) (h1 := by simp [opv, Value.cells, Value.oneCell']) (h := fun w5 hS => ?_)
 try simp only [nY, aY] at hS ⊢
 refine x_nil (hK3 _ _ ?_)
 refine x_ret ?_
 refine r_cell_one rfl U47 (hS := hS) (hR := ?_)
 exact ⟨_, _, rfl, hS.sel (by repeat (first | exact Sel.nil | (refine Sel.cons (by repeat (exact Del.head)) ?_)))⟩
theorem c_tagsPresent (w0 : World) (A : Option Addr) (c : Nat) (l : List (List Int)) (hr : Rd w0 A 21 l.length (arows l)) (hv : AOks l) (hn : l.length ≤ 1000000000) (ct : Nat) (hct : ct < 65536) (it : List Int) (h8 : it.length = 8)  :
    CallR Tryz.prog 34 #[.slice A l.length c, .int .u16 (ct : Int), .agg (ic .u8 it)] w0 fun v w' => v = .bool (decide (0 < (((tagS (normP l) ct it 1).map akey).length : Int))) ∧ Ext w0 w' := by
 have hS := St.rd1 (S := NoB) hr
 refine c_enter (l := [.slice A l.length c, .int .u16 (ct : Int), .agg (ic .u8 it), undef, undef, undef, undef, undef, undef, undef, undef, undef, undef]) Tryz.func34 rfl (by simp only [Tryz.ntmps34, List.size_toArray, List.length_cons, List.length_nil, Nat.reduceAdd, Nat.reduceSub, Array.replicate_succ, Array.replicate_zero, List.push_toArray, List.append_toArray, List.nil_append, List.cons_append]) ?_
 refine x_seq fun K1 hK1 => x_region ?_
 refine m_box hS (fun w1 g1 hS => ?_)
 try simp only [nY, aY] at hS ⊢
 refine s_go s_assign ?_
 try simp only [nY]
 refine x_nil (hK1 _ _ ?_)
 refine x_seq fun K2 hK2 => x_region ?_
 refine s_go s_move ?_
 try simp only [nY]
 refine s_go s_move ?_
 try simp only [nY]
 refine s_go (m_load_row U25 (hi := ti25) (hS := hS) (hfit := by (simp only [ic_size, List.length_map, List.size_toArray]; omega))) ?_
 try simp only [nY, gY]
 refine s_call en52 ?_
 try simp only [nY, mY]
 refine CallR.mono (c_tagsLive _ A c l (hS.hasA) hv hn ct hct it h8) ?_
 rintro _ w2 ⟨O, oc, rfl, hC2⟩
 replace hS := hS.call hC2
 simp only [List.cons_append, List.nil_append] at hS
 try simp only [nY]
 refine s_go (s_len_sl U47) ?_
 try simp only [nY]
 refine s_go s_gtr ?_
 try simp only [nY]
 refine s_go s_assign ?_
 try simp only [nY]
 refine x_nil (hK2 _ _ ?_)
 refine x_ret (r_tmp rfl ?_)
 exact ⟨rfl, hS.ext_of⟩
theorem c_tagsDrop (w0 : World) (A : Option Addr) (c : Nat) (l : List (List Int)) (hr : Rd w0 A 21 l.length (arows l)) (hv : AOks l) (hn : l.length ≤ 1000000000) (ct : Nat) (hct : ct < 65536) (it : List Int) (h8 : it.length = 8)  :
    CallR Tryz.prog 92 #[.slice A l.length c, .int .u16 (ct : Int), .agg (ic .u8 it)] w0 fun v w' => ∃ D e, v = .slice D (drpS (normP l) ct it).length e ∧ St NoB w0 w' [.vec D e 66 21 (drpS (normP l) ct it).length (arows (drpS (normP l) ct it))] := by
 have hS := St.rd1 (S := NoB) hr
 have hno := (norm_sta hv).ok
 have hnb := norm_len l
 have hn0l : nm0.length = 8 := rfl
 refine c_enter (l := [.slice A l.length c, .int .u16 (ct : Int), .agg (ic .u8 it), undef, undef, undef, undef, undef, undef, undef, undef, undef, undef, undef, undef, undef, undef, undef, undef, undef, undef, undef, undef, undef, undef, undef]) Tryz.func92 rfl (by simp only [Tryz.ntmps92, List.size_toArray, List.length_cons, List.length_nil, Nat.reduceAdd, Nat.reduceSub, Array.replicate_succ, Array.replicate_zero, List.push_toArray, List.append_toArray, List.nil_append, List.cons_append]) ?_
 refine x_seq fun K1 hK1 => x_region ?_
 refine m_box hS (fun w1 g1 hS => ?_)
 try simp only [nY, aY] at hS ⊢
 refine s_go s_assign ?_
 try simp only [nY]
 refine x_nil (hK1 _ _ ?_)
 refine x_seq fun K2 hK2 => ?_
 refine x_seq fun K3 hK3 => x_region ?_
 refine s_go s_move ?_
 try simp only [nY]
 refine s_go s_move ?_
 try simp only [nY]
 refine s_go (m_load_row U25 (hi := ti25) (hS := hS) (hfit := by (simp only [ic_size, List.length_map, List.size_toArray]; omega))) ?_
 try simp only [nY, gY]
 refine s_call en52 ?_
 try simp only [nY, mY]
 refine CallR.mono (c_tagsLive _ A c l (hS.hasA) hv hn ct hct it h8) ?_
 rintro _ w2 ⟨O, oc, rfl, hC2⟩
 replace hS := hS.call hC2
 simp only [List.cons_append, List.nil_append] at hS
 replace hS := hS.vec_rd (by exact Upd.head)
 have hto := tag_ok hno ct it 1
 have hko := keys_ok hno ct it 1
 have htl := tag_len (normP l) ct it 1
 obtain ⟨t, ht⟩ : ∃ t, tagS (normP l) ct it 1 = t := ⟨_, rfl⟩
 rw [ht] at hS hto htl hko ⊢
 have hal0 := krows_len (t.map akey)
 have hml0 : (t.map akey).length = t.length := List.length_map ..
 try simp only [nY]
 refine s_go (s_len_sl U47) ?_
 try simp only [nY]
 refine s_go s_move ?_
 try simp only [nY]
 refine x_nil (hK3 _ _ ?_)
 refine x_block ?_
 refine x_loop [6, 8, 14, 15, 16, 17, 18, 19, 20, 21, 22, 23, 24] (fun m f w => ∃ (k : Nat) (D : Option Addr) (e : Nat), k ≤ t.length ∧ m = t.length - k ∧ f 14 = .int .i64 (k : Int) ∧ f 6 = .slice D ((t.take k).map dropA).length e ∧ St NoB w0 w [.vec D e 66 21 (((t.take k).map dropA)).length (arows (((t.take k).map dropA))), .rd O 12 (t.map akey).length (krows (t.map akey))]) (t.length) ?init1 (fun m1 f1 wl1 hI => ?_)
 case init1 =>
  try simp only [nY]
  replace hS := hS.nil_vec 66 21
  exact ⟨0, none, 0, by omega, rfl, rfl, rfl, hS.sel (by repeat (first | exact Sel.nil | (refine Sel.cons (by repeat (exact Del.head)) ?_)))⟩
 obtain ⟨k, D, e, hk0, hmk, hfi, hfo, hS⟩ := hI
 simp only [clob, List.foldl, n3, n4, hfi, hfo]
 obtain ⟨x, hx⟩ : ∃ x, t.getD k [] = x := ⟨_, rfl⟩
 have hml : ((t.take k).map dropA).length = k := by rw [List.length_map, List.length_take]; omega
 refine x_seq fun K4 hK4 => x_region ?_
 refine s_go s_lss ?_
 try simp only [nY]
 refine x_nil (hK4 _ _ ?_)
 refine x_seq fun K5 hK5 => ?_
 refine x_cond (ht := fun hc1 => ?_) (hf := fun hc1 => ?_)
 ·
  try simp only [dY] at hc1
  have ha : AtomOk x := by rw [← hx]; exact hto.get (by omega)
  have hk12 := ha.key.len
  have hdl := (dropA_ok ha).len
  have hst := drop_take (by omega) hx
  have hkg : (t.map akey).getD k [] = akey x := by rw [← hx, List.getD_eq_getElem?_getD, List.getElem?_map, List.getElem?_eq_getElem (by omega), getD_lt (by omega)]; rfl
  refine x_skip ?_
  refine hK5 _ _ ?_
  refine x_seq fun K6 hK6 => ?_
  refine x_block ?_
  refine x_seq fun K7 hK7 => x_region ?_
  refine s_go (m_indexAddr_rd U47 ti61 (hS := hS)) ?_
  try simp only [nY, Nat.mul_one, Nat.zero_add, Int.toNat_natCast, Int.reduceToNat]
  refine s_go (m_loada_rd U61 (hi := ti61) (hS := hS) (hfit := by rw [krows_len]; omega)) ?_
  try simp only [nY, gY]
  rw [krow_get (by omega) hko, hkg]
  refine m_alloc ti61 hS (fun w3 g3 hS => ?_)
  try simp only [nY, aY] at hS ⊢
  have h0l : key0.length = 12 := rfl
  replace hS : St _ _ w3 (.obj g3 (.cells (KA key0) 61 (0, 0)) :: _) := hS
  refine m_store_obj ti61 (hS := hS) (hc := by exact zi_whole (by omega) (by omega)) (hv := by (show (zi _ _).toArray.size = _; rw [zi_size (by omega)]; rfl)) (hfit := by (rw [zi_size (by omega)]; decide)) (h1 := by exact zi_one _ _) (h := fun w4 hS => ?_)
  try simp only [nY, aY] at hS ⊢
  refine x_nil (hK7 _ _ ?_)
  refine x_region ?_
  refine s_go s_move ?_
  try simp only [nY]
  refine s_go (m_load_row U61 (hi := ti61) (hS := hS) (hfit := by (rw [zi_size (by omega)]; rfl))) ?_
  try simp only [nY, gY]
  refine s_go (s_build_struct (cells := (VA (mkV 2 nm0))) U64 ti64 bp64 (hc := by simp only [List.map_toArray, List.map_cons, List.map_nil, nY, List.toList_toArray]; (repeat (refine fill_cons rfl rfl (Nat.le_of_ble_eq_true rfl) ?_)); rfl)) ?_
  try simp only [nY]
  refine s_go (s_build_struct (cells := (AA (dropA x))) U66 ti66 bp66 (hc := by simp only [List.map_toArray, List.map_cons, List.map_nil, nY, List.toList_toArray]; exact fill_atom (by rfl) (by rfl) (by rfl) hk12 (mkV_len hn0l))) ?_
  try simp only [nY]
  refine m_buildRow (cells := (AA (dropA x))) U22 ti66 (hc := by simp only [List.map_toArray, List.map_cons, List.map_nil, nY, List.toList_toArray]; exact fill_one (by rfl) (zi_size21 hdl) (by rfl)) (hS := hS) (h := fun w5 g5 hS => ?_)
  try simp only [nY, aY] at hS ⊢
  replace hS := hS.obj_rd (sz := 21) (n := 1) (by exact zi_size21 hdl) .head
  rw [arow_one hdl] at hS
  refine m_append U22 ti66 (hS := hS) (h1 := rowsZ_cells _ _) (h := fun w6 A6 C6 hS => ?_)
  try simp only [← List.map_append, ← List.map_drop, ← List.map_take, Nat.mul_one, Nat.zero_mul, Nat.sub_zero, List.drop_zero, List.nil_append, Nat.zero_add] at hS ⊢
  try simp only [nY, aY] at hS ⊢
  rw [add_one] at hS
  refine s_go s_assign ?_
  try simp only [nY]
  refine x_nil (hK6 _ _ ?_)
  refine x_region ?_
  refine s_go (s_add (hc := by exact wr_i64 (by omega) (by omega))) ?_
  try simp only [nY]
  refine s_go s_move ?_
  try simp only [nY]
  refine x_nil ?_
  refine loop_back (m' := t.length - (k + 1)) (by simp only [clob, List.foldl, nZ]) ?_ ?_
  · try simp only [nY]
    exact ⟨k + 1, _, _, by omega, by omega, by rfl, by rw [hst, List.length_append]; rfl, by rw [hst, List.length_append]; exact hS.selA⟩
  · omega
 try simp only [dY] at hc1
 obtain rfl : k = t.length := by omega
 rw [List.take_of_length_le (Nat.le_refl _)] at hS ⊢
 refine x_exit (look_here ?_)
 refine hK2 _ _ ?_
 refine x_seq fun K8 hK8 => x_region ?_
 refine s_go s_move ?_
 try simp only [nY]
 refine s_go s_assign ?_
 try simp only [nY]
 refine x_nil (hK8 _ _ ?_)
 refine x_ret (r_tmp rfl ?_)
 unfold drpS
 rw [ht]
 exact ⟨_, _, rfl, hS.sel (by repeat (first | exact Sel.nil | (refine Sel.cons (by repeat (exact Del.head)) ?_)))⟩
end Go.Proofs.YtpekghaodmeemaaGreat
set_option linter.unusedSimpArgs false
set_option linter.unusedVariables false
set_option maxHeartbeats 1000000
set_option maxRecDepth 100000
namespace Go.Proofs.YtpekghaodmeemaaGreat
open Go.RowKit

def halfB (x : List Int) : Bool := decide (kn x 0 = 2 ∨ kn x 0 = 3)
def halfN (l : List (List Int)) (x : List Int) : Nat := if halfB x = true then kn ((fnd x (normP l)).getD v9) 0 else 0
def turnK (s r c : Nat) (it : List Int) : List Int := mkKey s c it r 0
def turnA (l : List (List Int)) (s r c : Nat) (it : List Int) (n : Int) : List Int := turnK s r c it ++ mkV (halfN l (turnK s r c it) + n.toNat) nm0
def turnE (l : List (List Int)) (s r c : Nat) (it : List Int) (n : Int) : Int := if 16 ≤ r ∨ n < 0 ∨ nright it = false then 1 else if 4294967295 < (halfN l (turnK s r c it) : Int) + n then 8 else 0
def turnP (l : List (List Int)) (s r c : Nat) (it : List Int) (n : Int) : List (List Int) := if turnE l s r c it n = 0 ∧ ¬ n = 0 then [turnA l s r c it n] else []
theorem turnK_ok {s r c : Nat} {it : List Int} (hs : s = 2 ∨ s = 3) (hr : r < 256) (hc : c < 65536) (h8 : it.length = 8) (hb : Byt it) : KeyOk (turnK s r c it) := mkKey_ok h8 hb (by omega) hc hr (by decide)
theorem turnK_half {s r c : Nat} {it : List Int} (hs : s = 2 ∨ s = 3) : halfB (turnK s r c it) = true := decide_eq_true (by show s = 2 ∨ s = 3; exact hs)
theorem half_le {l : List (List Int)} (h : AOks l) {x : List Int} (hx : KeyOk x) : halfN l x ≤ 4294967295 := by
  unfold halfN
  split
  · next hh =>
    cases hf : fnd x (normP l) with
    | none => show kn v9 0 ≤ _; decide
    | some v =>
      show kn v 0 ≤ _
      obtain ⟨a, ha, hk, rfl⟩ := fnd_mem hf
      have hr := (norm_sta h).right a ha
      have hao := (norm_sta h).ok a ha
      have h2 := of_decide_eq_true hh
      rw [← hk] at h2
      rw [atomR, Bool.and_eq_true] at hr
      have hv := hr.2
      have e := (akey_k hao.len).1
      unfold valR at hv
      rw [if_neg (by omega), if_pos (by omega), Bool.and_eq_true, decide_eq_true_eq] at hv
      exact hv.2.2
  · decide
theorem turnA_ok {l : List (List Int)} {s r c : Nat} {it : List Int} {n : Int} (hv : AOks l) (hs : s = 2 ∨ s = 3) (hr : r < 256) (hc : c < 65536) (h8 : it.length = 8) (hb : Byt it) (hn : n ≤ 9223372036854775807) : AtomOk (turnA l s r c it n) := by
  have hk := turnK_ok hs hr hc h8 hb
  have hl := half_le hv hk
  refine kv_ok hk ⟨rfl, ?_, ?_, nm0_byt⟩
  · show ((halfN l (turnK s r c it) + n.toNat : Nat) : Int) = ((((halfN l (turnK s r c it) + n.toNat : Nat) : Int).toNat : Nat) : Int); omega
  · show (((halfN l (turnK s r c it) + n.toNat : Nat) : Int).toNat) < _; omega
theorem turnP_ok {l : List (List Int)} {s r c : Nat} {it : List Int} {n : Int} (hv : AOks l) (hs : s = 2 ∨ s = 3) (hr : r < 256) (hc : c < 65536) (h8 : it.length = 8) (hb : Byt it) (hn : n ≤ 9223372036854775807) : AOks (turnP l s r c it n) := by
  unfold turnP; split
  · intro a ha; rw [List.mem_singleton] at ha; rw [ha]; exact turnA_ok hv hs hr hc h8 hb hn
  · exact AOks.nil
theorem turnP_len (l : List (List Int)) (s r c : Nat) (it : List Int) (n : Int) : (turnP l s r c it n).length ≤ 1 := by unfold turnP; split <;> simp
theorem turnE_1 {l : List (List Int)} {s r c : Nat} {it : List Int} {n : Int} (h : 16 ≤ r ∨ n < 0 ∨ nright it = false) : turnE l s r c it n = 1 := by rw [turnE, if_pos h]
theorem turnE_8 {l : List (List Int)} {s r c : Nat} {it : List Int} {n : Int} (h : ¬ (16 ≤ r ∨ n < 0 ∨ nright it = false)) (h2 : 4294967295 < (halfN l (turnK s r c it) : Int) + n) : turnE l s r c it n = 8 := by rw [turnE, if_neg h, if_pos h2]
theorem turnE_0 {l : List (List Int)} {s r c : Nat} {it : List Int} {n : Int} (h : ¬ (16 ≤ r ∨ n < 0 ∨ nright it = false)) (h2 : ¬ 4294967295 < (halfN l (turnK s r c it) : Int) + n) : turnE l s r c it n = 0 := by rw [turnE, if_neg h, if_neg h2]
theorem turnP_no {l : List (List Int)} {s r c : Nat} {it : List Int} {n : Int} (h : ¬ turnE l s r c it n = 0 ∨ n = 0) : turnP l s r c it n = [] := if_neg (fun h2 => h.elim (fun h3 => h3 h2.1) h2.2)
theorem turnP_yes {l : List (List Int)} {s r c : Nat} {it : List Int} {n : Int} (h : turnE l s r c it n = 0) (h2 : ¬ n = 0) : turnP l s r c it n = [turnA l s r c it n] := if_pos ⟨h, h2⟩
theorem fill_key {pl : Nat → Option (Nat × Nat)} {it : List Int} {s c r : Int} (h0 : pl 0 = some (0, 1)) (h1 : pl 1 = some (1, 1)) (h2 : pl 2 = some (2, 8)) (h3 : pl 3 = some (10, 1)) (hl : it.length = 8) :
    Instr.fill pl #[.int .u8 0, .int .u16 0, .int .u8 0, .int .u8 0, .int .u8 0, .int .u8 0, .int .u8 0, .int .u8 0, .int .u8 0, .int .u8 0, .int .u8 0, .int .u32 0] [(0, .int .u8 s), (1, .int .u16 c), (2, .agg (ic .u8 it)), (3, .int .u8 r)] = some (KA ([s, c] ++ it ++ [r, 0])) := by
  match it, hl with
  | [_, _, _, _, _, _, _, _], _ =>
    refine fill_cons h0 rfl (Nat.le_of_ble_eq_true rfl) ?_
    refine fill_cons h1 rfl (Nat.le_of_ble_eq_true rfl) ?_
    refine fill_cons h2 rfl (Nat.le_of_ble_eq_true rfl) ?_
    refine fill_cons h3 rfl (Nat.le_of_ble_eq_true rfl) ?_
    rfl
theorem fill_atomk {pl : Nat → Option (Nat × Nat)} {k : List Int} (h1 : pl 0 = some (0, 12)) (hk : k.length = 12) :
    Instr.fill pl #[.int .u8 0, .int .u16 0, .int .u8 0, .int .u8 0, .int .u8 0, .int .u8 0, .int .u8 0, .int .u8 0, .int .u8 0, .int .u8 0, .int .u8 0, .int .u32 0, .int .u64 0, .int .u8 0, .int .u8 0, .int .u8 0, .int .u8 0, .int .u8 0, .int .u8 0, .int .u8 0, .int .u8 0] [(0, .agg (KA k))] = some (AA (k ++ v9)) := by
  match k, hk with
  | [_, _, _, _, _, _, _, _, _, _, _, _], _ => exact fill_cons h1 rfl (Nat.le_of_ble_eq_true rfl) rfl
theorem set12 {k t : List Int} {x y : Int} (hk : k.length = 12) : (k ++ (x :: t)).set 12 y = k ++ (y :: t) := by
  match k, hk with
  | [_, _, _, _, _, _, _, _, _, _, _, _], _ => rfl
theorem get12 {k t : List Int} {x : Int} (hk : k.length = 12) : (k ++ (x :: t)).getD 12 0 = x := by
  match k, hk with
  | [_, _, _, _, _, _, _, _, _, _, _, _], _ => rfl
theorem v9_cut : v9 = (0 : Int) :: nm0 := rfl

theorem c_countHalfB (x : List Int) (hk : KeyOk x)  (w0 : World) :
    CallR Tryz.prog 82 #[.agg (KA x)] w0 fun v w' => v = .bool (halfB x) ∧ Ext w0 w' := by
 have hS : St NoB w0 w0 [] := St.start w0
 refine c_enter (l := [.agg (KA x), undef, undef, undef, undef, undef, undef, undef, undef]) Tryz.func82 rfl (by simp only [Tryz.ntmps82, List.size_toArray, List.length_cons, List.length_nil, Nat.reduceAdd, Nat.reduceSub, Array.replicate_succ, Array.replicate_zero, List.push_toArray, List.append_toArray, List.nil_append, List.cons_append]) ?_
 refine x_seq fun K1 hK1 => x_region ?_
 have hkl := hk.len
 refine m_box hS (fun w1 g1 hS => ?_)
 try simp only [nY, aY] at hS ⊢
 refine s_go s_assign ?_
 try simp only [nY]
 refine x_nil (hK1 _ _ ?_)
 refine x_seq fun K2 hK2 => ?_
 refine x_seq fun K3 hK3 => x_region ?_
 refine s_go (m_fieldAddr U61 (hi := ti5)) ?_
 try simp only [nY, fY, gY]
 refine s_go (m_load_obj U5 (hS := hS) (hv := by exact zi_get rfl (by omega))) ?_
 try simp only [nY, gY]
 rw [hk.e0]
 refine x_nil (hK3 _ _ ?_)
 refine x_block ?_
 refine x_seq fun K4 hK4 => ?_
 refine x_block ?_
 refine x_block ?_
 refine x_seq fun K5 hK5 => ?_
 refine x_seq fun K6 hK6 => ?_
 refine x_seq fun K7 hK7 => x_region ?_
 refine s_go s_eql ?_
 try simp only [nY]
 refine s_go s_assign ?_
 try simp only [nY]
 refine x_nil (hK7 _ _ ?_)
 refine x_cond (ht := fun hc1 => ?_) (hf := fun hc1 => ?_)
 ·
  try simp only [dY] at hc1
  have hH : halfB x = true := decide_eq_true (by omega)
  refine x_exit (look_here ?_)
  refine hK4 _ _ ?_
  refine x_seq fun K8 hK8 => ?_
  refine x_seq fun K9 hK9 => x_region ?_
  refine s_go s_assign ?_
  try simp only [nY]
  refine x_nil (hK9 _ _ ?_)
  refine x_ret (r_tmp rfl ?_)
  exact ⟨by rw [hH]; rfl, hS.ext_of⟩
 try simp only [dY] at hc1
 refine x_skip ?_
 refine hK6 _ _ ?_
 refine x_seq fun K10 hK10 => x_region ?_
 refine s_go s_eql ?_
 try simp only [nY]
 refine s_go s_assign ?_
 try simp only [nY]
 refine x_nil (hK10 _ _ ?_)
 refine x_cond (ht := fun hc2 => ?_) (hf := fun hc2 => ?_)
 ·
  try simp only [dY] at hc2
  have hH : halfB x = true := decide_eq_true (by omega)
  refine x_exit (look_on (by decide) (look_here ?_))
  refine hK4 _ _ ?_
  refine x_seq fun K11 hK11 => ?_
  refine x_seq fun K12 hK12 => x_region ?_
  refine s_go s_assign ?_
  try simp only [nY]
  refine x_nil (hK12 _ _ ?_)
  refine x_ret (r_tmp rfl ?_)
  exact ⟨by rw [hH]; rfl, hS.ext_of⟩
 try simp only [dY] at hc2
 have hH : halfB x = false := decide_eq_false (by omega)
 refine x_skip ?_
 refine hK5 _ _ ?_
 refine x_exit (look_on (by decide) (look_on (by decide) (look_here ?_)))
 refine hK2 _ _ ?_
 refine x_seq fun K13 hK13 => x_region ?_
 refine s_go s_assign ?_
 try simp only [nY]
 refine x_nil (hK13 _ _ ?_)
 refine x_ret (r_tmp rfl ?_)
 exact ⟨by rw [hH]; rfl, hS.ext_of⟩
theorem c_countHalf (w0 : World) (A : Option Addr) (c : Nat) (l : List (List Int)) (hr : Rd w0 A 21 l.length (arows l)) (hv : AOks l) (hn : l.length ≤ 1000000000) (x : List Int) (hx : KeyOk x)  :
    CallR Tryz.prog 113 #[.slice A l.length c, .agg (KA x)] w0 fun v w' => v = .int .u64 ((halfN l x : Nat) : Int) ∧ Ext w0 w' := by
 have hS := St.rd1 (S := NoB) hr
 have hxl := hx.len
 have hno := (norm_sta hv).ok
 have hvo : ValOk ((fnd x (normP l)).getD v9) := fndD_ok hno
 have hvl := hvo.len
 have h9l : v9.length = 9 := rfl
 refine c_enter (l := [.slice A l.length c, .agg (KA x), undef, undef, undef, undef, undef, undef, undef, undef, undef, undef, undef, undef, undef, undef, undef, undef]) Tryz.func113 rfl (by simp only [Tryz.ntmps113, List.size_toArray, List.length_cons, List.length_nil, Nat.reduceAdd, Nat.reduceSub, Array.replicate_succ, Array.replicate_zero, List.push_toArray, List.append_toArray, List.nil_append, List.cons_append]) ?_
 refine x_seq fun K1 hK1 => x_region ?_
 refine m_box hS (fun w1 g1 hS => ?_)
 try simp only [nY, aY] at hS ⊢
 refine s_go s_assign ?_
 try simp only [nY]
 refine x_nil (hK1 _ _ ?_)
 refine x_seq fun K2 hK2 => ?_
 refine x_seq fun K3 hK3 => x_region ?_
 refine s_go (m_load_row U61 (hi := ti61) (hS := hS) (hfit := by (rw [zi_size (by omega)]; rfl))) ?_
 try simp only [nY, gY]
 refine s_call en82 ?_
 try simp only [nY, mY]
 refine CallR.mono (c_countHalfB _ (by assumption) _) ?_
 rintro _ w2 ⟨rfl, hE2⟩
 replace hS := hS.ext hE2
 try simp only [nY]
 refine s_go s_not ?_
 try simp only [nY]
 refine x_nil (hK3 _ _ ?_)
 refine x_cond (ht := fun hc1 => ?_) (hf := fun hc1 => ?_)
 ·
  try simp only [dY] at hc1
  have hH : halfB x = false := by simpa using hc1
  refine x_seq fun K4 hK4 => x_region ?_
  refine s_go s_assign ?_
  try simp only [nY]
  refine x_nil (hK4 _ _ ?_)
  refine x_ret (r_tmp rfl ?_)
  exact ⟨by rw [halfN, if_neg (by rw [hH]; decide)]; rfl, hS.ext_of⟩
 try simp only [dY] at hc1
 have hH : halfB x = true := by simpa using hc1
 refine x_skip ?_
 refine hK2 _ _ ?_
 refine x_seq fun K5 hK5 => x_region ?_
 refine s_go s_move ?_
 try simp only [nY]
 refine s_go (m_load_row U61 (hi := ti61) (hS := hS) (hfit := by (rw [zi_size (by omega)]; rfl))) ?_
 try simp only [nY, gY]
 refine s_call en128 ?_
 try simp only [nY, mY]
 refine CallR.mono (c_latFind _ A c l (hS.hasA) hv hn x hx) ?_
 rintro _ w3 ⟨rfl, hE3⟩
 replace hS := hS.ext hE3
 try simp only [nY]
 refine s_go s_move ?_
 try simp only [nY]
 refine s_go (s_extract (hv := rfl)) ?_
 try simp only [gY]
 try simp only [nY]
 refine s_go (s_extract (hv := rfl)) ?_
 try simp only [gY]
 try simp only [nY]
 refine m_alloc ti64 hS (fun w4 g4 hS => ?_)
 try simp only [nY, aY] at hS ⊢
 replace hS : St _ _ w4 (.obj g4 (.cells (VA v9) 64 (0, 0)) :: _) := hS
 refine m_store_obj ti64 (hS := hS) (hc := by exact zi_whole (by omega) (by omega)) (hv := by (show (zi _ _).toArray.size = _; rw [zi_size (by omega)]; rfl)) (hfit := by (rw [zi_size (by omega)]; decide)) (h1 := by exact zi_one _ _) (h := fun w5 hS => ?_)
 try simp only [nY, aY] at hS ⊢
 refine s_go s_assign ?_
 try simp only [nY]
 refine x_nil (hK5 _ _ ?_)
 refine x_seq fun K6 hK6 => x_region ?_
 refine s_go (m_fieldAddr U64 (hi := ti62)) ?_
 try simp only [nY, fY, gY]
 refine s_go (m_load_obj U62 (hS := hS) (hv := by exact zi_get rfl (by omega))) ?_
 try simp only [nY, gY]
 rw [hvo.e0]
 refine s_go s_assign ?_
 try simp only [nY]
 refine x_nil (hK6 _ _ ?_)
 refine x_ret (r_tmp rfl ?_)
 exact ⟨by rw [halfN, if_pos hH]; rfl, hS.ext_of⟩
theorem c_ref15Half (w0 : World) (A : Option Addr) (c : Nat) (l : List (List Int)) (hr : Rd w0 A 21 l.length (arows l)) (hv : AOks l) (hn : l.length ≤ 1000000000) (x : List Int) (hx : KeyOk x)  :
    CallR Tryz.prog 44 #[.slice A l.length c, .agg (KA x)] w0 fun v w' => v = .int .u64 ((halfN l x : Nat) : Int) ∧ Ext w0 w' := by
 have hS := St.rd1 (S := NoB) hr
 have hxl := hx.len
 have hno := (norm_sta hv).ok
 have hvo : ValOk ((fnd x (normP l)).getD v9) := fndD_ok hno
 have hvl := hvo.len
 have h9l : v9.length = 9 := rfl
 refine c_enter (l := [.slice A l.length c, .agg (KA x), undef, undef, undef, undef, undef, undef, undef, undef, undef, undef, undef, undef, undef, undef, undef, undef, undef, undef, undef, undef, undef]) Tryz.func44 rfl (by simp only [Tryz.ntmps44, List.size_toArray, List.length_cons, List.length_nil, Nat.reduceAdd, Nat.reduceSub, Array.replicate_succ, Array.replicate_zero, List.push_toArray, List.append_toArray, List.nil_append, List.cons_append]) ?_
 refine x_seq fun K1 hK1 => x_region ?_
 refine m_box hS (fun w1 g1 hS => ?_)
 try simp only [nY, aY] at hS ⊢
 refine s_go s_assign ?_
 try simp only [nY]
 refine x_nil (hK1 _ _ ?_)
 refine x_seq fun K2 hK2 => ?_
 refine x_seq fun K3 hK3 => x_region ?_
 refine s_go (m_fieldAddr U61 (hi := ti5)) ?_
 try simp only [nY, fY, gY]
 refine s_go (m_load_obj U5 (hS := hS) (hv := by exact zi_get rfl (by omega))) ?_
 try simp only [nY, gY]
 rw [hx.e0]
 refine s_go s_neq ?_
 try simp only [nY]
 refine s_go s_move ?_
 try simp only [nY]
 refine s_part 10 rfl (fun hp1 => ?_) (fun hp1 => ?_)
 ·
  try simp only [n3, n4]
  try simp only [dZ, ne_eq] at hp1
  have h2 := hp1
  refine g_on (yi (t := 10) rfl rfl) ?_
  refine s_go (m_fieldAddr U61 (hi := ti5)) ?_
  try simp only [nY, fY, gY]
  refine g_on (yi (t := 10) rfl rfl) ?_
  refine s_go (m_load_obj U5 (hS := hS) (hv := by exact zi_get rfl (by omega))) ?_
  try simp only [nY, gY]
  rw [hx.e0]
  refine g_on (yi (t := 10) rfl rfl) ?_
  refine s_go s_neq ?_
  try simp only [nY]
  refine s_go s_pick_t ?_
  try simp only [nY]
  refine x_nil (hK3 _ _ ?_)
  refine x_cond (ht := fun hc1 => ?_) (hf := fun hc1 => ?_)
  ·
   try simp only [dY] at hc1
   have hH : halfB x = false := decide_eq_false (by omega)
   refine x_seq fun K4 hK4 => x_region ?_
   refine s_go s_assign ?_
   try simp only [nY]
   refine x_nil (hK4 _ _ ?_)
   refine x_ret (r_tmp rfl ?_)
   exact ⟨by rw [halfN, if_neg (by rw [hH]; decide)]; rfl, hS.ext_of⟩
  try simp only [dY] at hc1
  have hH : halfB x = true := decide_eq_true (by omega)
  refine x_skip ?_
  refine hK2 _ _ ?_
  refine x_seq fun K5 hK5 => x_region ?_
  refine s_go s_move ?_
  try simp only [nY]
  refine s_go (m_load_row U61 (hi := ti61) (hS := hS) (hfit := by (rw [zi_size (by omega)]; rfl))) ?_
  try simp only [nY, gY]
  refine s_call en47 ?_
  try simp only [nY, mY]
  refine CallR.mono (c_ref10Find _ A c l (hS.hasA) hv hn x hx) ?_
  rintro _ w2 ⟨rfl, hE2⟩
  replace hS := hS.ext hE2
  try simp only [nY]
  refine s_go s_move ?_
  try simp only [nY]
  refine s_go (s_extract (hv := rfl)) ?_
  try simp only [gY]
  try simp only [nY]
  refine s_go (s_extract (hv := rfl)) ?_
  try simp only [gY]
  try simp only [nY]
  refine m_alloc ti64 hS (fun w3 g3 hS => ?_)
  try simp only [nY, aY] at hS ⊢
  replace hS : St _ _ w3 (.obj g3 (.cells (VA v9) 64 (0, 0)) :: _) := hS
  refine m_store_obj ti64 (hS := hS) (hc := by exact zi_whole (by omega) (by omega)) (hv := by (show (zi _ _).toArray.size = _; rw [zi_size (by omega)]; rfl)) (hfit := by (rw [zi_size (by omega)]; decide)) (h1 := by exact zi_one _ _) (h := fun w4 hS => ?_)
  try simp only [nY, aY] at hS ⊢
  refine s_go s_assign ?_
  try simp only [nY]
  refine x_nil (hK5 _ _ ?_)
  refine x_seq fun K6 hK6 => x_region ?_
  refine s_go (m_fieldAddr U64 (hi := ti62)) ?_
  try simp only [nY, fY, gY]
  refine s_go (m_load_obj U62 (hS := hS) (hv := by exact zi_get rfl (by omega))) ?_
  try simp only [nY, gY]
  rw [hvo.e0]
  refine s_go s_assign ?_
  try simp only [nY]
  refine x_nil (hK6 _ _ ?_)
  refine x_ret (r_tmp rfl ?_)
  exact ⟨by rw [halfN, if_pos hH]; rfl, hS.ext_of⟩
 try simp only [n3, n4]
 try simp only [dZ, ne_eq] at hp1
 have h2 := hp1
 refine g_off (yi (t := 10) rfl rfl) ?_
 try simp only [nY]
 refine g_off (yi (t := 10) rfl rfl) ?_
 try simp only [nY]
 refine g_off (yi (t := 10) rfl rfl) ?_
 try simp only [nY]
 refine s_go s_pick_f ?_
 try simp only [nY]
 refine x_nil (hK3 _ _ ?_)
 refine x_cond_f (h := ?_)
 have hH : halfB x = true := decide_eq_true (by omega)
 refine x_skip ?_
 refine hK2 _ _ ?_
 refine x_seq fun K7 hK7 => x_region ?_
 refine s_go s_move ?_
 try simp only [nY]
 refine s_go (m_load_row U61 (hi := ti61) (hS := hS) (hfit := by (rw [zi_size (by omega)]; rfl))) ?_
 try simp only [nY, gY]
 refine s_call en47 ?_
 try simp only [nY, mY]
 refine CallR.mono (c_ref10Find _ A c l (hS.hasA) hv hn x hx) ?_
 rintro _ w5 ⟨rfl, hE5⟩
 replace hS := hS.ext hE5
 try simp only [nY]
 refine s_go s_move ?_
 try simp only [nY]
 refine s_go (s_extract (hv := rfl)) ?_
 try simp only [gY]
 try simp only [nY]
 refine s_go (s_extract (hv := rfl)) ?_
 try simp only [gY]
 try simp only [nY]
 refine m_alloc ti64 hS (fun w6 g6 hS => ?_)
 try simp only [nY, aY] at hS ⊢
 replace hS : St _ _ w6 (.obj g6 (.cells (VA v9) 64 (0, 0)) :: _) := hS
 refine m_store_obj ti64 (hS := hS) (hc := by exact zi_whole (by omega) (by omega)) (hv := by (show (zi _ _).toArray.size = _; rw [zi_size (by omega)]; rfl)) (hfit := by (rw [zi_size (by omega)]; decide)) (h1 := by exact zi_one _ _) (h := fun w7 hS => ?_)
 try simp only [nY, aY] at hS ⊢
 refine s_go s_assign ?_
 try simp only [nY]
 refine x_nil (hK7 _ _ ?_)
 refine x_seq fun K8 hK8 => x_region ?_
 refine s_go (m_fieldAddr U64 (hi := ti62)) ?_
 try simp only [nY, fY, gY]
 refine s_go (m_load_obj U62 (hS := hS) (hv := by exact zi_get rfl (by omega))) ?_
 try simp only [nY, gY]
 rw [hvo.e0]
 refine s_go s_assign ?_
 try simp only [nY]
 refine x_nil (hK8 _ _ ?_)
 refine x_ret (r_tmp rfl ?_)
 exact ⟨by rw [halfN, if_pos hH]; rfl, hS.ext_of⟩
end Go.Proofs.YtpekghaodmeemaaGreat
set_option linter.unusedSimpArgs false
set_option linter.unusedVariables false
set_option maxHeartbeats 1000000
set_option maxRecDepth 100000
namespace Go.Proofs.YtpekghaodmeemaaGreat
open Go.RowKit
theorem c_countTurn (s : Int)  (w0 : World) :
    CallR Tryz.prog 91 #[.int .u8 s] w0 fun v w' => ∃ b : Nat, v = .func (.func 112) #[] #[.pointer (some ⟨b, 0, none⟩)] ∧ St NoB w0 w' [.obj b (.cells #[.int .u8 s] 5 (0, 0))] := by
 have hS : St NoB w0 w0 [] := St.start w0
 refine c_enter (l := [.int .u8 s, undef, undef, undef]) Tryz.func91 rfl (by simp only [Tryz.ntmps91, List.size_toArray, List.length_cons, List.length_nil, Nat.reduceAdd, Nat.reduceSub, Array.replicate_succ, Array.replicate_zero, List.push_toArray, List.append_toArray, List.nil_append, List.cons_append]) ?_
 refine x_seq fun K1 hK1 => x_region ?_
 refine m_box hS (fun w1 g1 hS => ?_)
 try simp only [nY, aY] at hS ⊢
 refine s_go s_assign ?_
 try simp only [nY]
 refine x_nil (hK1 _ _ ?_)
 refine x_seq fun K2 hK2 => x_region ?_
 refine s_go s_makeFunc ?_
 try simp only [nY, List.map_toArray, List.map_cons, List.map_nil]
 refine s_go s_assign ?_
 try simp only [nY]
 refine x_nil (hK2 _ _ ?_)
 refine x_ret (r_tmp rfl ?_)
 exact ⟨_, rfl, hS.sel (by repeat (first | exact Sel.nil | (refine Sel.cons (by repeat (exact Del.head)) ?_)))⟩
theorem c_countTurn1 (w0 : World) (A : Option Addr) (c : Nat) (l : List (List Int)) (hr : Rd w0 A 21 l.length (arows l)) (hv : AOks l) (hn : l.length ≤ 1000000000) (r : Nat) (hr8 : r < 256) (ct : Nat) (hct : ct < 65536) (it : List Int) (h8 : it.length = 8) (hbt : Byt it) (n : Int) (hn1 : -9223372036854775808 ≤ n) (hn2 : n ≤ 9223372036854775807) (s : Nat) (hs : s = 2 ∨ s = 3) (b : Nat) (hb : Rd w0 (some ⟨b, 0, none⟩) 1 1 [.int .u8 (s : Int)])  :
    CallR Tryz.prog 112 #[.slice A l.length c, .int .u8 (r : Int), .int .u16 (ct : Int), .agg (ic .u8 it), .int .i64 n, .pointer (some ⟨b, 0, none⟩)] w0 fun v w' => ∃ A c, v = .tuple #[.slice A (turnP l s r ct it (n)).length c, .int .i64 (turnE l s r ct it (n))] ∧ St NoB w0 w' [.vec A c 66 21 (turnP l s r ct it (n)).length (arows (turnP l s r ct it (n)))] := by
 have hS := St.rd2 (S := NoB) hr hb
 have hko := turnK_ok hs hr8 hct h8 hbt
 have hkl := hko.len
 have hhl := half_le hv hko
 have hAl : (turnA l s r ct it n).length = 21 := (turnA_ok hv hs hr8 hct h8 hbt hn2).len
 have hn0l : nm0.length = 8 := rfl
 have h9l : v9.length = 9 := rfl
 obtain ⟨h, hh⟩ : ∃ h, halfN l (turnK s r ct it) = h := ⟨_, rfl⟩
 rw [hh] at hhl
 refine c_enter (l := [.slice A l.length c, .int .u8 (r : Int), .int .u16 (ct : Int), .agg (ic .u8 it), .int .i64 n, .pointer (some ⟨b, 0, none⟩), undef, undef, undef, undef, undef, undef, undef, undef, undef, undef, undef, undef, undef, undef, undef, undef, undef, undef, undef, undef, undef, undef, undef, undef, undef, undef, undef, undef, undef, undef, undef, undef, undef, undef, undef, undef, undef, undef, undef, undef, undef, undef, undef, undef, undef, undef, undef, undef, undef, undef, undef, undef, undef, undef]) Tryz.func112 rfl (by simp only [Tryz.ntmps112, List.size_toArray, List.length_cons, List.length_nil, Nat.reduceAdd, Nat.reduceSub, Array.replicate_succ, Array.replicate_zero, List.push_toArray, List.append_toArray, List.nil_append, List.cons_append]) ?_
 refine x_seq fun K1 hK1 => x_region ?_
 refine m_box hS (fun w1 g1 hS => ?_)
 try simp only [nY, aY] at hS ⊢
 refine s_go s_assign ?_
 try simp only [nY]
 refine s_go s_assign ?_
 try simp only [nY]
 refine x_nil (hK1 _ _ ?_)
 refine x_seq fun K2 hK2 => ?_
 refine x_seq fun K3 hK3 => x_region ?_
 refine s_go s_move ?_
 try simp only [nY]
 refine s_go s_geq ?_
 try simp only [nY]
 refine s_go s_move ?_
 try simp only [nY]
 refine s_part 17 rfl (fun hp1 => ?_) (fun hp1 => ?_)
 ·
  try simp only [n3, n4]
  try simp only [dZ, ne_eq] at hp1
  have hE : turnE l s r ct it n = 1 := turnE_1 (.inl (by omega))
  refine g_off (yi (t := 17) rfl rfl) ?_
  try simp only [nY]
  refine g_off (yi (t := 17) rfl rfl) ?_
  try simp only [nY]
  refine s_go s_pick_t ?_
  try simp only [nY]
  refine s_go s_move ?_
  try simp only [nY]
  refine g_off (yi (t := 21) rfl rfl) ?_
  try simp only [nY]
  refine g_off (yi (t := 21) rfl rfl) ?_
  try simp only [nY]
  refine g_off (yi (t := 21) rfl rfl) ?_
  try simp only [nY]
  refine s_go s_pick_t ?_
  try simp only [nY]
  refine x_nil (hK3 _ _ ?_)
  refine x_cond_t (h := ?_)
  try have hE : turnE l s r ct it n = 1 := turnE_1 (.inr (.inr (by simpa using @c)))
  refine x_seq fun K4 hK4 => x_region ?_
  refine s_go s_assign ?_
  try simp only [nY]
  refine s_go s_assign ?_
  try simp only [nY]
  refine x_nil (hK4 _ _ ?_)
  refine x_ret (r_tmp2 rfl ?_)
  (rw [turnP_no (by exact .inl (by rw [hE]; decide)), hE]; replace hS := hS.nil_vec 66 21; exact ⟨none, 0, rfl, hS.sel (by repeat (first | exact Sel.nil | (refine Sel.cons (by repeat (exact Del.head)) ?_)))⟩)
 try simp only [n3, n4]
 try simp only [dZ, ne_eq] at hp1
 refine g_on (yi (t := 17) rfl rfl) ?_
 refine s_go s_move ?_
 try simp only [nY]
 refine g_on (yi (t := 17) rfl rfl) ?_
 refine s_go s_lss ?_
 try simp only [nY]
 refine s_go s_pick_f ?_
 try simp only [nY]
 refine s_go s_move ?_
 try simp only [nY]
 refine s_part 21 rfl (fun hp2 => ?_) (fun hp2 => ?_)
 ·
  try simp only [n3, n4]
  try simp only [dZ, ne_eq] at hp2
  try have hE : turnE l s r ct it n = 1 := turnE_1 (.inr (.inl (by omega)))
  refine g_off (yi (t := 21) rfl rfl) ?_
  try simp only [nY]
  refine g_off (yi (t := 21) rfl rfl) ?_
  try simp only [nY]
  refine g_off (yi (t := 21) rfl rfl) ?_
  try simp only [nY]
  refine s_go s_pick_t ?_
  try simp only [nY]
  refine x_nil (hK3 _ _ ?_)
  refine x_cond_t (h := ?_)
  try have hE : turnE l s r ct it n = 1 := turnE_1 (.inr (.inr (by simpa using @c)))
  refine x_seq fun K5 hK5 => x_region ?_
  refine s_go s_assign ?_
  try simp only [nY]
  refine s_go s_assign ?_
  try simp only [nY]
  refine x_nil (hK5 _ _ ?_)
  refine x_ret (r_tmp2 rfl ?_)
  (rw [turnP_no (by exact .inl (by rw [hE]; decide)), hE]; replace hS := hS.nil_vec 66 21; exact ⟨none, 0, rfl, hS.sel (by repeat (first | exact Sel.nil | (refine Sel.cons (by repeat (exact Del.head)) ?_)))⟩)
 try simp only [n3, n4]
 try simp only [dZ, ne_eq] at hp2
 refine g_on (yi (t := 21) rfl rfl) ?_
 refine s_go (m_load_row U25 (hi := ti25) (hS := hS) (hfit := by (simp only [ic_size, List.length_map, List.size_toArray]; omega))) ?_
 try simp only [nY, gY]
 refine g_on (yi (t := 21) rfl rfl) ?_
 refine s_call en39 ?_
 try simp only [nY, mY]
 refine CallR.mono (c_nameRight it h8 hbt _) ?_
 rintro _ w2 ⟨rfl, hE2⟩
 replace hS := hS.ext hE2
 try simp only [nY]
 refine g_on (yi (t := 21) rfl rfl) ?_
 refine s_go s_not ?_
 try simp only [nY]
 refine s_go s_pick_f ?_
 try simp only [nY]
 refine x_nil (hK3 _ _ ?_)
 refine x_cond (ht := fun hc3 => ?_) (hf := fun hc3 => ?_)
 ·
  try simp only [dY] at hc3
  try have hE : turnE l s r ct it n = 1 := turnE_1 (.inr (.inr (by simpa using hc3)))
  refine x_seq fun K6 hK6 => x_region ?_
  refine s_go s_assign ?_
  try simp only [nY]
  refine s_go s_assign ?_
  try simp only [nY]
  refine x_nil (hK6 _ _ ?_)
  refine x_ret (r_tmp2 rfl ?_)
  (rw [turnP_no (by exact .inl (by rw [hE]; decide)), hE]; replace hS := hS.nil_vec 66 21; exact ⟨none, 0, rfl, hS.sel (by repeat (first | exact Sel.nil | (refine Sel.cons (by repeat (exact Del.head)) ?_)))⟩)
 try simp only [dY] at hc3
 have hok : ¬ (16 ≤ r ∨ n < 0 ∨ nright it = false) := fun q => q.elim (fun q => by omega) (fun q => q.elim (fun q => by omega) (fun q => by simp [q] at hc3))
 refine x_skip ?_
 refine hK2 _ _ ?_
 refine x_seq fun K7 hK7 => x_region ?_
 refine s_go (m_load_bx U5 (hS := hS) (hv := by rfl)) ?_
 try simp only [nY, gY]
 refine s_go s_move ?_
 try simp only [nY]
 refine s_go (m_load_row U25 (hi := ti25) (hS := hS) (hfit := by (simp only [ic_size, List.length_map, List.size_toArray]; omega))) ?_
 try simp only [nY, gY]
 refine s_go s_move ?_
 try simp only [nY]
 refine s_go (s_build_struct (cells := (KA (turnK s r ct it))) U61 ti61 bp61 (hc := by simp only [List.map_toArray, List.map_cons, List.map_nil, nY, List.toList_toArray]; exact fill_key (by rfl) (by rfl) (by rfl) (by rfl) h8)) ?_
 try simp only [nY]
 refine s_go (s_build_struct (cells := (AA ((turnK s r ct it) ++ v9))) U66 ti66 bp66 (hc := by simp only [List.map_toArray, List.map_cons, List.map_nil, nY, List.toList_toArray]; exact fill_atomk (by rfl) hkl)) ?_
 try simp only [nY]
 refine m_alloc ti66 hS (fun w3 g3 hS => ?_)
 try simp only [nY, aY] at hS ⊢
 have h0l : (List.replicate 21 (0 : Int)).length = 21 := rfl
 replace hS : St NoB w0 w3 (.obj g3 (.cells (AA (List.replicate 21 0)) 66 (0, 0)) :: _) := hS
 have hka : ((turnK s r ct it) ++ v9).length = 21 := by rw [List.length_append, hkl, h9l]
 have hka2 : ((turnK s r ct it) ++ ((0 : Int) :: nm0)).length = 21 := hka
 have hka3 : ((turnK s r ct it) ++ ((h : Int) :: nm0)).length = 21 := by rw [List.length_append, hkl]; rfl
 refine m_store_obj ti66 (hS := hS) (hc := by exact zi_whole (by omega) (by omega)) (hv := by (show (zi _ _).toArray.size = _; rw [zi_size (by omega)]; rfl)) (hfit := by (rw [zi_size (by omega)]; decide)) (h1 := by exact zi_one _ _) (h := fun w4 hS => ?_)
 try simp only [nY, aY] at hS ⊢
 rw [v9_cut] at hS
 refine x_nil (hK7 _ _ ?_)
 refine x_seq fun K8 hK8 => x_region ?_
 refine s_go s_move ?_
 try simp only [nY]
 refine s_go (m_fieldAddr U66 (hi := ti61)) ?_
 try simp only [nY, fY, gY]
 refine s_go (m_loada_obj U61 (hi := ti61) (hS := hS) (hfit := by (rw [zi_size (by omega)]; decide))) ?_
 try simp only [nY, gY]
 rw [atom_key hka2, akey_kv hkl]
 refine s_call en113 ?_
 try simp only [nY, mY]
 refine CallR.mono (c_countHalf _ A c l (hS.hasA) hv hn (turnK s r ct it) hko) ?_
 rintro _ w5 ⟨rfl, hE5⟩
 replace hS := hS.ext hE5
 try simp only [nY]
 rw [hh]
 refine s_go (m_fieldAddr U66 (hi := ti64)) ?_
 try simp only [nY, fY, gY]
 refine s_go (m_fieldAddr U64 (hi := ti62)) ?_
 try simp only [nY, fY, gY]
 refine m_store_obj ti62 (hS := hS) (hc := by exact zi_set rfl (by omega)) (hv := by rfl) (hfit := by (rw [zi_size (by omega)]; decide)) (h1 := by simp [opv, Value.cells, Value.oneCell']) (h := fun w6 hS => ?_)
 try simp only [nY, aY] at hS ⊢
 rw [set12 hkl] at hS
 refine x_nil (hK8 _ _ ?_)
 refine x_seq fun K9 hK9 => ?_
 refine x_seq fun K10 hK10 => x_region ?_
 refine s_go (m_fieldAddr U66 (hi := ti64)) ?_
 try simp only [nY, fY, gY]
 refine s_go (m_fieldAddr U64 (hi := ti62)) ?_
 try simp only [nY, fY, gY]
 refine s_go (m_load_obj U62 (hS := hS) (hv := by exact zi_get rfl (by omega))) ?_
 try simp only [nY, gY]
 rw [get12 hkl]
 refine s_go (s_sub (hc := by exact wr_u64 (by omega) (by omega))) ?_
 try simp only [nY]
 refine s_go s_assign ?_
 try simp only [nY]
 refine x_nil (hK10 _ _ ?_)
 refine x_block ?_
 refine x_seq fun K11 hK11 => x_region ?_
 refine s_go s_move ?_
 try simp only [nY]
 refine s_go (s_conv U3 U62 (hc := by exact wr_u64 (by omega) (by omega))) ?_
 try simp only [nY]
 refine s_go s_move ?_
 try simp only [nY]
 refine s_go s_gtr ?_
 try simp only [nY]
 refine s_go s_assign ?_
 try simp only [nY]
 refine x_nil (hK11 _ _ ?_)
 refine x_cond (ht := fun hc4 => ?_) (hf := fun hc4 => ?_)
 ·
  try simp only [dY] at hc4
  have hE : turnE l s r ct it n = 8 := turnE_8 hok (by rw [hh]; omega)
  refine x_seq fun K12 hK12 => x_region ?_
  refine s_go s_assign ?_
  try simp only [nY]
  refine s_go s_assign ?_
  try simp only [nY]
  refine x_nil (hK12 _ _ ?_)
  refine x_ret (r_tmp2 rfl ?_)
  (rw [turnP_no (by exact .inl (by rw [hE]; decide)), hE]; replace hS := hS.nil_vec 66 21; exact ⟨none, 0, rfl, hS.sel (by repeat (first | exact Sel.nil | (refine Sel.cons (by repeat (exact Del.head)) ?_)))⟩)
 try simp only [dY] at hc4
 have hE : turnE l s r ct it n = 0 := turnE_0 hok (by rw [hh]; omega)
 refine x_seq fun K13 hK13 => x_region ?_
 refine s_go s_move ?_
 try simp only [nY]
 refine s_go s_eql ?_
 try simp only [nY]
 refine s_go s_assign ?_
 try simp only [nY]
 refine x_nil (hK13 _ _ ?_)
 refine x_cond (ht := fun hc5 => ?_) (hf := fun hc5 => ?_)
 ·
  try simp only [dY] at hc5
  have hn0 : n = 0 := hc5
  refine x_seq fun K14 hK14 => x_region ?_
  refine s_go s_assign ?_
  try simp only [nY]
  refine s_go s_assign ?_
  try simp only [nY]
  refine x_nil (hK14 _ _ ?_)
  refine x_ret (r_tmp2 rfl ?_)
  (rw [turnP_no (by exact .inr (by omega)), hE]; replace hS := hS.nil_vec 66 21; exact ⟨none, 0, rfl, hS.sel (by repeat (first | exact Sel.nil | (refine Sel.cons (by repeat (exact Del.head)) ?_)))⟩)
 try simp only [dY] at hc5
 have hn0 : ¬ n = 0 := hc5
 refine x_skip ?_
 refine hK9 _ _ ?_
 refine x_seq fun K15 hK15 => x_region ?_
 refine s_go (m_fieldAddr U66 (hi := ti64)) ?_
 try simp only [nY, fY, gY]
 refine s_go (m_fieldAddr U64 (hi := ti62)) ?_
 try simp only [nY, fY, gY]
 refine s_go (m_load_obj U62 (hS := hS) (hv := by exact zi_get rfl (by omega))) ?_
 try simp only [nY, gY]
 rw [get12 hkl]
 refine s_go s_move ?_
 try simp only [nY]
 refine s_go (s_conv U3 U62 (hc := by exact wr_u64 (by omega) (by omega))) ?_
 try simp only [nY]
 refine s_go (s_add (hc := by exact wr_u64 (by omega) (by omega))) ?_
 try simp only [nY]
 refine s_go (m_fieldAddr U66 (hi := ti64)) ?_
 try simp only [nY, fY, gY]
 refine s_go (m_fieldAddr U64 (hi := ti62)) ?_
 try simp only [nY, fY, gY]
 refine m_store_obj ti62 (hS := hS) (hc := by exact zi_set rfl (by omega)) (hv := by rfl) (hfit := by (rw [zi_size (by omega)]; decide)) (h1 := by simp [opv, Value.cells, Value.oneCell']) (h := fun w7 hS => ?_)
 try simp only [nY, aY] at hS ⊢
 rw [set12 hkl, show (h : Int) + n = ((h + n.toNat : Nat) : Int) by omega, show (turnK s r ct it ++ (((h + n.toNat : Nat) : Int) :: nm0)) = turnA l s r ct it n by rw [turnA, hh]; rfl] at hS
 refine x_nil (hK15 _ _ ?_)
 refine x_seq fun K16 hK16 => x_region ?_
 refine s_go (m_load_row U66 (hi := ti66) (hS := hS) (hfit := by (rw [zi_size (by omega)]; rfl))) ?_
 try simp only [nY, gY]
 refine m_buildRow (cells := (AA (turnA l s r ct it n))) U22 ti66 (hc := by simp only [List.map_toArray, List.map_cons, List.map_nil, nY, List.toList_toArray]; exact fill_one (by rfl) (zi_size21 hAl) (by rfl)) (hS := hS) (h := fun w8 g8 hS => ?_)
 try simp only [nY, aY] at hS ⊢
 replace hS := hS.obj_vec (sz := 21) (n := 1) (by exact zi_size21 hAl) (by decide) .head
 rw [arow_one hAl] at hS
 refine s_go s_assign ?_
 try simp only [nY]
 refine s_go s_assign ?_
 try simp only [nY]
 refine x_nil (hK16 _ _ ?_)
 refine x_ret (r_tmp2 rfl ?_)
 (rw [turnP_yes hE hn0, hE]; exact ⟨_, _, rfl, hS.sel (by repeat (first | exact Sel.nil | (refine Sel.cons (by repeat (exact Del.head)) ?_)))⟩)
theorem c_countRaise (w0 : World) (A : Option Addr) (c : Nat) (l : List (List Int)) (hr : Rd w0 A 21 l.length (arows l)) (hv : AOks l) (hn : l.length ≤ 1000000000) (r : Nat) (hr8 : r < 256) (ct : Nat) (hct : ct < 65536) (it : List Int) (h8 : it.length = 8) (hbt : Byt it) (n : Int) (hn1 : -9223372036854775808 ≤ n) (hn2 : n ≤ 9223372036854775807)  :
    CallR Tryz.prog 57 #[.slice A l.length c, .int .u8 (r : Int), .int .u16 (ct : Int), .agg (ic .u8 it), .int .i64 n] w0 fun v w' => ∃ A c, v = .tuple #[.slice A (turnP l 2 r ct it (n)).length c, .int .i64 (turnE l 2 r ct it (n))] ∧ St NoB w0 w' [.vec A c 66 21 (turnP l 2 r ct it (n)).length (arows (turnP l 2 r ct it (n)))] := by
 have hS := St.rd1 (S := NoB) hr
 refine c_enter (l := [.slice A l.length c, .int .u8 (r : Int), .int .u16 (ct : Int), .agg (ic .u8 it), .int .i64 n, undef, undef, undef, undef, undef, undef, undef, undef, undef, undef, undef, undef, undef, undef, undef, undef]) Tryz.func57 rfl (by simp only [Tryz.ntmps57, List.size_toArray, List.length_cons, List.length_nil, Nat.reduceAdd, Nat.reduceSub, Array.replicate_succ, Array.replicate_zero, List.push_toArray, List.append_toArray, List.nil_append, List.cons_append]) ?_
 refine x_seq fun K1 hK1 => x_region ?_
 refine m_box hS (fun w1 g1 hS => ?_)
 try simp only [nY, aY] at hS ⊢
 refine s_go s_assign ?_
 try simp only [nY]
 refine s_go s_assign ?_
 try simp only [nY]
 refine x_nil (hK1 _ _ ?_)
 refine x_seq fun K2 hK2 => ?_
 refine x_mixed_c (Lc := [.obj g1 (.cells (ic .u8 it) 25 (0, 0)), .rd A 21 (l).length (arows (l))]) [] 0 [10, 11, 12, 13, 14, 15, 16, 17, 18, 19, 20] (fun f w => ∃ (A1 : Option Addr) (c1 : Nat), f 10 = .slice A1 (turnP l 2 r ct it n).length c1 ∧ f 11 = .int .i64 (turnE l 2 r ct it n) ∧ St NoB w0 w [.vec A1 c1 66 21 (turnP l 2 r ct it n).length (arows (turnP l 2 r ct it n))]) (by kernel_rfl) (by kernel_rfl) (by kernel_rfl) (by decide) hS (fun w2 hS => ?mixpre101) ?mixrest101
 case mixpre101 =>
  refine p_nil ?_
  simp only [List.length_cons, List.length_nil, Nat.reduceAdd, Nat.reduceSub]
  refine any_gn 1 rfl (go_yields w_none (fun w hS => s_move)) ?_
  try simp only [nY]
  refine any_gn 2 rfl (go_yields w_none (fun w hS => s_move)) ?_
  try simp only [nY]
  refine any_gn 3 rfl (go_yields w_none (fun w hS => s_move)) ?_
  try simp only [nY]
  refine any_gn 4 rfl (go_yields w_none (fun w hS => m_load_row U25 (hi := ti25) (hS := hS) (hfit := by (simp only [ic_size, List.length_map, List.size_toArray]; omega)))) ?_
  try simp only [nY, gY]
  refine any_gn 5 rfl (go_yields w_none (fun w hS => s_move)) ?_
  try simp only [nY]
  refine any_step [0] (by kernel_rfl) (by decide) (fun w3 hE => ⟨fun _ => (hS.ext hE).sel (by repeat (first | exact Sel.nil | (refine Sel.cons (by repeat (exact Del.head)) ?_))), ?_⟩)
  replace hS := hS.ext hE
  intro i hi
  simp only [List.mem_cons, List.not_mem_nil, or_false] at hi
  subst hi
  refine any_op (by rfl) ?_
  refine s_call en91 ?_
  try simp only [nY, mY]
  refine CallR.mono (c_countTurn 2 _) ?_
  rintro _ w4 ⟨b4, rfl, hC4⟩
  replace hS := hS.call hC4
  simp only [List.cons_append, List.nil_append] at hS
  replace hS := hS.obj_rd (sz := 1) (n := 1) rfl .head
  try simp only [nY]
  refine x_nil ?_
  refine any_step [6] (by kernel_rfl) (by decide) (fun w5 hE => ⟨fun _ => (hS.ext hE).sel (by repeat (first | exact Sel.nil | (refine Sel.cons (by repeat (first | exact Del.head | apply Del.tail)) ?_))), ?_⟩)
  replace hS := hS.ext hE
  intro i hi
  simp only [List.mem_cons, List.not_mem_nil, or_false] at hi
  subst hi
  refine any_op (by rfl) ?_
  refine s_callv (hv := rfl) en112 ?_
  try simp only [nY, mY]
  refine CallR.mono (c_countTurn1 _ A c l (hS.hasA) hv hn r hr8 ct hct it h8 hbt n hn1 hn2 2 (by decide) _ (hS.hasRd (by repeat (exact Has.head)))) ?_
  rintro _ w6 ⟨A6, c6, rfl, hC6⟩
  replace hS := hS.call hC6
  simp only [List.cons_append, List.nil_append] at hS
  try simp only [nY]
  refine x_nil ?_
  refine any_gn 7 rfl (go_yields w_none (fun w hS => s_extract (hv := rfl))) ?_
  try simp only [gY]
  try simp only [nY]
  refine any_gn 8 rfl (go_yields w_none (fun w hS => s_extract (hv := rfl))) ?_
  try simp only [gY]
  try simp only [nY]
  refine any_gn 9 rfl (go_yields w_none (fun w hS => s_assign)) ?_
  try simp only [nY]
  refine any_gn 10 rfl (go_yields w_none (fun w hS => s_assign)) ?_
  try simp only [nY]
  refine any_nil (by kernel_rfl) (fun w7 hE => ?_)
  replace hS := hS.ext hE
  refine ⟨fun _ => hS.selA, ?_⟩
  refine mix_leaf (by simp only [clob, List.foldl, nZ]) ?_
  try simp only [n1, n2]
  exact ⟨_, _, by trivial, by trivial, hS.sel (by repeat (first | exact Sel.nil | (refine Sel.cons (by repeat (exact Del.head)) ?_)))⟩
 intro fm1 w8 hM
 obtain ⟨A1, c1, h10, h11, hS⟩ := hM
 simp only [clob, List.foldl, n3, n4, h10, h11]
 refine hK2 _ _ ?_
 refine x_ret (r_tmp2 rfl ?_)
 exact ⟨_, _, rfl, hS.sel (by repeat (first | exact Sel.nil | (refine Sel.cons (by repeat (exact Del.head)) ?_)))⟩
theorem c_countLower (w0 : World) (A : Option Addr) (c : Nat) (l : List (List Int)) (hr : Rd w0 A 21 l.length (arows l)) (hv : AOks l) (hn : l.length ≤ 1000000000) (r : Nat) (hr8 : r < 256) (ct : Nat) (hct : ct < 65536) (it : List Int) (h8 : it.length = 8) (hbt : Byt it) (n : Int) (hn1 : -9223372036854775808 ≤ n) (hn2 : n ≤ 9223372036854775807)  :
    CallR Tryz.prog 93 #[.slice A l.length c, .int .u8 (r : Int), .int .u16 (ct : Int), .agg (ic .u8 it), .int .i64 n] w0 fun v w' => ∃ A c, v = .tuple #[.slice A (turnP l 3 r ct it (n)).length c, .int .i64 (turnE l 3 r ct it (n))] ∧ St NoB w0 w' [.vec A c 66 21 (turnP l 3 r ct it (n)).length (arows (turnP l 3 r ct it (n)))] := by
 have hS := St.rd1 (S := NoB) hr
 refine c_enter (l := [.slice A l.length c, .int .u8 (r : Int), .int .u16 (ct : Int), .agg (ic .u8 it), .int .i64 n, undef, undef, undef, undef, undef, undef, undef, undef, undef, undef, undef, undef, undef, undef, undef, undef]) Tryz.func93 rfl (by simp only [Tryz.ntmps93, List.size_toArray, List.length_cons, List.length_nil, Nat.reduceAdd, Nat.reduceSub, Array.replicate_succ, Array.replicate_zero, List.push_toArray, List.append_toArray, List.nil_append, List.cons_append]) ?_
 refine x_seq fun K1 hK1 => x_region ?_
 refine m_box hS (fun w1 g1 hS => ?_)
 try simp only [nY, aY] at hS ⊢
 refine s_go s_assign ?_
 try simp only [nY]
 refine s_go s_assign ?_
 try simp only [nY]
 refine x_nil (hK1 _ _ ?_)
 refine x_seq fun K2 hK2 => ?_
 refine x_mixed_c (Lc := [.obj g1 (.cells (ic .u8 it) 25 (0, 0)), .rd A 21 (l).length (arows (l))]) [] 0 [10, 11, 12, 13, 14, 15, 16, 17, 18, 19, 20] (fun f w => ∃ (A1 : Option Addr) (c1 : Nat), f 10 = .slice A1 (turnP l 3 r ct it n).length c1 ∧ f 11 = .int .i64 (turnE l 3 r ct it n) ∧ St NoB w0 w [.vec A1 c1 66 21 (turnP l 3 r ct it n).length (arows (turnP l 3 r ct it n))]) (by kernel_rfl) (by kernel_rfl) (by kernel_rfl) (by decide) hS (fun w2 hS => ?mixpre101) ?mixrest101
 case mixpre101 =>
  refine p_nil ?_
  simp only [List.length_cons, List.length_nil, Nat.reduceAdd, Nat.reduceSub]
  refine any_gn 1 rfl (go_yields w_none (fun w hS => s_move)) ?_
  try simp only [nY]
  refine any_gn 2 rfl (go_yields w_none (fun w hS => s_move)) ?_
  try simp only [nY]
  refine any_gn 3 rfl (go_yields w_none (fun w hS => s_move)) ?_
  try simp only [nY]
  refine any_gn 4 rfl (go_yields w_none (fun w hS => m_load_row U25 (hi := ti25) (hS := hS) (hfit := by (simp only [ic_size, List.length_map, List.size_toArray]; omega)))) ?_
  try simp only [nY, gY]
  refine any_gn 5 rfl (go_yields w_none (fun w hS => s_move)) ?_
  try simp only [nY]
  refine any_step [0] (by kernel_rfl) (by decide) (fun w3 hE => ⟨fun _ => (hS.ext hE).sel (by repeat (first | exact Sel.nil | (refine Sel.cons (by repeat (exact Del.head)) ?_))), ?_⟩)
  replace hS := hS.ext hE
  intro i hi
  simp only [List.mem_cons, List.not_mem_nil, or_false] at hi
  subst hi
  refine any_op (by rfl) ?_
  refine s_call en91 ?_
  try simp only [nY, mY]
  refine CallR.mono (c_countTurn 3 _) ?_
  rintro _ w4 ⟨b4, rfl, hC4⟩
  replace hS := hS.call hC4
  simp only [List.cons_append, List.nil_append] at hS
  replace hS := hS.obj_rd (sz := 1) (n := 1) rfl .head
  try simp only [nY]
  refine x_nil ?_
  refine any_step [6] (by kernel_rfl) (by decide) (fun w5 hE => ⟨fun _ => (hS.ext hE).sel (by repeat (first | exact Sel.nil | (refine Sel.cons (by repeat (first | exact Del.head | apply Del.tail)) ?_))), ?_⟩)
  replace hS := hS.ext hE
  intro i hi
  simp only [List.mem_cons, List.not_mem_nil, or_false] at hi
  subst hi
  refine any_op (by rfl) ?_
  refine s_callv (hv := rfl) en112 ?_
  try simp only [nY, mY]
  refine CallR.mono (c_countTurn1 _ A c l (hS.hasA) hv hn r hr8 ct hct it h8 hbt n hn1 hn2 3 (by decide) _ (hS.hasRd (by repeat (exact Has.head)))) ?_
  rintro _ w6 ⟨A6, c6, rfl, hC6⟩
  replace hS := hS.call hC6
  simp only [List.cons_append, List.nil_append] at hS
  try simp only [nY]
  refine x_nil ?_
  refine any_gn 7 rfl (go_yields w_none (fun w hS => s_extract (hv := rfl))) ?_
  try simp only [gY]
  try simp only [nY]
  refine any_gn 8 rfl (go_yields w_none (fun w hS => s_extract (hv := rfl))) ?_
  try simp only [gY]
  try simp only [nY]
  refine any_gn 9 rfl (go_yields w_none (fun w hS => s_assign)) ?_
  try simp only [nY]
  refine any_gn 10 rfl (go_yields w_none (fun w hS => s_assign)) ?_
  try simp only [nY]
  refine any_nil (by kernel_rfl) (fun w7 hE => ?_)
  replace hS := hS.ext hE
  refine ⟨fun _ => hS.selA, ?_⟩
  refine mix_leaf (by simp only [clob, List.foldl, nZ]) ?_
  try simp only [n1, n2]
  exact ⟨_, _, by trivial, by trivial, hS.sel (by repeat (first | exact Sel.nil | (refine Sel.cons (by repeat (exact Del.head)) ?_)))⟩
 intro fm1 w8 hM
 obtain ⟨A1, c1, h10, h11, hS⟩ := hM
 simp only [clob, List.foldl, n3, n4, h10, h11]
 refine hK2 _ _ ?_
 refine x_ret (r_tmp2 rfl ?_)
 exact ⟨_, _, rfl, hS.sel (by repeat (first | exact Sel.nil | (refine Sel.cons (by repeat (exact Del.head)) ?_)))⟩

def shiftS (n : Int) : Nat := if 0 ≤ n then 2 else 3
def shiftN (n : Int) : Int := if 0 ≤ n then n else -(max n (-4294967296))
theorem shift_p {n : Int} (h : 0 ≤ n) : shiftS n = 2 ∧ shiftN n = n := ⟨if_pos h, if_pos h⟩
theorem shift_m {n : Int} (h : ¬ 0 ≤ n) : shiftS n = 3 ∧ shiftN n = -(max n (-4294967296)) := ⟨if_neg h, if_neg h⟩
theorem shiftS_or (n : Int) : shiftS n = 2 ∨ shiftS n = 3 := by unfold shiftS; split <;> simp
theorem shiftN_le {n : Int} (h : n ≤ 9223372036854775807) : shiftN n ≤ 9223372036854775807 ∧ 0 ≤ shiftN n := by unfold shiftN; split <;> omega

theorem c_countShift (w0 : World) (A : Option Addr) (c : Nat) (l : List (List Int)) (hr : Rd w0 A 21 l.length (arows l)) (hv : AOks l) (hn : l.length ≤ 1000000000) (r : Nat) (hr8 : r < 256) (ct : Nat) (hct : ct < 65536) (it : List Int) (h8 : it.length = 8) (hbt : Byt it) (n : Int) (hn1 : -9223372036854775808 ≤ n) (hn2 : n ≤ 9223372036854775807)  :
    CallR Tryz.prog 61 #[.slice A l.length c, .int .u8 (r : Int), .int .u16 (ct : Int), .agg (ic .u8 it), .int .i64 n] w0 fun v w' => ∃ A c, v = .tuple #[.slice A (turnP l (shiftS n) r ct it (shiftN n)).length c, .int .i64 (turnE l (shiftS n) r ct it (shiftN n))] ∧ St NoB w0 w' [.vec A c 66 21 (turnP l (shiftS n) r ct it (shiftN n)).length (arows (turnP l (shiftS n) r ct it (shiftN n)))] := by
 have hS := St.rd1 (S := NoB) hr
 refine c_enter (l := [.slice A l.length c, .int .u8 (r : Int), .int .u16 (ct : Int), .agg (ic .u8 it), .int .i64 n, undef, undef, undef, undef, undef, undef, undef, undef, undef, undef, undef, undef, undef, undef, undef, undef, undef, undef, undef, undef, undef, undef, undef, undef, undef, undef, undef]) Tryz.func61 rfl (by simp only [Tryz.ntmps61, List.size_toArray, List.length_cons, List.length_nil, Nat.reduceAdd, Nat.reduceSub, Array.replicate_succ, Array.replicate_zero, List.push_toArray, List.append_toArray, List.nil_append, List.cons_append]) ?_
 refine x_seq fun K1 hK1 => x_region ?_
 refine m_box hS (fun w1 g1 hS => ?_)
 try simp only [nY, aY] at hS ⊢
 refine s_go s_assign ?_
 try simp only [nY]
 refine s_go s_assign ?_
 try simp only [nY]
 refine x_nil (hK1 _ _ ?_)
 refine x_seq fun K2 hK2 => ?_
 refine x_seq fun K3 hK3 => x_region ?_
 refine s_go s_move ?_
 try simp only [nY]
 refine s_go s_geq ?_
 try simp only [nY]
 refine x_nil (hK3 _ _ ?_)
 refine x_cond (ht := fun hc1 => ?_) (hf := fun hc1 => ?_)
 ·
  try simp only [dY] at hc1
  obtain ⟨e1, e2⟩ := shift_p hc1
  refine x_seq fun K4 hK4 => x_region ?_
  refine s_go s_move ?_
  try simp only [nY]
  refine s_go s_move ?_
  try simp only [nY]
  refine s_go s_move ?_
  try simp only [nY]
  refine s_go (m_load_row U25 (hi := ti25) (hS := hS) (hfit := by (simp only [ic_size, List.length_map, List.size_toArray]; omega))) ?_
  try simp only [nY, gY]
  refine s_go s_move ?_
  try simp only [nY]
  refine s_call en57 ?_
  try simp only [nY, mY]
  refine CallR.mono (c_countRaise _ A c l (hS.hasA) hv hn r hr8 ct hct it h8 hbt n hn1 hn2) ?_
  rintro _ w2 ⟨A2, c2, rfl, hC2⟩
  replace hS := hS.call hC2
  simp only [List.cons_append, List.nil_append] at hS
  try simp only [nY]
  refine s_go (s_extract (hv := rfl)) ?_
  try simp only [gY]
  try simp only [nY]
  refine s_go (s_extract (hv := rfl)) ?_
  try simp only [gY]
  try simp only [nY]
  refine s_go s_assign ?_
  try simp only [nY]
  refine s_go s_assign ?_
  try simp only [nY]
  refine x_nil (hK4 _ _ ?_)
  refine x_ret (r_tmp2 rfl ?_)
  rw [e1, e2]
  exact ⟨_, _, rfl, hS.sel (by repeat (first | exact Sel.nil | (refine Sel.cons (by repeat (exact Del.head)) ?_)))⟩
 try simp only [dY] at hc1
 obtain ⟨e1, e2⟩ := shift_m (n := n) (by omega)
 refine x_skip ?_
 refine hK2 _ _ ?_
 refine x_seq fun K5 hK5 => x_region ?_
 refine s_go s_move ?_
 try simp only [nY]
 refine s_go s_move ?_
 try simp only [nY]
 refine s_go s_move ?_
 try simp only [nY]
 refine s_go (m_load_row U25 (hi := ti25) (hS := hS) (hfit := by (simp only [ic_size, List.length_map, List.size_toArray]; omega))) ?_
 try simp only [nY, gY]
 refine s_go s_move ?_
 try simp only [nY]
 refine s_go s_max ?_
 try simp only [nY]
 refine s_go (s_neg (hc := by exact wr_i64 (by omega) (by omega))) ?_
 try simp only [nY]
 refine s_call en93 ?_
 try simp only [nY, mY]
 refine CallR.mono (c_countLower _ A c l (hS.hasA) hv hn r hr8 ct hct it h8 hbt (-(max n (-4294967296))) (by omega) (by omega)) ?_
 rintro _ w3 ⟨A3, c3, rfl, hC3⟩
 replace hS := hS.call hC3
 simp only [List.cons_append, List.nil_append] at hS
 try simp only [nY]
 refine s_go (s_extract (hv := rfl)) ?_
 try simp only [gY]
 try simp only [nY]
 refine s_go (s_extract (hv := rfl)) ?_
 try simp only [gY]
 try simp only [nY]
 refine s_go s_assign ?_
 try simp only [nY]
 refine s_go s_assign ?_
 try simp only [nY]
 refine x_nil (hK5 _ _ ?_)
 refine x_ret (r_tmp2 rfl ?_)
 rw [e1, e2]
 exact ⟨_, _, rfl, hS.sel (by repeat (first | exact Sel.nil | (refine Sel.cons (by repeat (exact Del.head)) ?_)))⟩
end Go.Proofs.YtpekghaodmeemaaGreat
set_option linter.unusedSimpArgs false
set_option linter.unusedVariables false
set_option maxHeartbeats 1000000
set_option maxRecDepth 100000
namespace Go.Proofs.YtpekghaodmeemaaGreat
open Go.RowKit

/-- how many of an item a state has -/
def totA (c : Nat) (it : List Int) (a : List Int) : Int := if (kn a 0 = 2 ∨ kn a 0 = 3) ∧ kn a 1 = c ∧ kitem (akey a) = it then (if kn a 0 = 2 then (kn (aval a) 0 : Int) else -(kn (aval a) 0 : Int)) else 0
def totL (s : List (List Int)) (c : Nat) (it : List Int) : Int := (s.map (totA c it)).sum
theorem tot_take {s : List (List Int)} {k : Nat} {x : List Int} {c : Nat} {it : List Int} (hk : k < s.length) (hx : s.getD k [] = x) : totL (s.take (k + 1)) c it = totL (s.take k) c it + totA c it x := by
  rw [take_snoc hk, hx, totL, List.map_append, List.sum_append, totL]; simp
theorem totA_le {a : List Int} {c : Nat} {it : List Int} (ha : AtomOk a) (hr : atomR a = true) : -4294967295 ≤ totA c it a ∧ totA c it a ≤ 4294967295 := by
  unfold totA
  split
  · next h =>
    rw [atomR, Bool.and_eq_true] at hr
    have hv := hr.2
    unfold valR at hv
    rw [if_neg (by omega), if_pos (by omega), Bool.and_eq_true, decide_eq_true_eq] at hv
    split <;> omega
  · omega
theorem tot_le {c : Nat} {it : List Int} : ∀ {s : List (List Int)}, StaR s → -(4294967295 * (s.length : Int)) ≤ totL s c it ∧ totL s c it ≤ 4294967295 * (s.length : Int)
  | [], _ => by simp [totL]
  | a :: s, h => by
    have h1 := tot_le (c := c) (it := it) h.tail
    have h2 := totA_le (c := c) (it := it) (h.ok a (by simp)) (h.right a (by simp))
    have e : totL (a :: s) c it = totA c it a + totL s c it := rfl
    rw [e, List.length_cons]; omega

theorem c_countTotal (w0 : World) (A : Option Addr) (c : Nat) (l : List (List Int)) (hr : Rd w0 A 21 l.length (arows l)) (hv : AOks l) (hn : l.length ≤ 1000000000) (ct : Nat) (hct : ct < 65536) (it : List Int) (h8 : it.length = 8)  :
    CallR Tryz.prog 43 #[.slice A l.length c, .int .u16 (ct : Int), .agg (ic .u8 it)] w0 fun v w' => v = .int .i64 (totL (normP l) ct it) ∧ Ext w0 w' := by
 have hS := St.rd1 (S := NoB) hr
 have hno := (norm_sta hv).ok
 have hkn := (norm_sta hv).knd
 have hnl := arows_len (normP l)
 have hnb := norm_len l
 have hsn := norm_sta hv
 refine y_enter (l := [.slice A l.length c, .int .u16 (ct : Int), .agg (ic .u8 it), undef, undef, undef, undef, undef, undef, undef, undef, undef, undef, undef, undef, undef, undef, undef, undef, undef, undef, undef, undef, undef, undef, undef, undef, undef, undef, undef, undef, undef, undef, undef, undef, undef, undef, undef, undef, undef, undef, undef]) Tryz.func43 rfl (by simp only [Tryz.ntmps43, List.size_toArray, List.length_cons, List.length_nil, Nat.reduceAdd, Nat.reduceSub, Array.replicate_succ, Array.replicate_zero, List.push_toArray, List.append_toArray, List.nil_append, List.cons_append]) ?_
 refine y_seq fun K1 hK1 => ?_
 refine y_region (by kernel_rfl) ?_
 refine m_box hS (fun w1 g1 hS => ?_)
 try simp only [nY, aY] at hS ⊢
 obtain ⟨gc, hgc⟩ : ∃ z, z = g1 := ⟨_, rfl⟩
 rw [← hgc] at hS ⊢
 refine m_box hS (fun w2 g2 hS => ?_)
 try simp only [nY, aY] at hS ⊢
 obtain ⟨gi, hgi⟩ : ∃ z, z = g2 := ⟨_, rfl⟩
 rw [← hgi] at hS ⊢
 refine m_alloc ti3 hS (fun w3 g3 hS => ?_)
 try simp only [nY, aY] at hS ⊢
 obtain ⟨gn, hgn⟩ : ∃ z, z = g3 := ⟨_, rfl⟩
 rw [← hgn] at hS ⊢
 refine y_nilf ?_
 refine hK1 _ _ ?_
 refine y_seq fun K2 hK2 => ?_
 refine y_seq fun K3 hK3 => ?_
 refine y_region (by kernel_rfl) ?_
 refine s_go s_move ?_
 try simp only [nY]
 refine s_call en81 ?_
 try simp only [nY, mY]
 refine CallR.mono (c_latEach A c l _) ?_
 rintro _ w4 ⟨b, rfl, hC4⟩
 replace hS := hS.call hC4
 simp only [List.cons_append, List.nil_append] at hS
 try simp only [nY]
 refine y_nilf ?_
 refine hK3 _ _ ?_
 refine y_block ?_
 refine y_range rfl en103 (i_latEach b A c l hv hn) (fun _ => rfl) hS (by repeat (first | exact Spl.nil | (apply Spl.cons (by repeat (first | exact Del.head | apply Del.tail))))) (fun k L => k ≤ (normP l).length ∧ L = [.obj gn (.cells #[.int .i64 (totL ((normP l).take k) ct it)] 3 (0, 0)), .obj gi (.cells (ic .u8 it) 25 (0, 0)), .obj gc (.cells #[.int .u16 (ct : Int)] 23 (0, 0))]) (fun L => False) [] ?rfh1 ?rfr1 (fun D1 T1 w5 R1 hC hS => ?rfd1) (fun D1 T1 w6 R1 hX hS => ?rft1) ?rfe1
 case rfh1 =>
  exact ⟨Nat.zero_le _, rfl⟩
 case rfr1 =>
  intro k1 w7 R1 T1 lr1 hk1 hC hS
  obtain ⟨hk0, rfl⟩ := hC
  simp only [List.cons_append, List.nil_append] at hS
  simp only [List.toList_toArray, entL, List.zip_cons_cons, List.zip_nil_left, List.foldl_cons, List.foldl_nil, n3, n4]
  obtain ⟨x, hx⟩ : ∃ x, (normP l).getD k1 [] = x := ⟨_, rfl⟩
  have ha : AtomOk x := by rw [← hx]; exact hno.get (by omega)
  have hal := ha.len
  have hk12 := ha.key.len
  have hvx := ha.val
  have hx9 := hvx.len
  simp only [hx]
  have hkx := ha.key
  have hk01 := akey_k hal
  have htk := tot_take (c := ct) (it := it) hk1 hx
  have hb1 := tot_le (c := ct) (it := it) (hsn.sub (List.take_sublist k1 _))
  have hb2 := tot_le (c := ct) (it := it) (hsn.sub (List.take_sublist (k1 + 1) _))
  rw [List.length_take] at hb1 hb2
  have hil := kitem_len hkx.len
  refine y_seq fun K4 hK4 => ?_
  refine y_region (by kernel_rfl) ?_
  refine m_alloc ti61 hS (fun w8 g8 hS => ?_)
  try simp only [nY, aY] at hS ⊢
  have h0l : key0.length = 12 := rfl
  replace hS : St _ _ w8 (.obj g8 (.cells (KA key0) 61 (0, 0)) :: _) := hS
  refine m_store_obj ti61 (hS := hS) (hc := by exact zi_whole (by omega) (by omega)) (hv := by (show (zi _ _).toArray.size = _; rw [zi_size (by omega)]; rfl)) (hfit := by (rw [zi_size (by omega)]; decide)) (h1 := by exact zi_one _ _) (h := fun w9 hS => ?_)
  try simp only [nY, aY] at hS ⊢
  refine y_nilf ?_
  refine hK4 _ _ ?_
  refine y_region (by kernel_rfl) ?_
  refine m_alloc ti64 hS (fun w10 g10 hS => ?_)
  try simp only [nY, aY] at hS ⊢
  have h9l : v9.length = 9 := rfl
  replace hS : St _ _ w10 (.obj g10 (.cells (VA v9) 64 (0, 0)) :: _) := hS
  refine m_store_obj ti64 (hS := hS) (hc := by exact zi_whole (by omega) (by omega)) (hv := by (show (zi _ _).toArray.size = _; rw [zi_size (by omega)]; rfl)) (hfit := by (rw [zi_size (by omega)]; decide)) (h1 := by exact zi_one _ _) (h := fun w11 hS => ?_)
  try simp only [nY, aY] at hS ⊢
  refine y_nilf ?_
  refine round_open hS (by repeat (first | exact App.nil | apply App.cons)) (fun w12 T2 hS => ?_)
  simp only [List.cons_append, List.nil_append] at hS
  refine y_block ?_
  refine y_seq fun K5 hK5 => ?_
  refine y_seq fun K6 hK6 => ?_
  refine y_region (by kernel_rfl) ?_
  refine s_go (m_load_row U61 (hi := ti61) (hS := hS) (hfit := by (rw [zi_size (by omega)]; rfl))) ?_
  try simp only [nY, gY]
  refine s_call en82 ?_
  try simp only [nY, mY]
  refine CallR.mono (c_countHalfB (akey x) hkx _) ?_
  rintro _ w13 ⟨rfl, hE13⟩
  replace hS := hS.ext hE13
  try simp only [nY]
  refine s_go s_not ?_
  try simp only [nY]
  refine s_go s_move ?_
  try simp only [nY]
  refine s_part 17 rfl (fun hp1 => ?_) (fun hp1 => ?_)
  ·
   try simp only [n3, n4]
   try simp only [dZ, ne_eq] at hp1
   have hst : totL ((normP l).take (k1 + 1)) ct it = totL ((normP l).take k1) ct it := by rw [htk, totA, if_neg (fun q => by have h2 : halfB (akey x) = true := decide_eq_true (by rw [hk01.1]; exact q.1); simp [h2] at hp1)]; omega
   refine g_off (yi (t := 17) rfl rfl) ?_
   try simp only [nY]
   refine g_off (yi (t := 17) rfl rfl) ?_
   try simp only [nY]
   refine g_off (yi (t := 17) rfl rfl) ?_
   try simp only [nY]
   refine g_off (yi (t := 17) rfl rfl) ?_
   try simp only [nY]
   refine s_go s_pick_t ?_
   try simp only [nY]
   refine s_go s_move ?_
   try simp only [nY]
   refine g_off (yi (t := 23) rfl rfl) ?_
   try simp only [nY]
   refine g_off (yi (t := 23) rfl rfl) ?_
   try simp only [nY]
   refine g_off (yi (t := 23) rfl rfl) ?_
   try simp only [nY]
   refine g_off (yi (t := 23) rfl rfl) ?_
   try simp only [nY]
   refine s_go s_pick_t ?_
   try simp only [nY]
   refine y_nilf ?_
   refine hK6 _ _ ?_
   refine y_cond_t (h := ?_)
   try have hst : totL ((normP l).take (k1 + 1)) ct it = totL ((normP l).take k1) ct it := by rw [htk, totA, if_neg (fun q => by simp [q.2.2] at @c)]; omega
   refine y_exit (look_here ?_)
   rw [← hst] at hS
   exact ⟨_, ⟨by omega, rfl⟩, hS.sel (by repeat (first | exact Sel.self | (refine Sel.cons (by repeat (first | exact Del.head | apply Del.tail)) ?_) | apply Sel.skip))⟩
  try simp only [n3, n4]
  try simp only [dZ, ne_eq] at hp1
  have hH : kn x 0 = 2 ∨ kn x 0 = 3 := by rw [← hk01.1]; exact of_decide_eq_true (show halfB (akey x) = true by simpa using hp1)
  refine g_on (yi (t := 17) rfl rfl) ?_
  refine s_go (m_fieldAddr U61 (hi := ti23)) ?_
  try simp only [nY, fY, gY]
  refine g_on (yi (t := 17) rfl rfl) ?_
  refine s_go (m_load_obj U23 (hS := hS) (hv := by exact zi_get rfl (by omega))) ?_
  try simp only [nY, gY]
  rw [hkx.e1, hk01.2]
  refine g_on (yi (t := 17) rfl rfl) ?_
  refine s_go (m_load_obj U23 (hS := hS) (hv := by rfl)) ?_
  try simp only [nY, gY]
  refine g_on (yi (t := 17) rfl rfl) ?_
  refine s_go s_neq ?_
  try simp only [nY]
  refine s_go s_pick_f ?_
  try simp only [nY]
  refine s_go s_move ?_
  try simp only [nY]
  refine s_part 23 rfl (fun hp2 => ?_) (fun hp2 => ?_)
  ·
   try simp only [n3, n4]
   try simp only [dZ, ne_eq] at hp2
   try have hst : totL ((normP l).take (k1 + 1)) ct it = totL ((normP l).take k1) ct it := by rw [htk, totA, if_neg (fun q => by omega)]; omega
   refine g_off (yi (t := 23) rfl rfl) ?_
   try simp only [nY]
   refine g_off (yi (t := 23) rfl rfl) ?_
   try simp only [nY]
   refine g_off (yi (t := 23) rfl rfl) ?_
   try simp only [nY]
   refine g_off (yi (t := 23) rfl rfl) ?_
   try simp only [nY]
   refine s_go s_pick_t ?_
   try simp only [nY]
   refine y_nilf ?_
   refine hK6 _ _ ?_
   refine y_cond_t (h := ?_)
   try have hst : totL ((normP l).take (k1 + 1)) ct it = totL ((normP l).take k1) ct it := by rw [htk, totA, if_neg (fun q => by simp [q.2.2] at @c)]; omega
   refine y_exit (look_here ?_)
   rw [← hst] at hS
   exact ⟨_, ⟨by omega, rfl⟩, hS.sel (by repeat (first | exact Sel.self | (refine Sel.cons (by repeat (first | exact Del.head | apply Del.tail)) ?_) | apply Sel.skip))⟩
  try simp only [n3, n4]
  try simp only [dZ, ne_eq] at hp2
  have hC : kn x 1 = ct := by omega
  refine g_on (yi (t := 23) rfl rfl) ?_
  refine s_go (m_fieldAddr U61 (hi := ti25)) ?_
  try simp only [nY, fY, gY]
  refine g_on (yi (t := 23) rfl rfl) ?_
  refine s_go (m_loada_obj U25 (hi := ti25) (hS := hS) (hfit := by (rw [zi_size (by omega)]; decide))) ?_
  try simp only [nY, gY]
  rw [key_item hkx.len]
  refine g_on (yi (t := 23) rfl rfl) ?_
  refine s_go (m_load_row U25 (hi := ti25) (hS := hS) (hfit := by (simp only [ic_size, List.length_map, List.size_toArray]; omega))) ?_
  try simp only [nY, gY]
  refine g_on (yi (t := 23) rfl rfl) ?_
  refine s_go (s_neq_agg eqv25 (hg := eg25) (hX := zi_ic (by assumption)) (hY := zi_ic (by assumption)) (h1 := by assumption) (h2 := by assumption)) ?_
  try simp only [nY]
  refine s_go s_pick_f ?_
  try simp only [nY]
  refine y_nilf ?_
  refine hK6 _ _ ?_
  refine y_cond (ht := fun hc3 => ?_) (hf := fun hc3 => ?_)
  ·
   try simp only [dY] at hc3
   try have hst : totL ((normP l).take (k1 + 1)) ct it = totL ((normP l).take k1) ct it := by rw [htk, totA, if_neg (fun q => by simp [q.2.2] at hc3)]; omega
   refine y_exit (look_here ?_)
   rw [← hst] at hS
   exact ⟨_, ⟨by omega, rfl⟩, hS.sel (by repeat (first | exact Sel.self | (refine Sel.cons (by repeat (first | exact Del.head | apply Del.tail)) ?_) | apply Sel.skip))⟩
  try simp only [dY] at hc3
  have hI : kitem (akey x) = it := by simpa using hc3
  have hv0 := totA_le (c := ct) (it := it) ha (by exact hsn.right x (by rw [← hx]; exact getD_mem' hk1))
  refine y_skip ?_
  refine hK5 _ _ ?_
  refine y_seq fun K7 hK7 => ?_
  refine y_region (by kernel_rfl) ?_
  refine s_go (m_fieldAddr U64 (hi := ti62)) ?_
  try simp only [nY, fY, gY]
  refine s_go (m_load_obj U62 (hS := hS) (hv := by exact zi_get rfl (by omega))) ?_
  try simp only [nY, gY]
  rw [hvx.e0]
  refine s_go (s_conv U62 U3 (hc := cv_i64 (by rw [totA, if_pos ⟨hH, hC, hI⟩] at hv0; split at hv0 <;> omega))) ?_
  try simp only [nY]
  refine s_go s_assign ?_
  try simp only [nY]
  refine y_nilf ?_
  refine hK7 _ _ ?_
  refine y_seq fun K8 hK8 => ?_
  refine y_region (by kernel_rfl) ?_
  refine s_go (m_fieldAddr U61 (hi := ti5)) ?_
  try simp only [nY, fY, gY]
  refine s_go (m_load_obj U5 (hS := hS) (hv := by exact zi_get rfl (by omega))) ?_
  try simp only [nY, gY]
  rw [hkx.e0, hk01.1]
  refine s_go s_eql ?_
  try simp only [nY]
  refine y_nilf ?_
  refine hK8 _ _ ?_
  refine y_cond (ht := fun hc4 => ?_) (hf := fun hc4 => ?_)
  ·
   try simp only [dY] at hc4
   have hst : totL ((normP l).take (k1 + 1)) ct it = totL ((normP l).take k1) ct it + (kn (aval x) 0 : Int) := by rw [htk, totA, if_pos ⟨hH, hC, hI⟩, if_pos (by omega)]
   refine y_region (by kernel_rfl) ?_
   refine s_go (m_load_obj U3 (hS := hS) (hv := by rfl)) ?_
   try simp only [nY, gY]
   refine s_go s_move ?_
   try simp only [nY]
   refine s_go (s_add (hc := by exact wr_i64 (by omega) (by omega))) ?_
   try simp only [nY]
   refine m_store_obj ti3 (hS := hS) (hc := by (exact splice_whole (by (simp [opv, Value.cells, *]; done)))) (hv := by rfl) (hfit := by (simp [*]; done)) (h1 := by simp [opv, Value.cells, Value.oneCell']) (h := fun w14 hS => ?_)
   try simp only [nY, aY] at hS ⊢
   refine y_nilf ?_
   rw [← hst] at hS
   exact ⟨_, ⟨by omega, rfl⟩, hS.sel (by repeat (first | exact Sel.self | (refine Sel.cons (by repeat (first | exact Del.head | apply Del.tail)) ?_) | apply Sel.skip))⟩
  try simp only [dY] at hc4
  have hst : totL ((normP l).take (k1 + 1)) ct it = totL ((normP l).take k1) ct it - (kn (aval x) 0 : Int) := by rw [htk, totA, if_pos ⟨hH, hC, hI⟩, if_neg (by omega)]; omega
  refine y_region (by kernel_rfl) ?_
  refine s_go (m_load_obj U3 (hS := hS) (hv := by rfl)) ?_
  try simp only [nY, gY]
  refine s_go s_move ?_
  try simp only [nY]
  refine s_go (s_sub (hc := by exact wr_i64 (by omega) (by omega))) ?_
  try simp only [nY]
  refine m_store_obj ti3 (hS := hS) (hc := by (exact splice_whole (by (simp [opv, Value.cells, *]; done)))) (hv := by rfl) (hfit := by (simp [*]; done)) (h1 := by simp [opv, Value.cells, Value.oneCell']) (h := fun w15 hS => ?_)
  try simp only [nY, aY] at hS ⊢
  refine y_nilf ?_
  rw [← hst] at hS
  exact ⟨_, ⟨by omega, rfl⟩, hS.sel (by repeat (first | exact Sel.self | (refine Sel.cons (by repeat (first | exact Del.head | apply Del.tail)) ?_) | apply Sel.skip))⟩
 case rfd1 =>
  obtain ⟨hk0, rfl⟩ := hC
  simp only [List.cons_append, List.nil_append] at hS
  refine hK2 _ _ ?_
  refine y_seq fun K9 hK9 => ?_
  refine y_region (by kernel_rfl) ?_
  refine s_go (m_load_obj U3 (hS := hS) (hv := by rfl)) ?_
  try simp only [nY, gY]
  refine m_store_obj ti3 (hS := hS) (hc := by (exact splice_whole (by (simp [opv, Value.cells, *]; done)))) (hv := by rfl) (hfit := by (simp [*]; done)) (h1 := by simp [opv, Value.cells, Value.oneCell']) (h := fun w16 hS => ?_)
  try simp only [nY, aY] at hS ⊢
  refine y_nilf ?_
  refine hK9 _ _ ?_
  refine y_ret ?_
  refine rm_mark hS (by repeat (exact Upd.head)) (fun w17 hS => ?_)
  refine rm_nil ?_
  refine r_cell_one rfl U3 (hS := hS) (hR := ?_)
  rw [List.take_of_length_le (Nat.le_refl _)] at hS ⊢
  exact ⟨rfl, hS.ext_of⟩
 case rft1 =>
  exact hX.elim
 case rfe1 =>
  exact y_ex_nil

def cup8 : List Int := [99, 117, 112, 0, 0, 0, 0, 0]
theorem cup8_byt : Byt cup8 := by unfold Byt; decide
theorem ct2 : turnE [] 2 0 1 cup8 3 = 0 := by decide +kernel
end Go.Proofs.YtpekghaodmeemaaGreat
set_option linter.unusedSimpArgs false
set_option linter.unusedVariables false
set_option maxHeartbeats 2000000
set_option maxRecDepth 100000
namespace Go.Proofs.YtpekghaodmeemaaGreat
open Go.RowKit

theorem aok_one {a : List Int} (h : AtomOk a) : AOks [a] := fun b hb => by rw [List.mem_singleton] at hb; rw [hb]; exact h
end Go.Proofs.YtpekghaodmeemaaGreat
set_option linter.unusedSimpArgs false
set_option linter.unusedVariables false
namespace Go.Proofs.YtpekghaodmeemaaGreat
theorem getD_set_z {l : List Int} {i : Nat} (h : i < l.length) (v : Int) (j : Nat) : (l.set i v).getD j 0 = if i = j then v else l.getD j 0 := by
  rw [List.getD_eq_getElem?_getD, List.getElem?_set]
  by_cases e : i = j
  · subst e; simp [h]
  · rw [if_neg e, if_neg e, List.getD_eq_getElem?_getD]
end Go.Proofs.YtpekghaodmeemaaGreat
set_option linter.unusedSimpArgs false
set_option linter.unusedVariables false
set_option maxHeartbeats 1000000
set_option maxRecDepth 100000
namespace Go.Proofs.YtpekghaodmeemaaGreat
open Go.RowKit

def KQ (c : Nat) (it k : List Int) : Prop := kn k 0 = 1 ∧ kn k 1 = c ∧ kitem k = it
instance (c : Nat) (it k : List Int) : Decidable (KQ c it k) := inferInstanceAs (Decidable (_ ∧ _ ∧ _))
theorem tagQ_iff {a : List Int} (h : a.length = 21) (c n : Nat) (it : List Int) : tagQ c it n a = true ↔ KQ c it (akey a) ∧ (n = 0 ∨ kn (aval a) 0 = n) := by
  have h1 := akey_k h
  unfold tagQ KQ
  rw [h1.1, h1.2]
  simp [and_assoc]
theorem tag_fnd {s : List (List Int)} (h : StaR s) (c n : Nat) (it k : List Int) : (∃ a ∈ tagS s c it n, akey a = k) ↔ KQ c it k ∧ ∃ v, fnd k s = some v ∧ (n = 0 ∨ kn v 0 = n) := by
  constructor
  · rintro ⟨a, ha, rfl⟩
    obtain ⟨h1, h2⟩ := List.mem_filter.1 ha
    obtain ⟨h3, h4⟩ := (tagQ_iff (h.ok a h1).len c n it).1 h2
    exact ⟨h3, _, (mem_fnd h.knd).2 h1, h4⟩
  · rintro ⟨h1, v, h2, h3⟩
    obtain ⟨a, ha, rfl, rfl⟩ := fnd_mem h2
    exact ⟨a, List.mem_filter.2 ⟨ha, (tagQ_iff (h.ok a ha).len c n it).2 ⟨h1, h3⟩⟩, rfl⟩
theorem kn_rank {v : List Int} (h : ValOk v) : kn v 0 = rankV v / 18446744073709551616 := by
  have := rank_lt h
  unfold rankV; omega
theorem tag_val {a : List Int} (ha : AtomOk a) (hr : atomR a = true) (h1 : kn (akey a) 0 = 1) : kn (aval a) 0 = 1 ∨ kn (aval a) 0 = 2 := by
  rw [atomR, Bool.and_eq_true] at hr
  have h2 := hr.2
  rw [valR, if_pos ((akey_k ha.len).1 ▸ h1), Bool.and_eq_true, decide_eq_true_eq] at h2
  exact h2.2
theorem akey_drop {a : List Int} (h : AtomOk a) : akey (dropA a) = akey a := akey_kv h.key.len
theorem aval_drop {a : List Int} (h : AtomOk a) : aval (dropA a) = mkV 2 nm0 := aval_kv h.key.len
theorem right_drop {a : List Int} (ha : AtomOk a) (hr : atomR a = true) (h1 : kn (akey a) 0 = 1) : atomR (dropA a) = true := by
  have h2 := (akey_k (dropA_ok ha).len).1
  rw [akey_drop ha, h1] at h2
  rw [atomR, Bool.and_eq_true] at hr ⊢
  rw [akey_drop ha, aval_drop ha, ← h2]
  exact ⟨hr.1, by decide⟩
theorem drp_sta {s : List (List Int)} (h : StaR s) (c : Nat) (it : List Int) : StaR (drpS s c it) := by
  refine ⟨fun b hb => ?_, fun b hb => ?_, ?_⟩
  · obtain ⟨a, ha, rfl⟩ := List.mem_map.1 hb
    exact dropA_ok (h.ok a (List.mem_filter.1 ha).1)
  · obtain ⟨a, ha, rfl⟩ := List.mem_map.1 hb
    obtain ⟨h1, h2⟩ := List.mem_filter.1 ha
    exact right_drop (h.ok a h1) (h.right a h1) ((tagQ_iff (h.ok a h1).len c 1 it).1 h2).1.1
  · refine List.pairwise_map.2 ?_
    have hp : (tagS s c it 1).Pairwise fun a b => rankK (akey a) < rankK (akey b) := h.sorted.sublist List.filter_sublist
    refine hp.imp_of_mem fun {a b} ha hb hab => ?_
    rw [akey_drop (h.ok a (List.mem_filter.1 ha).1), akey_drop (h.ok b (List.mem_filter.1 hb).1)]; exact hab
theorem fnd_drp {s : List (List Int)} (h : StaR s) (c : Nat) (it k : List Int) : (KQ c it k → (∃ v, fnd k s = some v ∧ kn v 0 = 1) → fnd k (drpS s c it) = some (mkV 2 nm0)) ∧ (fnd k (drpS s c it) = none ∨ (KQ c it k ∧ ∃ v, fnd k s = some v)) := by
  have hd := drp_sta h c it
  refine ⟨fun h1 ⟨v, h2, h3⟩ => ?_, ?_⟩
  · obtain ⟨a, ha, rfl⟩ := (tag_fnd h c 1 it k).2 ⟨h1, v, h2, .inr h3⟩
    have hao := h.ok a (List.mem_filter.1 ha).1
    have := (mem_fnd hd.knd (a := dropA a)).2 (List.mem_map.2 ⟨a, ha, rfl⟩)
    rw [akey_drop hao, aval_drop hao] at this; exact this
  · cases hf : fnd k (drpS s c it) with
    | none => exact .inl rfl
    | some w =>
      obtain ⟨b, hb, rfl, _⟩ := fnd_mem hf
      obtain ⟨a, ha, rfl⟩ := List.mem_map.1 hb
      have hao := h.ok a (List.mem_filter.1 ha).1
      rw [akey_drop hao]
      obtain ⟨h1, v, h2, _⟩ := (tag_fnd h c 1 it (akey a)).1 ⟨a, ha, rfl⟩
      exact .inr ⟨h1, v, h2⟩
section
variable {l : List (List Int)} (hv : AOks l) (c : Nat) (it : List Int)
theorem drp_ok' (hv : AOks l) (c : Nat) (it : List Int) : AOks (drpS (normP l) c it) := (drp_sta (norm_sta hv) c it).ok
theorem gone_rnk (hv : AOks l) (c : Nat) (it k : List Int) : rnk (fnd k (normP (l ++ drpS (normP l) c it))) = max (rnk (fnd k (normP l))) (rnk (fnd k (drpS (normP l) c it))) := by
  rw [val_join hv (drp_ok' hv c it), norm_id (drp_sta (norm_sta hv) c it)]
theorem gone_ok (hv : AOks l) (c : Nat) (it : List Int) : AOks (l ++ drpS (normP l) c it) := hv.app (drp_ok' hv c it)
theorem gone_none (hv : AOks l) (c : Nat) (it k : List Int) (h : fnd k (normP l) = none) : fnd k (normP (l ++ drpS (normP l) c it)) = none := by
  refine okO_inj (fnd_okO (norm_sta (gone_ok hv c it)).ok k) noneOk ?_
  rw [gone_rnk hv, h]
  rcases (fnd_drp (norm_sta hv) c it k).2 with h1 | ⟨_, v, h1⟩
  · rw [h1]; simp [rnk]
  · rw [h1] at h; cases h
theorem gone_two (hv : AOks l) (c : Nat) (it k : List Int) (h : KQ c it k) {v : List Int} (hf : fnd k (normP l) = some v) : 36893488147419103233 ≤ rnk (fnd k (normP (l ++ drpS (normP l) c it))) := by
  have hs := norm_sta hv
  rw [gone_rnk hv]
  obtain ⟨a, ha, rfl, rfl⟩ := fnd_mem hf
  rcases tag_val (hs.ok a ha) (hs.right a ha) h.1 with h1 | h1
  · rw [(fnd_drp hs c it (akey a)).1 h ⟨_, hf, h1⟩]
    have h2 : rnk (some (mkV 2 nm0)) = 36893488147419103233 := by decide +kernel
    omega
  · have h2 := kn_rank (hs.ok a ha).val
    rw [hf]
    have h3 : rnk (some (aval a)) = rankV (aval a) + 1 := rfl
    omega
theorem rnk_one {v : List Int} (h : ValOk v) (h1 : kn v 0 = 1) : rnk (some v) ≤ 36893488147419103232 := by
  have h2 := kn_rank h
  have h3 : rnk (some v) = rankV v + 1 := rfl
  omega
/-- nothing is left of what is dropped -/
theorem win_gone (hv : AOks l) (c : Nat) (it : List Int) : tagS (normP (normP (l ++ drpS (normP l) c it))) c it 1 = [] := by
  rw [norm_norm (gone_ok hv c it)]
  have hs := norm_sta (gone_ok hv c it)
  refine List.filter_eq_nil_iff.2 fun a ha hq => ?_
  obtain ⟨h1, h2⟩ := (tagQ_iff (hs.ok a ha).len c 1 it).1 hq
  have h3 := (mem_fnd hs.knd).2 ha
  cases hf : fnd (akey a) (normP l) with
  | none => rw [gone_none hv c it _ hf] at h3; cases h3
  | some v =>
    have h4 := gone_two hv c it _ h1 hf
    rw [h3] at h4
    have h5 := rnk_one (hs.ok a ha).val (h2.resolve_left (by decide))
    omega
end
def liveQ (c : Nat) (a : List Int) : Bool := decide (kn a 0 = 1) && decide (kn a 1 = c) && decide (kn (aval a) 0 = 1)
def ded (ns : List (List Int)) : List (List Int) := ns.foldl (fun o x => if x ∈ o then o else o ++ [x]) []
theorem ded_from (y : List Int) : ∀ (ns o : List (List Int)), y ∈ ns.foldl (fun o x => if x ∈ o then o else o ++ [x]) o ↔ y ∈ o ∨ y ∈ ns
  | [], o => by simp
  | x :: ns, o => by
    rw [List.foldl_cons, ded_from y ns]
    by_cases h : x ∈ o
    · rw [if_pos h, List.mem_cons]
      constructor
      · rintro (h1 | h1)
        · exact .inl h1
        · exact .inr (.inr h1)
      · rintro (h1 | rfl | h1)
        · exact .inl h1
        · exact .inl h
        · exact .inr h1
    · rw [if_neg h, List.mem_append, List.mem_singleton, List.mem_cons, or_assoc]
theorem mem_ded {ns : List (List Int)} {y : List Int} : y ∈ ded ns ↔ y ∈ ns := by rw [ded, ded_from]; simp
theorem ded_snoc (ns : List (List Int)) (x : List Int) : ded (ns ++ [x]) = if x ∈ ns then ded ns else ded ns ++ [x] := by
  have := mem_ded (ns := ns) (y := x)
  rw [ded, List.foldl_append]
  show (if x ∈ ded ns then ded ns else ded ns ++ [x]) = _
  by_cases h : x ∈ ns
  · rw [if_pos h, if_pos (this.2 h)]
  · rw [if_neg h, if_neg fun q => h (this.1 q)]
theorem ded_len : ∀ (ns : List (List Int)), (ded ns).length ≤ ns.length := by
  have key : ∀ (ns o : List (List Int)), (ns.foldl (fun o x => if x ∈ o then o else o ++ [x]) o).length ≤ o.length + ns.length := by
    intro ns
    induction ns with
    | nil => intro o; simp
    | cons x ns ih =>
      intro o
      rw [List.foldl_cons, List.length_cons]
      refine Nat.le_trans (ih _) ?_
      split
      · omega
      · simp; omega
  intro ns
  have := key ns []
  simpa [ded] using this
def nmsS (s : List (List Int)) (c : Nat) : List (List Int) := (s.filter (liveQ c)).map fun a => kitem (akey a)
def itmS (s : List (List Int)) (c : Nat) : List (List Int) := ded (nmsS s c)
theorem nms_take {s : List (List Int)} {c : Nat} {k : Nat} {x : List Int} (hk : k < s.length) (hx : s.getD k [] = x) : (liveQ c x = true → nmsS (s.take (k + 1)) c = nmsS (s.take k) c ++ [kitem (akey x)]) ∧ (liveQ c x = false → nmsS (s.take (k + 1)) c = nmsS (s.take k) c) := by
  rw [take_snoc hk, hx, nmsS, List.filter_append, List.map_append]
  refine ⟨fun h => ?_, fun h => ?_⟩
  · rw [List.filter_cons_of_pos h]; rfl
  · rw [List.filter_cons_of_neg (by rw [h]; decide)]; simp [nmsS]
theorem nms_len (s : List (List Int)) (c : Nat) : (nmsS s c).length ≤ s.length := by rw [nmsS, List.length_map]; exact List.length_filter_le _ _
theorem nms_eight {s : List (List Int)} (h : AOks s) (c : Nat) : ∀ x ∈ nmsS s c, x.length = 8 := fun x hx => by
  obtain ⟨a, ha, rfl⟩ := List.mem_map.1 hx
  exact kitem_len (h a (List.mem_filter.1 ha).1).key.len
theorem live_key {a : List Int} (h : AtomOk a) (c : Nat) : liveQ c a = (decide (kn (akey a) 0 = 1) && (decide (kn (akey a) 1 = c) && decide (kn (aval a) 0 = 1))) := by
  have h1 := akey_k h.len
  rw [liveQ, h1.1, h1.2, Bool.and_assoc]
/-- rows of one cart leave the items of others -/
theorem itm_other {l r : List (List Int)} (hv : AOks l) (hr : AOks r) {c c' : Nat} (hc : ¬ c = c') (h : ∀ a ∈ r, kn (akey a) 1 = c) : itmS (normP (normP (l ++ r))) c' = itmS (normP l) c' := by
  rw [norm_norm (hv.app hr)]
  have h1 := norm_sta (hv.app hr)
  have h2 := norm_sta hv
  have e : (normP (l ++ r)).filter (liveQ c') = (normP l).filter (liveQ c') := by
    refine sta_ext (h1.sub List.filter_sublist) (h2.sub List.filter_sublist) fun a => ?_
    rw [List.mem_filter, List.mem_filter]
    have key : a.length = 21 → liveQ c' a = true → fnd (akey a) (normP (l ++ r)) = fnd (akey a) (normP l) := fun hl hq => by
      refine okO_inj (fnd_okO h1.ok _) (fnd_okO h2.ok _) ?_
      have hn : fnd (akey a) (normP r) = none := by
        rw [fnd_norm hr]
        have : ∀ (r : List (List Int)) , (∀ b ∈ r, ¬ akey b = akey a) → ∀ o, r.foldl (lkF (akey a)) o = o := by
          intro r
          induction r with
          | nil => intro _ o; rfl
          | cons b r ih =>
            intro h o
            rw [List.foldl_cons, lkF, if_neg fun q => h b (by simp) q.2]
            exact ih (fun x hx => h x (by simp [hx])) o
        refine this r (fun b hb e => ?_) none
        have h3 := h b hb
        unfold liveQ at hq
        simp only [Bool.and_eq_true, decide_eq_true_eq] at hq
        have h4 := (akey_k hl).2
        rw [e, h4] at h3
        omega
      rw [val_join hv hr, hn]; simp [rnk]
    constructor
    · rintro ⟨ha, hq⟩
      refine ⟨(mem_fnd h2.knd).1 ?_, hq⟩
      rw [← key (h1.ok a ha).len hq]; exact (mem_fnd h1.knd).2 ha
    · rintro ⟨ha, hq⟩
      refine ⟨(mem_fnd h1.knd).1 ?_, hq⟩
      rw [key (h2.ok a ha).len hq]; exact (mem_fnd h2.knd).2 ha
  rw [itmS, itmS, nmsS, nmsS, e]
theorem drp_cart {s : List (List Int)} (h : StaR s) (c : Nat) (it : List Int) : ∀ a ∈ drpS s c it, kn (akey a) 1 = c := fun b hb => by
  obtain ⟨a, ha, rfl⟩ := List.mem_map.1 hb
  obtain ⟨h1, h2⟩ := List.mem_filter.1 ha
  rw [akey_drop (h.ok a h1)]
  exact ((tagQ_iff (h.ok a h1).len c 1 it).1 h2).1.2.1
theorem ofV_mono : ∀ {s : List (List Int)} {v : List Int}, AOks s → (∀ a ∈ s, atomR a = true) → VOk v → (∀ i : Nat, v.getD i 0 ≤ (s.foldl ofStep v).getD i 0) ∧ ∀ a ∈ s, kn a 0 = 1 → (kn a 11 : Int) ≤ (s.foldl ofStep v).getD (kn a 10) 0
  | [], v, _, _, _ => ⟨fun i => Int.le_refl _, fun a h => by cases h⟩
  | a :: s, v, hs, hr, h => by
    have ha := hs a (by simp)
    have hst := h.step ha
    obtain ⟨h1, h2⟩ := ofV_mono (s := s) (v := ofStep v a) (fun b hb => hs b (by simp [hb])) (fun b hb => hr b (by simp [hb])) hst
    have hvl := h.len
    have key : ∀ i : Nat, v.getD i 0 ≤ (ofStep v a).getD i 0 := fun i => by
      unfold ofStep
      split
      · rename_i e
        have h16 := right_rep (hr a (by simp)) ha e
        rw [getD_set_z (by omega)]
        split
        · next e2 => subst e2; exact Int.le_max_left _ _
        · exact Int.le_refl _
      · exact Int.le_refl _
    refine ⟨fun i => Int.le_trans (key i) (h1 i), fun b hb hb1 => ?_⟩
    rcases List.mem_cons.1 hb with rfl | hb
    · refine Int.le_trans ?_ (h1 _)
      have h16 := right_rep (hr b (by simp)) ha hb1
      rw [ofStep, if_pos hb1, getD_set_z (by omega), if_pos rfl]; exact Int.le_max_right _ _
    · exact h2 b hb hb1
section
variable {l : List (List Int)} {r c : Nat} {it : List Int}
theorem add_key (h8 : it.length = 8) : akey (addA l r c it) = mkKey 1 c it r (nextN l r).toNat := akey_kv (mkKey_len h8)
theorem add_val (h8 : it.length = 8) : aval (addA l r c it) = mkV 1 nm0 := aval_kv (mkKey_len h8)
theorem addE_0 (h : addE l r it = 0) : r < 16 ∧ nright it = true ∧ nextN l r = (ofV (normP l)).getD r 0 + 1 := by
  unfold addE at h
  split at h
  · cases h
  · next q =>
    refine ⟨by omega, ?_, by rw [nextN, if_pos h]⟩
    cases e : nright it
    · exact absurd (.inr e) q
    · rfl
theorem add_right (hv : AOks l) (hr : r < 256) (hc : c < 65536) (h8 : it.length = 8) (hb : Byt it) (h : addE l r it = 0) : atomR (addA l r c it) = true := by
  obtain ⟨h1, h2, h3⟩ := addE_0 h
  have hok := addA_ok (c := c) hv hr hc h8 hb
  have h4 := (akey_k hok.len).1
  have h5 := (ofV_ok (norm_sta hv).ok VOk.zero).nat r
  have h6 : 0 ≤ (ofV (normP l)).getD r 0 := h5.1
  rw [add_key h8, mk_0] at h4
  rw [atomR, Bool.and_eq_true, add_key h8, add_val h8, ← h4]
  refine ⟨?_, by decide⟩
  rw [keyR, if_neg (by rw [mk_0]; decide), if_pos mk_0, mk_11 h8, mk_item h8, mk_10 h8, h2, decide_eq_true (show (nextN l r).toNat ≠ 0 by omega), decide_eq_true h1]; rfl
theorem add_new (hv : AOks l) (h8 : it.length = 8) (h : addE l r it = 0) : fnd (akey (addA l r c it)) (normP l) = none := by
  obtain ⟨h1, h2, h3⟩ := addE_0 h
  have hs := norm_sta hv
  cases hf : fnd (akey (addA l r c it)) (normP l) with
  | none => rfl
  | some v =>
    exfalso
    obtain ⟨a, ha, hk, _⟩ := fnd_mem hf
    rw [add_key h8] at hk
    have hl := (hs.ok a ha).len
    have e0 := (akey_k hl).1
    have e1 := akey_kk hl
    rw [hk, mk_0] at e0
    rw [hk, mk_10 h8, mk_11 h8] at e1
    have h4 := (ofV_mono hs.ok hs.right VOk.zero).2 a ha e0.symm
    rw [← e1.1, ← e1.2] at h4
    have h5 := ((ofV_ok hs.ok VOk.zero).nat r).1
    have h6 : (normP l).foldl ofStep (List.replicate 16 0) = ofV (normP l) := rfl
    rw [h6] at h4 h5
    omega
theorem addP_ok (hv : AOks l) (hr : r < 256) (hc : c < 65536) (h8 : it.length = 8) (hb : Byt it) : AOks (addP l r c it) := by
  unfold addP; split
  · exact aok_one (addA_ok hv hr hc h8 hb)
  · exact AOks.nil
theorem addP_cart (h8 : it.length = 8) : ∀ a ∈ addP l r c it, kn (akey a) 1 = c := fun a ha => by
  unfold addP at ha
  split at ha
  · rw [List.mem_singleton] at ha; rw [ha, add_key h8, mk_1]
  · cases ha
/-- what is added is present -/
theorem win_add {m : List (List Int)} (hv : AOks l) (hm : AOks m) (hr : r < 256) (hc : c < 65536) (h8 : it.length = 8) (hb : Byt it) (h : addE l r it = 0) (hn : fnd (akey (addA l r c it)) (normP m) = none) :
    decide (0 < (((tagS (normP (normP (normP (l ++ [addA l r c it]) ++ m))) c it 1).map akey).length : Int)) = true := by
  have hok := addA_ok (c := c) hv hr hc h8 hb
  have h1 := hv.app (aok_one hok)
  have h2 := (norm_sta h1).ok
  rw [norm_norm (h2.app hm)]
  have hj := norm_sta (h2.app hm)
  have hrt := add_right hv hr hc h8 hb h
  have hone : fnd (akey (addA l r c it)) (normP [addA l r c it]) = some (mkV 1 nm0) := by
    rw [fnd_norm (aok_one hok)]
    show lkF _ none _ = _
    rw [lkF, if_pos ⟨hrt, rfl⟩, add_val h8]; rfl
  have hf : fnd (akey (addA l r c it)) (normP (normP (l ++ [addA l r c it]) ++ m)) = some (mkV 1 nm0) := by
    refine okO_inj (fnd_okO hj.ok _) (someOk ⟨rfl, by decide, by decide, nm0_byt⟩) ?_
    rw [val_join h2 hm, norm_norm h1, val_join hv (aok_one hok), hn, hone, add_new hv h8 h]; simp [rnk]
  obtain ⟨a, ha, _⟩ := (tag_fnd hj c 1 it (akey (addA l r c it))).2 ⟨by rw [add_key h8]; exact ⟨mk_0, mk_1, mk_item h8⟩, _, hf, .inr (by decide)⟩
  have := List.length_pos_of_mem ha
  rw [List.length_map]
  exact decide_eq_true (by omega)
end
end Go.Proofs.YtpekghaodmeemaaGreat
set_option linter.unusedSimpArgs false
set_option linter.unusedVariables false
set_option maxHeartbeats 2000000
set_option maxRecDepth 100000
namespace Go.Proofs.YtpekghaodmeemaaGreat
open Go.RowKit

abbrev nrows (l : List (List Int)) : List Value := rowsZ (List.replicate 8 IntKind.u8) l
theorem nrow_get {l : List (List Int)} {k : Nat} (hk : k < l.length) (hv : ∀ x ∈ l, x.length = 8) : (((nrows l).drop (k * 8)).take 8).toArray = ic .u8 (l.getD k []) := by
  have h := hv _ (getD_mem' (d := []) hk)
  have := rowsZ_get (ks := (List.replicate 8 IntKind.u8)) hk (by simpa using h)
  simp only [List.length_replicate] at this
  rw [this, zi_ic h]
theorem nrows_len (l : List (List Int)) : (nrows l).length = l.length * 8 := rowsZ_len _ _
theorem nrow_one {x : List Int} (h : x.length = 8) : (ic .u8 x).toList = nrows [x] := by
  show (ic .u8 x).toList = rowsZ (List.replicate 8 IntKind.u8) [x]
  rw [rowsZ_one, ← padL_ic h]
theorem nadd_one {o : List (List Int)} {y : List Int} : nrows o ++ nrows [y] = nrows (o ++ [y]) := (rowsZ_app _ _ _).symm
def hereQ (c : Nat) (k v : List Int) : Bool := decide (kn k 1 = c) && decide (kn v 0 = 1)
theorem live_here {a : List Int} (h : AtomOk a) (c : Nat) : liveQ c a = (decide (kn a 0 = 1) && hereQ c (akey a) (aval a)) := by
  rw [live_key h, (akey_k h.len).1]; rfl
theorem cnt_snoc (ns : List (List Int)) (x : List Int) : cntR (ns ++ [x]).reverse = mput x (.int .i64 ((ns.count x : Int) + 1)) (cntR ns.reverse) := by
  rw [List.reverse_append, ← List.count_reverse (l := ns)]; rfl
theorem c_itemsHere (w0 : World) (gc ct : Nat) (x y : List Int) (hx : KeyOk x) (hy : ValOk y) (hM : St (OwnB [.obj gc (.cells #[.int .u16 (ct : Int)] 23 (0, 0))]) w0 w0 [.obj gc (.cells #[.int .u16 (ct : Int)] 23 (0, 0))])  :
    CallR Tryz.prog 96 #[.agg (KA x), .agg (VA y), .pointer (some ⟨gc, 0, none⟩)] w0 fun v w' => v = .bool (hereQ ct x y) ∧ St (OwnB [.obj gc (.cells #[.int .u16 (ct : Int)] 23 (0, 0))]) w0 w' [.obj gc (.cells #[.int .u16 (ct : Int)] 23 (0, 0))] := by
 have hS := hM
 have hxl := hx.len
 have hyl := hy.len
 refine c_enter (l := [.agg (KA x), .agg (VA y), .pointer (some ⟨gc, 0, none⟩), undef, undef, undef, undef, undef, undef, undef, undef, undef, undef, undef, undef]) Tryz.func96 rfl (by simp only [Tryz.ntmps96, List.size_toArray, List.length_cons, List.length_nil, Nat.reduceAdd, Nat.reduceSub, Array.replicate_succ, Array.replicate_zero, List.push_toArray, List.append_toArray, List.nil_append, List.cons_append]) ?_
 refine x_seq fun K1 hK1 => x_region ?_
 refine m_box hS (fun w1 g1 hS => ?_)
 try simp only [nY, aY] at hS ⊢
 refine m_box hS (fun w2 g2 hS => ?_)
 try simp only [nY, aY] at hS ⊢
 refine s_go s_assign ?_
 try simp only [nY]
 refine x_nil (hK1 _ _ ?_)
 refine x_seq fun K2 hK2 => x_region ?_
 refine s_go (m_fieldAddr U61 (hi := ti23)) ?_
 try simp only [nY, fY, gY]
 refine s_go (m_load_obj U23 (hS := hS) (hv := by exact zi_get rfl (by omega))) ?_
 try simp only [nY, gY]
 rw [hx.e1]
 refine s_go (m_load_obj U23 (hS := hS) (hv := by rfl)) ?_
 try simp only [nY, gY]
 refine s_go s_eql ?_
 try simp only [nY]
 refine s_go s_move ?_
 try simp only [nY]
 refine s_part 10 rfl (fun hp1 => ?_) (fun hp1 => ?_)
 ·
  try simp only [n3, n4]
  try simp only [dZ, ne_eq] at hp1
  have hQ : hereQ ct x y = decide ((kn y 0 : Int) = 1) := by rw [hereQ, decide_eq_true (show kn x 1 = ct by omega)]; simp; omega
  refine g_on (yi (t := 10) rfl rfl) ?_
  refine s_go (m_fieldAddr U64 (hi := ti62)) ?_
  try simp only [nY, fY, gY]
  refine g_on (yi (t := 10) rfl rfl) ?_
  refine s_go (m_load_obj U62 (hS := hS) (hv := by exact zi_get rfl (by omega))) ?_
  try simp only [nY, gY]
  rw [hy.e0]
  refine g_on (yi (t := 10) rfl rfl) ?_
  refine s_go s_eql ?_
  try simp only [nY]
  refine s_go s_pick_t ?_
  try simp only [nY]
  refine s_go s_assign ?_
  try simp only [nY]
  refine x_nil (hK2 _ _ ?_)
  refine x_ret (r_tmp rfl ?_)
  exact ⟨by rw [hQ]; rfl, hS.selA⟩
 try simp only [n3, n4]
 try simp only [dZ, ne_eq] at hp1
 have hQ : hereQ ct x y = false := by rw [hereQ, decide_eq_false (show ¬ kn x 1 = ct by omega)]; rfl
 refine g_off (yi (t := 10) rfl rfl) ?_
 try simp only [nY]
 refine g_off (yi (t := 10) rfl rfl) ?_
 try simp only [nY]
 refine g_off (yi (t := 10) rfl rfl) ?_
 try simp only [nY]
 refine s_go s_pick_f ?_
 try simp only [nY]
 refine s_go s_assign ?_
 try simp only [nY]
 refine x_nil (hK2 _ _ ?_)
 refine x_ret (r_tmp rfl ?_)
 exact ⟨by rw [hQ]; rfl, hS.selA⟩
theorem c_itemsPut (w0 : World) (gm q gs : Nat) (O : Option Addr) (oc : Nat) (ns : List (List Int)) (hns : ∀ x ∈ ns, x.length = 8) (hk : ns.length ≤ 1000000000) (x : List Int) (hx : KeyOk x) (hM : St (OwnB [.vec O oc 25 8 (ded (ns)).length (nrows (ded (ns))), .obj gs (.cells #[.slice O (ded (ns)).length oc] 89 (0, 0)), .obj gm (.cells #[.map (some q)] 126 (0, 0)), .obj q (mObj kv25 (cntR (ns).reverse))]) w0 w0 [.vec O oc 25 8 (ded (ns)).length (nrows (ded (ns))), .obj gs (.cells #[.slice O (ded (ns)).length oc] 89 (0, 0)), .obj gm (.cells #[.map (some q)] 126 (0, 0)), .obj q (mObj kv25 (cntR (ns).reverse))])  :
    CallR Tryz.prog 97 #[.agg (KA x), .pointer (some ⟨gm, 0, none⟩), .pointer (some ⟨gs, 0, none⟩)] w0 fun v w' => ∃ (O2 : Option Addr) (oc2 : Nat), v = .tuple #[] ∧ St (OwnB [.vec O oc 25 8 (ded (ns)).length (nrows (ded (ns))), .obj gs (.cells #[.slice O (ded (ns)).length oc] 89 (0, 0)), .obj gm (.cells #[.map (some q)] 126 (0, 0)), .obj q (mObj kv25 (cntR (ns).reverse))]) w0 w' [.vec O2 oc2 25 8 (ded (ns ++ [kitem x])).length (nrows (ded (ns ++ [kitem x]))), .obj gs (.cells #[.slice O2 (ded (ns ++ [kitem x])).length oc2] 89 (0, 0)), .obj gm (.cells #[.map (some q)] 126 (0, 0)), .obj q (mObj kv25 (cntR (ns ++ [kitem x]).reverse))] := by
 have hS := hM
 have hxl := hx.len
 have hil := kitem_len hxl
 have hdl := ded_len ns
 have hok : MOk (fun xs : List Int => xs.length = 8) (cntR ns.reverse) := cnt_ok (fun y hy => hns y (List.mem_reverse.1 hy))
 have hcs := cnt_snoc ns (kitem x)
 have hds := ded_snoc ns (kitem x)
 have hcl : ns.count (kitem x) ≤ ns.length := List.count_le_length
 have hok2 : MOk (fun xs : List Int => xs.length = 8) (cntR (ns ++ [kitem x]).reverse) := by rw [hcs]; exact mput_ok (ok := fun xs : List Int => xs.length = 8) hil hok
 refine c_enter (l := [.agg (KA x), .pointer (some ⟨gm, 0, none⟩), .pointer (some ⟨gs, 0, none⟩), undef, undef, undef, undef, undef, undef, undef, undef, undef, undef, undef, undef, undef, undef, undef, undef, undef, undef]) Tryz.func97 rfl (by simp only [Tryz.ntmps97, List.size_toArray, List.length_cons, List.length_nil, Nat.reduceAdd, Nat.reduceSub, Array.replicate_succ, Array.replicate_zero, List.push_toArray, List.append_toArray, List.nil_append, List.cons_append]) ?_
 refine x_seq fun K1 hK1 => x_region ?_
 refine m_box hS (fun w1 g1 hS => ?_)
 try simp only [nY, aY] at hS ⊢
 obtain ⟨gk, hgk⟩ : ∃ z, z = g1 := ⟨_, rfl⟩
 rw [← hgk] at hS ⊢
 refine x_nil (hK1 _ _ ?_)
 refine x_seq fun K2 hK2 => ?_
 refine x_mixed_f [5, 7] 0 [4, 5, 6, 7, 8, 9, 10] (fun f w => St (OwnB [.vec O oc 25 8 (ded (ns)).length (nrows (ded (ns))), .obj gs (.cells #[.slice O (ded (ns)).length oc] 89 (0, 0)), .obj gm (.cells #[.map (some q)] 126 (0, 0)), .obj q (mObj kv25 (cntR (ns).reverse))]) w0 w [.obj gk (.cells (KA x) 61 (0, 0)), .vec O oc 25 8 (ded ns).length (nrows (ded ns)), .obj gs (.cells #[.slice O (ded ns).length oc] 89 (0, 0)), .obj gm (.cells #[.map (some q)] 126 (0, 0)), .obj q (mObj kv25 (cntR (ns ++ [kitem x]).reverse))]) (by kernel_rfl) (by kernel_rfl) (by kernel_rfl) (by decide) hS (fun w2 hS => ?mixpre101) ?mixrest101
 case mixpre101 =>
  refine p_nil ?_
  simp only [List.length_cons, List.length_nil, Nat.reduceAdd, Nat.reduceSub]
  refine any_go (i := 0) (by rfl) (by decide +kernel) (by decide +kernel) (by unfold noLate; decide) (go_yields w_none (fun w hS => m_load_obj U126 (hS := hS) (hv := by rfl))) ?_
  try simp only [nY, gY]
  refine any_go (i := 1) (by rfl) (by decide +kernel) (by decide +kernel) (by unfold noLate; decide) (go_yields w_none (fun w hS => m_fieldAddr U61 (hi := ti25))) ?_
  try simp only [nY, fY, gY]
  refine any_go (i := 2) (by rfl) (by decide +kernel) (by decide +kernel) (by unfold noLate; decide) (go_yields w_none (fun w hS => m_loada_obj U25 (hi := ti25) (hS := hS) (hfit := by (rw [zi_size (by omega)]; decide)))) ?_
  try simp only [nY, gY]
  rw [key_item hxl]
  refine any_step [3, 5] (by kernel_rfl) (by decide) (fun w3 hE => ⟨fun _ => (hS.ext hE).sel (by repeat (first | exact Sel.nil | (refine Sel.cons (by repeat (exact Del.head)) ?_))), ?_⟩)
  replace hS := hS.ext hE
  intro i hi
  simp only [List.mem_cons, List.not_mem_nil, or_false] at hi
  rcases hi with rfl | rfl
  ·
   refine any_op (by rfl) ?_
   refine s_go (m_lookup ky25 U126 ti3 (hy := rfl) (ha := by trivial) (hD := by assumption) (hS := hS)) ?_
   try simp only [nY]
   simp only [mget_put, if_true, eq_self, Option.getD_some, cnt_getD, List.count_reverse]
   refine x_nil ?_
   refine any_step [4, 5] (by kernel_rfl) (by decide) (fun w4 hE => ⟨fun _ => (hS.ext hE).sel (by repeat (first | exact Sel.nil | (refine Sel.cons (by repeat (exact Del.head)) ?_))), ?_⟩)
   replace hS := hS.ext hE
   intro i hi
   simp only [List.mem_cons, List.not_mem_nil, or_false] at hi
   rcases hi with rfl | rfl
   ·
    refine any_op (by rfl) ?_
    refine s_go (s_add (hc := by exact wr_i64 (by omega) (by omega))) ?_
    try simp only [nY]
    refine x_nil ?_
    refine any_step [5] (by kernel_rfl) (by decide) (fun w5 hE => ⟨fun _ => (hS.ext hE).sel (by repeat (first | exact Sel.nil | (refine Sel.cons (by repeat (exact Del.head)) ?_))), ?_⟩)
    replace hS := hS.ext hE
    intro i hi
    simp only [List.mem_cons, List.not_mem_nil, or_false] at hi
    subst hi
    refine any_op (by rfl) ?_
    refine m_mapEntry ky25 U126 ti3 (hy := rfl) (ha := by trivial) (hD := by assumption) (hS := hS) (h := fun w6 hS => ?_)
    try simp only [nY, aY] at hS ⊢
    simp only [cnt_getD, List.count_reverse]
    refine x_nil ?_
    refine any_step [6] (by kernel_rfl) (by decide) (fun w7 hE => ⟨fun hl => absurd (hl 5 (by decide)) (by decide +kernel), ?_⟩)
    replace hS := hS.ext hE
    intro i hi
    simp only [List.mem_cons, List.not_mem_nil, or_false] at hi
    subst hi
    refine any_op (by rfl) ?_
    refine s_go (s_extract (hv := rfl)) ?_
    try simp only [gY]
    try simp only [nY]
    refine x_nil ?_
    refine any_step [7] (by kernel_rfl) (by decide) (fun w8 hE => ⟨fun hl => absurd (hl 5 (by decide)) (by decide +kernel), ?_⟩)
    replace hS := hS.ext hE
    intro i hi
    simp only [List.mem_cons, List.not_mem_nil, or_false] at hi
    subst hi
    refine any_op (by rfl) ?_
    refine m_entryStore (hS := hS) (h := fun w9 hS => ?_)
    try simp only [nY, aY] at hS ⊢
    refine x_nil ?_
    refine any_nil (by kernel_rfl) (fun w10 hE => ?_)
    replace hS := hS.ext hE
    refine ⟨fun hl => absurd (hl 5 (by decide)) (by decide +kernel), ?_⟩
    refine mix_leaf (by simp only [clob, List.foldl, nZ]) ?_
    try simp only [n1, n2]
    rw [hcs]; exact hS.sel (by repeat (first | exact Sel.nil | (refine Sel.cons (by repeat (exact Del.head)) ?_)))
   refine any_op (by rfl) ?_
   refine m_mapEntry ky25 U126 ti3 (hy := rfl) (ha := by trivial) (hD := by assumption) (hS := hS) (h := fun w11 hS => ?_)
   try simp only [nY, aY] at hS ⊢
   simp only [cnt_getD, List.count_reverse]
   refine x_nil ?_
   refine any_step [4, 6] (by kernel_rfl) (by decide) (fun w12 hE => ⟨fun hl => absurd (hl 5 (by decide)) (by decide +kernel), ?_⟩)
   replace hS := hS.ext hE
   intro i hi
   simp only [List.mem_cons, List.not_mem_nil, or_false] at hi
   rcases hi with rfl | rfl
   ·
    refine any_op (by rfl) ?_
    refine s_go (s_add (hc := by exact wr_i64 (by omega) (by omega))) ?_
    try simp only [nY]
    refine x_nil ?_
    refine any_step [6] (by kernel_rfl) (by decide) (fun w13 hE => ⟨fun hl => absurd (hl 5 (by decide)) (by decide +kernel), ?_⟩)
    replace hS := hS.ext hE
    intro i hi
    simp only [List.mem_cons, List.not_mem_nil, or_false] at hi
    subst hi
    refine any_op (by rfl) ?_
    refine s_go (s_extract (hv := rfl)) ?_
    try simp only [gY]
    try simp only [nY]
    refine x_nil ?_
    refine any_step [7] (by kernel_rfl) (by decide) (fun w14 hE => ⟨fun hl => absurd (hl 5 (by decide)) (by decide +kernel), ?_⟩)
    replace hS := hS.ext hE
    intro i hi
    simp only [List.mem_cons, List.not_mem_nil, or_false] at hi
    subst hi
    refine any_op (by rfl) ?_
    refine m_entryStore (hS := hS) (h := fun w15 hS => ?_)
    try simp only [nY, aY] at hS ⊢
    refine x_nil ?_
    refine any_nil (by kernel_rfl) (fun w16 hE => ?_)
    replace hS := hS.ext hE
    refine ⟨fun hl => absurd (hl 5 (by decide)) (by decide +kernel), ?_⟩
    refine mix_leaf (by simp only [clob, List.foldl, nZ]) ?_
    try simp only [n1, n2]
    rw [hcs]; exact hS.sel (by repeat (first | exact Sel.nil | (refine Sel.cons (by repeat (exact Del.head)) ?_)))
   refine any_op (by rfl) ?_
   refine s_go (s_extract (hv := rfl)) ?_
   try simp only [gY]
   try simp only [nY]
   refine x_nil ?_
   refine any_step [4] (by kernel_rfl) (by decide) (fun w17 hE => ⟨fun hl => absurd (hl 5 (by decide)) (by decide +kernel), ?_⟩)
   replace hS := hS.ext hE
   intro i hi
   simp only [List.mem_cons, List.not_mem_nil, or_false] at hi
   subst hi
   refine any_op (by rfl) ?_
   refine s_go (s_add (hc := by exact wr_i64 (by omega) (by omega))) ?_
   try simp only [nY]
   refine x_nil ?_
   refine any_step [7] (by kernel_rfl) (by decide) (fun w18 hE => ⟨fun hl => absurd (hl 5 (by decide)) (by decide +kernel), ?_⟩)
   replace hS := hS.ext hE
   intro i hi
   simp only [List.mem_cons, List.not_mem_nil, or_false] at hi
   subst hi
   refine any_op (by rfl) ?_
   refine m_entryStore (hS := hS) (h := fun w19 hS => ?_)
   try simp only [nY, aY] at hS ⊢
   refine x_nil ?_
   refine any_nil (by kernel_rfl) (fun w20 hE => ?_)
   replace hS := hS.ext hE
   refine ⟨fun hl => absurd (hl 5 (by decide)) (by decide +kernel), ?_⟩
   refine mix_leaf (by simp only [clob, List.foldl, nZ]) ?_
   try simp only [n1, n2]
   rw [hcs]; exact hS.sel (by repeat (first | exact Sel.nil | (refine Sel.cons (by repeat (exact Del.head)) ?_)))
  refine any_op (by rfl) ?_
  refine m_mapEntry ky25 U126 ti3 (hy := rfl) (ha := by trivial) (hD := by assumption) (hS := hS) (h := fun w21 hS => ?_)
  try simp only [nY, aY] at hS ⊢
  simp only [cnt_getD, List.count_reverse]
  refine x_nil ?_
  refine any_step [3, 6] (by kernel_rfl) (by decide) (fun w22 hE => ⟨fun hl => absurd (hl 5 (by decide)) (by decide +kernel), ?_⟩)
  replace hS := hS.ext hE
  intro i hi
  simp only [List.mem_cons, List.not_mem_nil, or_false] at hi
  rcases hi with rfl | rfl
  ·
   refine any_op (by rfl) ?_
   refine s_go (m_lookup ky25 U126 ti3 (hy := rfl) (ha := by trivial) (hD := by exact mput_ok (by assumption) (by assumption)) (hS := hS)) ?_
   try simp only [nY]
   simp only [mget_put, if_true, eq_self, Option.getD_some, cnt_getD, List.count_reverse]
   refine x_nil ?_
   refine any_step [4, 6] (by kernel_rfl) (by decide) (fun w23 hE => ⟨fun hl => absurd (hl 5 (by decide)) (by decide +kernel), ?_⟩)
   replace hS := hS.ext hE
   intro i hi
   simp only [List.mem_cons, List.not_mem_nil, or_false] at hi
   rcases hi with rfl | rfl
   ·
    refine any_op (by rfl) ?_
    refine s_go (s_add (hc := by exact wr_i64 (by omega) (by omega))) ?_
    try simp only [nY]
    refine x_nil ?_
    refine any_step [6] (by kernel_rfl) (by decide) (fun w24 hE => ⟨fun hl => absurd (hl 5 (by decide)) (by decide +kernel), ?_⟩)
    replace hS := hS.ext hE
    intro i hi
    simp only [List.mem_cons, List.not_mem_nil, or_false] at hi
    subst hi
    refine any_op (by rfl) ?_
    refine s_go (s_extract (hv := rfl)) ?_
    try simp only [gY]
    try simp only [nY]
    refine x_nil ?_
    refine any_step [7] (by kernel_rfl) (by decide) (fun w25 hE => ⟨fun hl => absurd (hl 5 (by decide)) (by decide +kernel), ?_⟩)
    replace hS := hS.ext hE
    intro i hi
    simp only [List.mem_cons, List.not_mem_nil, or_false] at hi
    subst hi
    refine any_op (by rfl) ?_
    refine m_entryStore (hS := hS) (h := fun w26 hS => ?_)
    try simp only [nY, aY] at hS ⊢
    refine x_nil ?_
    refine any_nil (by kernel_rfl) (fun w27 hE => ?_)
    replace hS := hS.ext hE
    refine ⟨fun hl => absurd (hl 5 (by decide)) (by decide +kernel), ?_⟩
    refine mix_leaf (by simp only [clob, List.foldl, nZ]) ?_
    try simp only [n1, n2]
    rw [hcs]; exact hS.sel (by repeat (first | exact Sel.nil | (refine Sel.cons (by repeat (exact Del.head)) ?_)))
   refine any_op (by rfl) ?_
   refine s_go (s_extract (hv := rfl)) ?_
   try simp only [gY]
   try simp only [nY]
   refine x_nil ?_
   refine any_step [4] (by kernel_rfl) (by decide) (fun w28 hE => ⟨fun hl => absurd (hl 5 (by decide)) (by decide +kernel), ?_⟩)
   replace hS := hS.ext hE
   intro i hi
   simp only [List.mem_cons, List.not_mem_nil, or_false] at hi
   subst hi
   refine any_op (by rfl) ?_
   refine s_go (s_add (hc := by exact wr_i64 (by omega) (by omega))) ?_
   try simp only [nY]
   refine x_nil ?_
   refine any_step [7] (by kernel_rfl) (by decide) (fun w29 hE => ⟨fun hl => absurd (hl 5 (by decide)) (by decide +kernel), ?_⟩)
   replace hS := hS.ext hE
   intro i hi
   simp only [List.mem_cons, List.not_mem_nil, or_false] at hi
   subst hi
   refine any_op (by rfl) ?_
   refine m_entryStore (hS := hS) (h := fun w30 hS => ?_)
   try simp only [nY, aY] at hS ⊢
   refine x_nil ?_
   refine any_nil (by kernel_rfl) (fun w31 hE => ?_)
   replace hS := hS.ext hE
   refine ⟨fun hl => absurd (hl 5 (by decide)) (by decide +kernel), ?_⟩
   refine mix_leaf (by simp only [clob, List.foldl, nZ]) ?_
   try simp only [n1, n2]
   rw [hcs]; exact hS.sel (by repeat (first | exact Sel.nil | (refine Sel.cons (by repeat (exact Del.head)) ?_)))
  refine any_op (by rfl) ?_
  refine s_go (s_extract (hv := rfl)) ?_
  try simp only [gY]
  try simp only [nY]
  refine x_nil ?_
  refine any_step [3] (by kernel_rfl) (by decide) (fun w32 hE => ⟨fun hl => absurd (hl 5 (by decide)) (by decide +kernel), ?_⟩)
  replace hS := hS.ext hE
  intro i hi
  simp only [List.mem_cons, List.not_mem_nil, or_false] at hi
  subst hi
  refine any_op (by rfl) ?_
  refine s_go (m_lookup ky25 U126 ti3 (hy := rfl) (ha := by trivial) (hD := by exact mput_ok (by assumption) (by assumption)) (hS := hS)) ?_
  try simp only [nY]
  simp only [mget_put, if_true, eq_self, Option.getD_some, cnt_getD, List.count_reverse]
  refine x_nil ?_
  refine any_step [4] (by kernel_rfl) (by decide) (fun w33 hE => ⟨fun hl => absurd (hl 5 (by decide)) (by decide +kernel), ?_⟩)
  replace hS := hS.ext hE
  intro i hi
  simp only [List.mem_cons, List.not_mem_nil, or_false] at hi
  subst hi
  refine any_op (by rfl) ?_
  refine s_go (s_add (hc := by exact wr_i64 (by omega) (by omega))) ?_
  try simp only [nY]
  refine x_nil ?_
  refine any_step [7] (by kernel_rfl) (by decide) (fun w34 hE => ⟨fun hl => absurd (hl 5 (by decide)) (by decide +kernel), ?_⟩)
  replace hS := hS.ext hE
  intro i hi
  simp only [List.mem_cons, List.not_mem_nil, or_false] at hi
  subst hi
  refine any_op (by rfl) ?_
  refine m_entryStore (hS := hS) (h := fun w35 hS => ?_)
  try simp only [nY, aY] at hS ⊢
  refine x_nil ?_
  refine any_nil (by kernel_rfl) (fun w36 hE => ?_)
  replace hS := hS.ext hE
  refine ⟨fun hl => absurd (hl 5 (by decide)) (by decide +kernel), ?_⟩
  refine mix_leaf (by simp only [clob, List.foldl, nZ]) ?_
  try simp only [n1, n2]
  rw [hcs]; exact hS.sel (by repeat (first | exact Sel.nil | (refine Sel.cons (by repeat (exact Del.head)) ?_)))
 intro fm1 w37 hM
 replace hS := hM
 simp only [clob, List.foldl, n3, n4]
 refine hK2 _ _ ?_
 refine x_seq fun K3 hK3 => x_region ?_
 refine s_go (m_load_obj U126 (hS := hS) (hv := by rfl)) ?_
 try simp only [nY, gY]
 refine s_go (m_fieldAddr U61 (hi := ti25)) ?_
 try simp only [nY, fY, gY]
 refine s_go (m_loada_obj U25 (hi := ti25) (hS := hS) (hfit := by (rw [zi_size (by omega)]; decide))) ?_
 try simp only [nY, gY]
 rw [key_item hxl]
 refine s_go (m_lookup ky25 U126 ti3 (hy := rfl) (ha := by trivial) (hD := by assumption) (hS := hS)) ?_
 try simp only [nY]
 rw [hcs]
 simp only [mget_put, if_true, eq_self, Option.getD_some]
 refine s_go s_eql ?_
 try simp only [nY]
 refine x_nil (hK3 _ _ ?_)
 refine x_cond (ht := fun hc1 => ?_) (hf := fun hc1 => ?_)
 ·
  try simp only [dY] at hc1
  have hnm : kitem x ∉ ns := fun h => by (have := List.count_pos_iff.2 h); omega
  rw [if_neg hnm] at hds
  refine x_region ?_
  refine s_go (m_load_obj U89 (hS := hS) (hv := by rfl)) ?_
  try simp only [nY, gY]
  refine s_go (m_fieldAddr U61 (hi := ti25)) ?_
  try simp only [nY, fY, gY]
  refine s_go (m_loada_obj U25 (hi := ti25) (hS := hS) (hfit := by (rw [zi_size (by omega)]; decide))) ?_
  try simp only [nY, gY]
  rw [key_item hxl]
  refine m_buildRow (cells := (ic .u8 (kitem x))) U89 ti25 (hc := by simp only [List.map_toArray, List.map_cons, List.map_nil, nY, List.toList_toArray]; exact fill_one (by rfl) (by rw [ic_size]; exact hil) (by rfl)) (hS := hS) (h := fun w38 g38 hS => ?_)
  try simp only [nY, aY] at hS ⊢
  replace hS := hS.obj_rd (sz := 8) (n := 1) (by rw [ic_size, hil]) .head
  rw [nrow_one hil] at hS
  refine m_append U89 ti25 (hS := hS) (h1 := rowsZ_cells _ _) (h := fun w39 A39 C39 hS => ?_)
  try simp only [← List.map_append, ← List.map_drop, ← List.map_take, Nat.mul_one, Nat.zero_mul, Nat.sub_zero, List.drop_zero, List.nil_append, Nat.zero_add] at hS ⊢
  try simp only [nY, aY] at hS ⊢
  rw [nadd_one] at hS
  refine m_store_obj ti89 (hS := hS) (hc := by (exact splice_whole (by (simp [opv, Value.cells, *]; done)))) (hv := by rfl) (hfit := by (simp [*]; done)) (h1 := by simp [opv, Value.cells, Value.oneCell']) (h := fun w40 hS => ?_)
  try simp only [nY, aY] at hS ⊢
  refine x_nil ?_
  refine r_none rfl ?_
  (rw [hds]; rw [show (ded ns).length + 1 = (ded ns ++ [kitem x]).length by rw [List.length_append]; rfl] at hS; exact ⟨_, _, rfl, hS.selA⟩)
 try simp only [dY] at hc1
 have hnm : kitem x ∈ ns := List.count_pos_iff.1 (by omega)
 rw [if_pos hnm] at hds
 refine x_skip ?_
 refine r_none rfl ?_
 (rw [hds]; exact ⟨_, _, rfl, hS.selA⟩)
theorem c_tagsEachItems (w0 : World) (A : Option Addr) (c : Nat) (l : List (List Int)) (hr : Rd w0 A 21 l.length (arows l)) (hv : AOks l) (hn : l.length ≤ 1000000000) (gm q gs gc ct : Nat) (hM : St (OwnB [.obj gs (.cells #[.slice none 0 0] 89 (0, 0)), .obj gm (.cells #[.map (some q)] 126 (0, 0)), .obj q (mObj kv25 []), .obj gc (.cells #[.int .u16 (ct : Int)] 23 (0, 0)), .rd A 21 (l).length (arows (l))]) w0 w0 [.obj gs (.cells #[.slice none 0 0] 89 (0, 0)), .obj gm (.cells #[.map (some q)] 126 (0, 0)), .obj q (mObj kv25 []), .obj gc (.cells #[.int .u16 (ct : Int)] 23 (0, 0)), .rd A 21 (l).length (arows (l))])  :
    CallR Tryz.prog 87 #[.slice A l.length c, .func (.func 96) #[] #[.pointer (some ⟨gc, 0, none⟩)], .func (.func 97) #[] #[.pointer (some ⟨gm, 0, none⟩), .pointer (some ⟨gs, 0, none⟩)]] w0 fun v w' => ∃ (O : Option Addr) (oc : Nat), v = .tuple #[] ∧ St (OwnB [.obj gs (.cells #[.slice none 0 0] 89 (0, 0)), .obj gm (.cells #[.map (some q)] 126 (0, 0)), .obj q (mObj kv25 []), .obj gc (.cells #[.int .u16 (ct : Int)] 23 (0, 0)), .rd A 21 (l).length (arows (l))]) w0 w' [.vec O oc 25 8 (itmS (normP l) ct).length (nrows (itmS (normP l) ct)), .obj gs (.cells #[.slice O (itmS (normP l) ct).length oc] 89 (0, 0))] := by
 have hS := hM
 have hno := (norm_sta hv).ok
 have hkn := (norm_sta hv).knd
 have hnl := arows_len (normP l)
 have hnb := norm_len l
 have hsn := norm_sta hv
 refine y_enter (l := [.slice A l.length c, .func (.func 96) #[] #[.pointer (some ⟨gc, 0, none⟩)], .func (.func 97) #[] #[.pointer (some ⟨gm, 0, none⟩), .pointer (some ⟨gs, 0, none⟩)], undef, undef, undef, undef, undef, undef, undef, undef, undef, undef, undef, undef, undef, undef, undef, undef, undef, undef, undef, undef, undef]) Tryz.func87 rfl (by simp only [Tryz.ntmps87, List.size_toArray, List.length_cons, List.length_nil, Nat.reduceAdd, Nat.reduceSub, Array.replicate_succ, Array.replicate_zero, List.push_toArray, List.append_toArray, List.nil_append, List.cons_append]) ?_
 refine y_seq fun K1 hK1 => ?_
 refine y_region (by kernel_rfl) ?_
 refine m_box hS (fun w1 g1 hS => ?_)
 try simp only [nY, aY] at hS ⊢
 obtain ⟨gf, hgf⟩ : ∃ z, z = g1 := ⟨_, rfl⟩
 rw [← hgf] at hS ⊢
 refine m_box hS (fun w2 g2 hS => ?_)
 try simp only [nY, aY] at hS ⊢
 obtain ⟨gd, hgd⟩ : ∃ z, z = g2 := ⟨_, rfl⟩
 rw [← hgd] at hS ⊢
 replace hS := hS.nil_vec 25 8
 refine y_nilf ?_
 refine hK1 _ _ ?_
 refine y_seq fun K2 hK2 => ?_
 refine y_region (by kernel_rfl) ?_
 refine s_go s_move ?_
 try simp only [nY]
 refine s_call en81 ?_
 try simp only [nY, mY]
 refine CallR.mono (c_latEach A c l _) ?_
 rintro _ w3 ⟨b, rfl, hC3⟩
 replace hS := hS.call hC3
 simp only [List.cons_append, List.nil_append] at hS
 try simp only [nY]
 refine y_nilf ?_
 refine hK2 _ _ ?_
 refine y_block ?_
 replace hS : St (OwnB [.obj gs (.cells #[.slice none 0 0] 89 (0, 0)), .obj gm (.cells #[.map (some q)] 126 (0, 0)), .obj q (mObj kv25 []), .obj gc (.cells #[.int .u16 (ct : Int)] 23 (0, 0)), .rd A 21 (l).length (arows (l))]) w0 w3 [.obj b (.cells #[.slice A l.length c] 22 (0, 0)), .rd A 21 (l).length (arows (l)), .vec none 0 25 8 0 [], .obj gs (.cells #[.slice none 0 0] 89 (0, 0)), .obj gm (.cells #[.map (some q)] 126 (0, 0)), .obj q (mObj kv25 []), .obj gf (.cells #[.func (.func 96) #[] #[.pointer (some ⟨gc, 0, none⟩)]] 118 (0, 0)), .obj gd (.cells #[.func (.func 97) #[] #[.pointer (some ⟨gm, 0, none⟩), .pointer (some ⟨gs, 0, none⟩)]] 120 (0, 0)), .obj gc (.cells #[.int .u16 (ct : Int)] 23 (0, 0))] := hS.selA
 refine y_range rfl en103 (i_latEach b A c l hv hn) (fun _ => rfl) hS (by repeat (first | exact Spl.nil | (apply Spl.cons (by repeat (exact Del.head))))) (fun k L => k ≤ (normP l).length ∧ ∃ (O : Option Addr) (oc : Nat), L = [.vec O oc 25 8 (ded (nmsS ((normP l).take k) ct)).length (nrows (ded (nmsS ((normP l).take k) ct))), .obj gs (.cells #[.slice O (ded (nmsS ((normP l).take k) ct)).length oc] 89 (0, 0)), .obj gm (.cells #[.map (some q)] 126 (0, 0)), .obj q (mObj kv25 (cntR (nmsS ((normP l).take k) ct).reverse)), .obj gf (.cells #[.func (.func 96) #[] #[.pointer (some ⟨gc, 0, none⟩)]] 118 (0, 0)), .obj gd (.cells #[.func (.func 97) #[] #[.pointer (some ⟨gm, 0, none⟩), .pointer (some ⟨gs, 0, none⟩)]] 120 (0, 0)), .obj gc (.cells #[.int .u16 (ct : Int)] 23 (0, 0))]) (fun L => False) [] ?rfh1 ?rfr1 (fun D1 T1 w4 R1 hC hS => ?rfd1) (fun D1 T1 w5 R1 hX hS => ?rft1) ?rfe1
 case rfh1 =>
  exact ⟨Nat.zero_le _, none, 0, rfl⟩
 case rfr1 =>
  intro k1 w6 R1 T1 lr1 hk1 hC hS
  obtain ⟨hk0, O, oc, rfl⟩ := hC
  simp only [List.cons_append, List.nil_append] at hS
  simp only [List.toList_toArray, entL, List.zip_cons_cons, List.zip_nil_left, List.foldl_cons, List.foldl_nil, n3, n4]
  obtain ⟨x, hx⟩ : ∃ x, (normP l).getD k1 [] = x := ⟨_, rfl⟩
  have ha : AtomOk x := by rw [← hx]; exact hno.get (by omega)
  have hal := ha.len
  have hk12 := ha.key.len
  have hvx := ha.val
  have hx9 := hvx.len
  simp only [hx]
  have hkx := ha.key
  have hk01 := akey_k hal
  have hnt := nms_take (c := ct) hk1 hx
  have hlh := live_here ha ct
  have hnl8 := nms_eight (hno.take k1) ct
  have hnle := nms_len ((normP l).take k1) ct
  have hlt : ((normP l).take k1).length ≤ (normP l).length := by rw [List.length_take]; omega
  refine y_seq fun K3 hK3 => ?_
  refine y_region (by kernel_rfl) ?_
  refine m_alloc ti61 hS (fun w7 g7 hS => ?_)
  try simp only [nY, aY] at hS ⊢
  have h0l : key0.length = 12 := rfl
  replace hS : St _ _ w7 (.obj g7 (.cells (KA key0) 61 (0, 0)) :: _) := hS
  refine m_store_obj ti61 (hS := hS) (hc := by exact zi_whole (by omega) (by omega)) (hv := by (show (zi _ _).toArray.size = _; rw [zi_size (by omega)]; rfl)) (hfit := by (rw [zi_size (by omega)]; decide)) (h1 := by exact zi_one _ _) (h := fun w8 hS => ?_)
  try simp only [nY, aY] at hS ⊢
  refine y_nilf ?_
  refine hK3 _ _ ?_
  refine y_region (by kernel_rfl) ?_
  refine m_alloc ti64 hS (fun w9 g9 hS => ?_)
  try simp only [nY, aY] at hS ⊢
  have h9l : v9.length = 9 := rfl
  replace hS : St _ _ w9 (.obj g9 (.cells (VA v9) 64 (0, 0)) :: _) := hS
  refine m_store_obj ti64 (hS := hS) (hc := by exact zi_whole (by omega) (by omega)) (hv := by (show (zi _ _).toArray.size = _; rw [zi_size (by omega)]; rfl)) (hfit := by (rw [zi_size (by omega)]; decide)) (h1 := by exact zi_one _ _) (h := fun w10 hS => ?_)
  try simp only [nY, aY] at hS ⊢
  refine y_nilf ?_
  refine round_open hS (by repeat (first | exact App.nil | apply App.cons)) (fun w11 T2 hS => ?_)
  simp only [List.cons_append, List.nil_append] at hS
  refine y_block ?_
  refine y_seq fun K4 hK4 => ?_
  refine y_region (by kernel_rfl) ?_
  refine s_go (m_fieldAddr U61 (hi := ti5)) ?_
  try simp only [nY, fY, gY]
  refine s_go (m_load_obj U5 (hS := hS) (hv := by exact zi_get rfl (by omega))) ?_
  try simp only [nY, gY]
  rw [hkx.e0, hk01.1]
  refine s_go s_eql ?_
  try simp only [nY]
  refine s_go s_move ?_
  try simp only [nY]
  refine s_part 15 rfl (fun hp1 => ?_) (fun hp1 => ?_)
  ·
   try simp only [n3, n4]
   try simp only [dZ, ne_eq] at hp1
   have q1 : decide (kn x 0 = 1) = true := decide_eq_true (by omega)
   refine g_on (yi (t := 15) rfl rfl) ?_
   refine s_go (m_load_obj U118 (hS := hS) (hv := by rfl)) ?_
   try simp only [nY, gY]
   refine g_on (yi (t := 15) rfl rfl) ?_
   refine s_go (m_load_row U61 (hi := ti61) (hS := hS) (hfit := by (rw [zi_size (by omega)]; rfl))) ?_
   try simp only [nY, gY]
   refine g_on (yi (t := 15) rfl rfl) ?_
   refine s_go (m_load_row U64 (hi := ti64) (hS := hS) (hfit := by (rw [zi_size (by omega)]; rfl))) ?_
   try simp only [nY, gY]
   refine g_on (yi (t := 15) rfl rfl) ?_
   refine s_callv (hv := rfl) en96 ?_
   try simp only [nY, mY]
   refine CallR.mono (c_itemsHere _ gc ct (akey x) (aval x) hkx hvx (hS.owns (by repeat (first | exact Spl.nil | (apply Spl.cons (by repeat (first | exact Del.head | apply Del.tail))))))) ?_
   rintro _ w12 ⟨rfl, hC12⟩
   replace hS := hS.frame (by repeat (first | exact Spl.nil | (apply Spl.cons (by repeat (first | exact Del.head | apply Del.tail))))) hC12 (by intro r hr g hg; simp only [List.mem_cons, List.not_mem_nil, or_false] at hr; rcases hr with rfl <;> (simp [Res.reads] at hg; done))
   simp only [List.cons_append, List.nil_append] at hS
   try simp only [nY]
   refine s_go s_pick_t ?_
   try simp only [nY]
   refine y_nilf ?_
   refine hK4 _ _ ?_
   refine y_cond (ht := fun hc1 => ?_) (hf := fun hc1 => ?_)
   ·
    try simp only [dY] at hc1
    have hst := hnt.1 (by rw [hlh, q1, hc1]; rfl)
    refine y_region (by kernel_rfl) ?_
    refine s_go (m_load_obj U120 (hS := hS) (hv := by rfl)) ?_
    try simp only [nY, gY]
    refine s_go (m_load_row U61 (hi := ti61) (hS := hS) (hfit := by (rw [zi_size (by omega)]; rfl))) ?_
    try simp only [nY, gY]
    refine s_callv (hv := rfl) en97 ?_
    try simp only [nY, mY]
    refine CallR.mono (c_itemsPut _ gm q gs O oc (nmsS ((normP l).take k1) ct) hnl8 (by omega) (akey x) hkx (hS.owns (by repeat (first | exact Spl.nil | (apply Spl.cons (by repeat (first | exact Del.head | apply Del.tail))))))) ?_
    rintro _ w13 ⟨O2, oc2, rfl, hC13⟩
    replace hS := hS.frame (by repeat (first | exact Spl.nil | (apply Spl.cons (by repeat (first | exact Del.head | apply Del.tail))))) hC13 (by intro r hr g hg; simp only [List.mem_cons, List.not_mem_nil, or_false] at hr; rcases hr with rfl | rfl | rfl | rfl <;> (simp [Res.reads] at hg; done))
    simp only [List.cons_append, List.nil_append] at hS
    try simp only [nY]
    refine y_nilf ?_
    rw [← hst] at hS
    exact ⟨_, ⟨by omega, _, _, rfl⟩, hS.sel (by repeat (first | exact Sel.self | (refine Sel.cons (by repeat (first | exact Del.head | apply Del.tail)) ?_) | apply Sel.skip))⟩
   try simp only [dY] at hc1
   try have hst := hnt.2 (by rw [hlh, q1, hc1]; rfl)
   refine y_skip ?_
   rw [← hst] at hS
   exact ⟨_, ⟨by omega, _, _, rfl⟩, hS.sel (by repeat (first | exact Sel.self | (refine Sel.cons (by repeat (first | exact Del.head | apply Del.tail)) ?_) | apply Sel.skip))⟩
  try simp only [n3, n4]
  try simp only [dZ, ne_eq] at hp1
  have hst := hnt.2 (by rw [hlh, decide_eq_false (show ¬ kn x 0 = 1 by omega)]; rfl)
  refine g_off (yi (t := 15) rfl rfl) ?_
  try simp only [nY]
  refine g_off (yi (t := 15) rfl rfl) ?_
  try simp only [nY]
  refine g_off (yi (t := 15) rfl rfl) ?_
  try simp only [nY]
  refine g_off (yi (t := 15) rfl rfl) ?_
  try simp only [nY]
  refine s_go s_pick_f ?_
  try simp only [nY]
  refine y_nilf ?_
  refine hK4 _ _ ?_
  refine y_cond_f (h := ?_)
  try have hst := hnt.2 (by rw [hlh, q1, @c]; rfl)
  refine y_skip ?_
  rw [← hst] at hS
  exact ⟨_, ⟨by omega, _, _, rfl⟩, hS.sel (by repeat (first | exact Sel.self | (refine Sel.cons (by repeat (first | exact Del.head | apply Del.tail)) ?_) | apply Sel.skip))⟩
 case rfd1 =>
  obtain ⟨hk0, O, oc, rfl⟩ := hC
  simp only [List.cons_append, List.nil_append] at hS
  refine rm_mark hS (by repeat (exact Upd.head)) (fun w14 hS => ?_)
  refine rm_nil ?_
  refine r_none rfl ?_
  rw [List.take_of_length_le (Nat.le_refl _)] at hS
  exact ⟨_, _, rfl, hS.selA⟩
 case rft1 =>
  exact hX.elim
 case rfe1 =>
  exact y_ex_nil
theorem c_tagsItems (w0 : World) (A : Option Addr) (c : Nat) (l : List (List Int)) (hr : Rd w0 A 21 l.length (arows l)) (hv : AOks l) (hn : l.length ≤ 1000000000) (ct : Nat) (hct : ct < 65536)  :
    CallR Tryz.prog 65 #[.slice A l.length c, .int .u16 (ct : Int)] w0 fun v w' => ∃ (O : Option Addr) (oc : Nat), v = .slice O (itmS (normP l) ct).length oc ∧ St NoB w0 w' [.vec O oc 25 8 (itmS (normP l) ct).length (nrows (itmS (normP l) ct))] := by
 have hS := St.rd1 (S := NoB) hr
 refine c_enter (l := [.slice A l.length c, .int .u16 (ct : Int), undef, undef, undef, undef, undef, undef, undef, undef, undef, undef, undef, undef]) Tryz.func65 rfl (by simp only [Tryz.ntmps65, List.size_toArray, List.length_cons, List.length_nil, Nat.reduceAdd, Nat.reduceSub, Array.replicate_succ, Array.replicate_zero, List.push_toArray, List.append_toArray, List.nil_append, List.cons_append]) ?_
 refine x_seq fun K1 hK1 => x_region ?_
 refine m_box hS (fun w1 g1 hS => ?_)
 try simp only [nY, aY] at hS ⊢
 obtain ⟨gc, hgc⟩ : ∃ z, z = g1 := ⟨_, rfl⟩
 rw [← hgc] at hS ⊢
 refine m_alloc ti89 hS (fun w2 g2 hS => ?_)
 try simp only [nY, aY] at hS ⊢
 obtain ⟨gs, hgs⟩ : ∃ z, z = g2 := ⟨_, rfl⟩
 rw [← hgs] at hS ⊢
 refine x_nil (hK1 _ _ ?_)
 refine x_seq fun K2 hK2 => x_region ?_
 refine m_makeMap kv25 hS (fun w3 g3 hS => ?_)
 try simp only [nY, aY] at hS ⊢
 obtain ⟨q, hq⟩ : ∃ z, z = g3 := ⟨_, rfl⟩
 rw [← hq] at hS ⊢
 refine m_alloc ti126 hS (fun w4 g4 hS => ?_)
 try simp only [nY, aY] at hS ⊢
 obtain ⟨gm, hgm⟩ : ∃ z, z = g4 := ⟨_, rfl⟩
 rw [← hgm] at hS ⊢
 refine m_store_obj ti126 (hS := hS) (h := fun w5 hS => ?_)
 try simp only [nY, aY] at hS ⊢
 refine x_nil (hK2 _ _ ?_)
 refine x_seq fun K3 hK3 => x_region ?_
 refine s_go s_makeFunc ?_
 try simp only [nY, List.map_toArray, List.map_cons, List.map_nil]
 refine s_go s_assign ?_
 try simp only [nY]
 refine x_nil (hK3 _ _ ?_)
 refine x_seq fun K4 hK4 => x_region ?_
 refine s_go s_move ?_
 try simp only [nY]
 refine s_go s_move ?_
 try simp only [nY]
 refine s_go s_makeFunc ?_
 try simp only [nY, List.map_toArray, List.map_cons, List.map_nil]
 refine s_call en87 ?_
 try simp only [nY, mY]
 refine CallR.mono (c_tagsEachItems _ A c l (hS.hasA) hv hn gm q gs gc ct (hS.owns (by repeat (first | exact Spl.nil | (apply Spl.cons (by repeat (first | exact Del.head | apply Del.tail))))))) ?_
 rintro _ w6 ⟨O, oc, rfl, hC6⟩
 replace hS := hS.frame (by repeat (first | exact Spl.nil | (apply Spl.cons (by repeat (first | exact Del.head | apply Del.tail))))) hC6 (by intro r hr g hg; simp only [List.mem_cons, List.not_mem_nil, or_false] at hr; rcases hr with rfl | rfl <;> (simp [Res.reads] at hg; done))
 simp only [List.cons_append, List.nil_append] at hS
 try simp only [nY]
 refine x_nil (hK4 _ _ ?_)
 refine x_seq fun K5 hK5 => x_region ?_
 refine s_go (m_load_obj U89 (hS := hS)) ?_
 try simp only [nY, gY]
 refine m_store_obj ti89 (hS := hS) (h := fun w7 hS => ?_)
 try simp only [nY, aY] at hS ⊢
 refine x_nil (hK5 _ _ ?_)
 refine x_ret ?_
 refine r_cell_one rfl U89 (hS := hS) (hR := ?_)
 exact ⟨_, _, rfl, hS.sel (by repeat (first | exact Sel.nil | (refine Sel.cons (by repeat (exact Del.head)) ?_)))⟩
end Go.Proofs.YtpekghaodmeemaaGreat
set_option linter.unusedSimpArgs false
set_option linter.unusedVariables false
set_option maxHeartbeats 2000000
set_option maxRecDepth 100000
namespace Go.Proofs.YtpekghaodmeemaaGreat
open Go.RowKit

def hv2 (s : List (List Int)) (x : List Int) : Nat := kn ((fnd x s).getD v9) 0
def refT (s : List (List Int)) (c : Nat) (it : List Int) : Nat → Int
  | 0 => 0
  | k + 1 => refT s c it k + (hv2 s (turnK 2 k c it) : Int) - (hv2 s (turnK 3 k c it) : Int)
theorem half_hv {l : List (List Int)} {s r c : Nat} {it : List Int} (hs : s = 2 ∨ s = 3) : halfN l (turnK s r c it) = hv2 (normP l) (turnK s r c it) := by rw [halfN, if_pos (turnK_half hs)]; rfl
theorem hv_le {l : List (List Int)} (hv : AOks l) {s r c : Nat} {it : List Int} (hs : s = 2 ∨ s = 3) (hr : r < 256) (hc : c < 65536) (h8 : it.length = 8) (hb : Byt it) : hv2 (normP l) (turnK s r c it) ≤ 4294967295 := by
  rw [← half_hv hs]; exact half_le hv (turnK_ok hs hr hc h8 hb)
theorem refT_le {l : List (List Int)} (hv : AOks l) {c : Nat} {it : List Int} (hc : c < 65536) (h8 : it.length = 8) (hb : Byt it) : ∀ k : Nat, k ≤ 256 → -(4294967295 * (k : Int)) ≤ refT (normP l) c it k ∧ refT (normP l) c it k ≤ 4294967295 * (k : Int)
  | 0, _ => by simp [refT]
  | k + 1, hk => by
    have h1 := refT_le hv hc h8 hb k (by omega)
    have h2 := hv_le hv (s := 2) (.inl rfl) (show k < 256 by omega) hc h8 hb
    have h3 := hv_le hv (s := 3) (.inr rfl) (show k < 256 by omega) hc h8 hb
    rw [refT]; omega
theorem key_turn {x : List Int} (hx : KeyOk x) (h11 : kn x 11 = 0) {s k c : Nat} {it : List Int} (h8 : it.length = 8) : x = turnK s k c it ↔ kn x 0 = s ∧ kn x 1 = c ∧ kitem x = it ∧ kn x 10 = k := by
  constructor
  · rintro rfl
    exact ⟨mk_0, mk_1, mk_item h8, mk_10 h8⟩
  · rintro ⟨rfl, rfl, rfl, rfl⟩
    have := key_cut hx.len
    rw [hx.e0, hx.e1, hx.e10, hx.e11, h11] at this
    exact this
theorem hv2_cons {a : List Int} {s : List (List Int)} {x : List Int} : hv2 (a :: s) x = if akey a = x then kn (aval a) 0 else hv2 s x := by
  unfold hv2
  rw [show fnd x (a :: s) = if akey a = x then some (aval a) else fnd x s from rfl]
  split <;> rfl
theorem hv2_none {s : List (List Int)} {x : List Int} (h : fnd x s = none) : hv2 s x = 0 := by unfold hv2; rw [h]; rfl
def hitT (c : Nat) (it : List Int) (k : Nat) (a : List Int) : Int := if kn (akey a) 10 < k then totA c it a else 0
theorem refT_cons {a : List Int} {s : List (List Int)} (h : StaR (a :: s)) {c : Nat} {it : List Int} (h8 : it.length = 8) : ∀ k : Nat, refT (a :: s) c it k = refT s c it k + hitT c it k a
  | 0 => by simp [refT, hitT]
  | k + 1 => by
    have ih := refT_cons h (c := c) h8 k
    have ha := h.ok a (by simp)
    have hr := h.right a (by simp)
    have hk := ha.key
    have hno : fnd (akey a) s = none := fnd_none.2 fun d hd e => by have := h.head d hd; rw [e] at this; omega
    have e0 := (akey_k ha.len).1
    have e1 := (akey_k ha.len).2
    rw [refT, refT, ih, hv2_cons, hv2_cons]
    by_cases hs : kn a 0 = 2 ∨ kn a 0 = 3
    · have h11 : kn (akey a) 11 = 0 := by
        rw [atomR, Bool.and_eq_true] at hr
        have h1 := hr.1
        unfold keyR at h1
        rw [if_neg (by omega), if_neg (by omega), if_pos (by omega)] at h1
        simp only [Bool.and_eq_true, decide_eq_true_eq] at h1
        exact h1.1.1
      by_cases hq : kn a 1 = c ∧ kitem (akey a) = it
      · by_cases hk10 : kn (akey a) 10 = k
        · have h0 : hitT c it k a = 0 := by rw [hitT, if_neg (by omega)]
          have h1 : hitT c it (k + 1) a = totA c it a := by rw [hitT, if_pos (by omega)]
          have ht : totA c it a = if kn a 0 = 2 then (kn (aval a) 0 : Int) else -(kn (aval a) 0 : Int) := by rw [totA, if_pos ⟨hs, hq.1, hq.2⟩]
          rw [h0, h1, ht]
          rcases hs with hs | hs
          · have e2 : akey a = turnK 2 k c it := (key_turn hk h11 h8).2 ⟨by omega, by omega, hq.2, hk10⟩
            have e3 : ¬ akey a = turnK 3 k c it := fun e => by have := ((key_turn hk h11 h8).1 e).1; omega
            have hz : hv2 s (turnK 2 k c it) = 0 := hv2_none (by rw [← e2]; exact hno)
            rw [if_pos e2, if_neg e3, if_pos hs, hz]; omega
          · have e3 : akey a = turnK 3 k c it := (key_turn hk h11 h8).2 ⟨by omega, by omega, hq.2, hk10⟩
            have e2 : ¬ akey a = turnK 2 k c it := fun e => by have := ((key_turn hk h11 h8).1 e).1; omega
            have hz : hv2 s (turnK 3 k c it) = 0 := hv2_none (by rw [← e3]; exact hno)
            rw [if_neg e2, if_pos e3, if_neg (by omega), hz]; omega
        · have e2 : ¬ akey a = turnK 2 k c it := fun e => hk10 ((key_turn hk h11 h8).1 e).2.2.2
          have e3 : ¬ akey a = turnK 3 k c it := fun e => hk10 ((key_turn hk h11 h8).1 e).2.2.2
          rw [if_neg e2, if_neg e3]
          have : hitT c it (k + 1) a = hitT c it k a := by
            unfold hitT
            by_cases hl : kn (akey a) 10 < k
            · rw [if_pos hl, if_pos (by omega)]
            · rw [if_neg hl, if_neg (by omega)]
          omega
      · have e2 : ¬ akey a = turnK 2 k c it := fun e => hq ⟨by have := ((key_turn hk h11 h8).1 e).2.1; omega, ((key_turn hk h11 h8).1 e).2.2.1⟩
        have e3 : ¬ akey a = turnK 3 k c it := fun e => hq ⟨by have := ((key_turn hk h11 h8).1 e).2.1; omega, ((key_turn hk h11 h8).1 e).2.2.1⟩
        have ht : totA c it a = 0 := by rw [totA, if_neg (fun q => hq q.2)]
        rw [if_neg e2, if_neg e3]
        unfold hitT
        rw [ht]; simp only [ite_self]; omega
    · have e2 : ¬ akey a = turnK 2 k c it := fun e => hs (.inl (by have := congrArg (fun x => kn x 0) e; simp only [turnK, mk_0] at this; omega))
      have e3 : ¬ akey a = turnK 3 k c it := fun e => hs (.inr (by have := congrArg (fun x => kn x 0) e; simp only [turnK, mk_0] at this; omega))
      have ht : totA c it a = 0 := by rw [totA, if_neg (fun q => hs q.1)]
      rw [if_neg e2, if_neg e3]
      unfold hitT
      rw [ht]; simp only [ite_self]; omega
theorem refT_nil (c : Nat) (it : List Int) : ∀ k, refT [] c it k = 0
  | 0 => rfl
  | k + 1 => by
    rw [refT, refT_nil c it k]
    have : ∀ x, hv2 [] x = 0 := fun _ => rfl
    simp [this]
theorem refT_tot {c : Nat} {it : List Int} (h8 : it.length = 8) : ∀ {s : List (List Int)}, StaR s → refT s c it 16 = totL s c it
  | [], _ => refT_nil c it 16
  | a :: s, h => by
    rw [refT_cons h h8, refT_tot h8 h.tail]
    have e : totL (a :: s) c it = totA c it a + totL s c it := rfl
    have ha := h.ok a (by simp)
    have hr := h.right a (by simp)
    have : hitT c it 16 a = totA c it a := by
      unfold hitT
      split
      · rfl
      · next h16 =>
        rw [totA, if_neg]
        rintro ⟨hs, _⟩
        have e0 := (akey_k ha.len).1
        rw [atomR, Bool.and_eq_true] at hr
        have h1 := hr.1
        unfold keyR at h1
        rw [if_neg (by omega), if_neg (by omega), if_pos (by omega)] at h1
        simp only [Bool.and_eq_true, decide_eq_true_eq] at h1
        exact h16 h1.2
    omega
def adjF (o : List (List Int)) (x : List Int) : List (List Int) := if o.getLast? = some x then o else o ++ [x]
def adjS (ns : List (List Int)) : List (List Int) := ns.foldl adjF []
theorem adj_ded {ns o : List (List Int)} (h8 : ∀ x ∈ o ++ ns, x.length = 8 ∧ Byt x) (hs : (o ++ ns).Pairwise fun x y => numN x ≤ numN y) : ns.foldl adjF o = ns.foldl (fun o x => if x ∈ o then o else o ++ [x]) o := by
  induction ns generalizing o with
  | nil => rfl
  | cons x ns ih =>
    rw [List.foldl_cons, List.foldl_cons]
    have hkey : o.getLast? = some x ↔ x ∈ o := by
      constructor
      · intro h; exact List.mem_of_getLast? h
      · intro h
        have hne : o ≠ [] := List.ne_nil_of_mem h
        obtain ⟨z, hz⟩ : ∃ z, o.getLast? = some z := ⟨_, List.getLast?_eq_some_getLast hne⟩
        have hzo := List.mem_of_getLast? hz
        obtain ⟨p, hp⟩ := List.getLast?_eq_some_iff.1 hz
        have h1 : numN z ≤ numN x := (List.pairwise_append.1 hs).2.2 z hzo x (by simp)
        have h2 : numN x ≤ numN z := by
          rw [hp] at h hs
          rcases List.mem_append.1 h with h | h
          · have h3 := (List.pairwise_append.1 hs).1
            exact (List.pairwise_append.1 h3).2.2 x h z (by simp)
          · rw [List.mem_singleton] at h; rw [h]; exact Nat.le_refl _
        have hx := h8 x (by simp)
        have hz8 := h8 z (by simp [hzo])
        have := numN_inj hx.1 hz8.1 hx.2 hz8.2 (by omega)
        rw [hz, this]
    have e : adjF o x = if x ∈ o then o else o ++ [x] := by
      unfold adjF
      by_cases hx : x ∈ o
      · rw [if_pos hx, if_pos (hkey.2 hx)]
      · rw [if_neg hx, if_neg fun q => hx (hkey.1 q)]
    rw [e]
    split
    · next hx =>
      exact ih (o := o) (fun y hy => h8 y ((List.mem_append.1 hy).elim (fun h => List.mem_append_left _ h) fun h => List.mem_append_right _ (List.mem_cons_of_mem _ h))) (hs.sublist (List.Sublist.append (List.Sublist.refl _) (List.sublist_cons_self _ _)))
    · exact ih (o := o ++ [x]) (by simpa using h8) (by simpa using hs)
theorem nms_sorted {s : List (List Int)} (h : StaR s) (c : Nat) : (nmsS s c).Pairwise fun x y => numN x ≤ numN y := by
  unfold nmsS
  refine List.pairwise_map.2 ?_
  have hp : (s.filter (liveQ c)).Pairwise fun a b => rankK (akey a) < rankK (akey b) := h.sorted.sublist List.filter_sublist
  refine hp.imp_of_mem fun {a b} ha hb hab => ?_
  obtain ⟨ha1, ha2⟩ := List.mem_filter.1 ha
  obtain ⟨hb1, hb2⟩ := List.mem_filter.1 hb
  have hao := h.ok a ha1
  have hbo := h.ok b hb1
  rw [live_key hao] at ha2
  rw [live_key hbo] at hb2
  simp only [Bool.and_eq_true, decide_eq_true_eq] at ha2 hb2
  have n1a := numN_64 hao.key.item (kitem_len hao.key.len)
  have n1b := numN_64 hbo.key.item (kitem_len hbo.key.len)
  have d1 := dotN_lt hao.key
  have d2 := dotN_lt hbo.key
  have e : headN (akey a) = headN (akey b) := by unfold headN; omega
  unfold rankK at hab
  omega
theorem nms_ok {s : List (List Int)} (h : AOks s) (c : Nat) : ∀ x ∈ nmsS s c, x.length = 8 ∧ Byt x := fun x hx => by
  obtain ⟨a, ha, rfl⟩ := List.mem_map.1 hx
  have hk := (h a (List.mem_filter.1 ha).1).key
  exact ⟨kitem_len hk.len, hk.item⟩
theorem adj_itm {s : List (List Int)} (h : StaR s) (c : Nat) : adjS (nmsS s c) = itmS s c := adj_ded (by simpa using nms_ok h.ok c) (by simpa using nms_sorted h c)
theorem adj_snoc (ns : List (List Int)) (x : List Int) : adjS (ns ++ [x]) = adjF (adjS ns) x := by rw [adjS, List.foldl_append]; rfl
theorem itm_ok {s : List (List Int)} (h : AOks s) (c : Nat) : ∀ x ∈ itmS s c, x.length = 8 ∧ Byt x := fun x hx => nms_ok h c x (mem_ded.1 hx)
theorem itm_len (s : List (List Int)) (c : Nat) : (itmS s c).length ≤ s.length := Nat.le_trans (ded_len _) (nms_len s c)
theorem adj_len : ∀ (ns : List (List Int)), (adjS ns).length ≤ ns.length := by
  have key : ∀ (ns o : List (List Int)), (ns.foldl adjF o).length ≤ o.length + ns.length := by
    intro ns
    induction ns with
    | nil => intro o; simp
    | cons x ns ih =>
      intro o
      rw [List.foldl_cons, List.length_cons]
      refine Nat.le_trans (ih _) ?_
      unfold adjF
      split
      · omega
      · simp; omega
  intro ns
  have := key ns []
  simpa [adjS] using this
theorem adj_eight {ns : List (List Int)} (h : ∀ x ∈ ns, x.length = 8) : ∀ x ∈ adjS ns, x.length = 8 := by
  have key : ∀ (ns o : List (List Int)), (∀ x ∈ ns, x.length = 8) → (∀ x ∈ o, x.length = 8) → ∀ x ∈ ns.foldl adjF o, x.length = 8 := by
    intro ns
    induction ns with
    | nil => intro o _ h; exact h
    | cons y ns ih =>
      intro o h1 h2
      rw [List.foldl_cons]
      refine ih _ (fun x hx => h1 x (by simp [hx])) ?_
      unfold adjF
      split
      · exact h2
      · intro x hx
        rcases List.mem_append.1 hx with hx | hx
        · exact h2 x hx
        · rw [List.mem_singleton] at hx; rw [hx]; exact h1 y (by simp)
  exact key ns [] h (by simp)
def qtyB (l : List (List Int)) (c : Nat) (it : List Int) : Bool := decide (0 < ((tagS (normP l) c it 1).map akey).length)
def qtyN (l : List (List Int)) (c : Nat) (it : List Int) : Int := if qtyB l c it = true then max (totL (normP l) c it) 0 else 0
theorem tot_b {l : List (List Int)} (hv : AOks l) (hn : l.length ≤ 1000000000) (c : Nat) (it : List Int) : -4294967295000000000 ≤ totL (normP l) c it ∧ totL (normP l) c it ≤ 4294967295000000000 := by
  have h1 := tot_le (c := c) (it := it) (norm_sta hv)
  have h2 := norm_len l
  omega
theorem qty_b {l : List (List Int)} (hv : AOks l) (hn : l.length ≤ 1000000000) (c : Nat) (it : List Int) : 0 ≤ qtyN l c it ∧ qtyN l c it ≤ 4294967295000000000 := by
  have h1 := tot_b hv hn c it
  unfold qtyN
  split <;> omega

theorem last_get {o : List (List Int)} {x : List Int} (h : 0 < o.length) : o.getLast? = some x ↔ o.getD (o.length - 1) [] = x := by
  rw [List.getLast?_eq_getElem?, List.getD_eq_getElem?_getD, List.getElem?_eq_getElem (by omega)]
  simp
theorem keys_take {l : List (List Int)} {k : Nat} {x : List Int} (hk : k < l.length) (hx : l.getD k [] = x) : (l.take (k + 1)).map akey = (l.take k).map akey ++ [akey x] := by rw [take_snoc hk, hx, List.map_append]; rfl
end Go.Proofs.YtpekghaodmeemaaGreat
set_option linter.unusedSimpArgs false
set_option linter.unusedVariables false
set_option maxHeartbeats 2000000
set_option maxRecDepth 100000
namespace Go.Proofs.YtpekghaodmeemaaGreat
open Go.RowKit
theorem c_ref14keys (w0 : World) (A : Option Addr) (c : Nat) (l : List (List Int)) (hr : Rd w0 A 21 l.length (arows l)) (hv : AOks l) (hn : l.length ≤ 1000000000)  :
    CallR Tryz.prog 45 #[.slice A l.length c] w0 fun v w' => ∃ (O : Option Addr) (oc : Nat), v = .slice O (l.map akey).length oc ∧ St NoB w0 w' [.vec O oc 61 12 (l.map akey).length (krows (l.map akey))] := by
 have hS := St.rd1 (S := NoB) hr
 have hnl := arows_len l
 refine c_enter (l := [.slice A l.length c, undef, undef, undef, undef, undef, undef, undef, undef, undef, undef, undef, undef, undef, undef, undef, undef, undef, undef, undef]) Tryz.func45 rfl (by simp only [Tryz.ntmps45, List.size_toArray, List.length_cons, List.length_nil, Nat.reduceAdd, Nat.reduceSub, Array.replicate_succ, Array.replicate_zero, List.push_toArray, List.append_toArray, List.nil_append, List.cons_append]) ?_
 refine x_seq fun K1 hK1 => x_region ?_
 refine s_go s_assign ?_
 try simp only [nY]
 refine x_nil (hK1 _ _ ?_)
 refine x_seq fun K2 hK2 => x_region ?_
 refine s_go s_assign ?_
 try simp only [nY]
 refine x_nil (hK2 _ _ ?_)
 refine x_seq fun K3 hK3 => ?_
 refine x_seq fun K4 hK4 => x_region ?_
 refine s_go s_assign ?_
 try simp only [nY]
 refine x_nil (hK4 _ _ ?_)
 refine x_block ?_
 refine x_loop [3, 4, 5, 6, 7, 8, 9, 10, 11, 12, 13, 14, 15, 16, 17, 18] (fun m f w => ∃ (k : Nat) (O : Option Addr) (oc : Nat), k ≤ l.length ∧ m = l.length - k ∧ f 4 = .int .i64 (k : Int) ∧ f 3 = .slice O ((l.take k).map akey).length oc ∧ St NoB w0 w [.vec O oc 61 12 ((l.take k).map akey).length (krows ((l.take k).map akey)), .rd A 21 (l).length (arows (l))]) (l.length) ?init1 (fun m1 f1 wl1 hI => ?_)
 case init1 =>
  try simp only [nY]
  replace hS := hS.nil_vec 61 12
  exact ⟨0, none, 0, by omega, rfl, rfl, rfl, hS.sel (by repeat (first | exact Sel.nil | (refine Sel.cons (by repeat (exact Del.head)) ?_)))⟩
 obtain ⟨k, O, oc, hk0, hmk, h4, h3, hS⟩ := hI
 simp only [clob, List.foldl, n3, n4, h4, h3]
 obtain ⟨x, hx⟩ : ∃ x, l.getD k [] = x := ⟨_, rfl⟩
 have hml : ((l.take k).map akey).length = k := by rw [List.length_map, List.length_take]; omega
 refine x_seq fun K5 hK5 => ?_
 refine x_seq fun K6 hK6 => x_region ?_
 refine s_go s_move ?_
 try simp only [nY]
 refine s_go s_move ?_
 try simp only [nY]
 refine s_go (s_len_sl U22) ?_
 try simp only [nY]
 refine s_go s_lss ?_
 try simp only [nY]
 refine x_nil (hK6 _ _ ?_)
 refine x_cond (ht := fun hc1 => ?_) (hf := fun hc1 => ?_)
 ·
  try simp only [dY] at hc1
  have ha : AtomOk x := by rw [← hx]; exact hv.get (by omega)
  have hxl := ha.key.len
  have hst := keys_take (by omega) hx
  refine x_skip ?_
  refine hK5 _ _ ?_
  refine x_seq fun K7 hK7 => ?_
  refine x_block ?_
  refine x_region ?_
  refine s_go s_move ?_
  try simp only [nY]
  refine s_go s_move ?_
  try simp only [nY]
  refine s_go s_move ?_
  try simp only [nY]
  refine s_go (m_indexAddr_rd U22 ti66 (hS := hS)) ?_
  try simp only [nY, Nat.mul_one, Nat.zero_add, Int.toNat_natCast, Int.reduceToNat]
  refine s_go (m_fieldAddr_rd U66 (hi := ti61) (hS := hS)) ?_
  try simp only [nY, fY, gY]
  refine s_go (m_loada_rd U61 (hi := ti61) (hS := hS) (hfit := by rw [arows_len]; omega)) ?_
  try simp only [nY, gY]
  rw [arow_key (by omega) hv, hx]
  refine m_buildRow (cells := (KA (akey x))) U47 ti61 (hc := by simp only [List.map_toArray, List.map_cons, List.map_nil, nY, List.toList_toArray]; exact fill_one (by rfl) (zi_size12 hxl) (by rfl)) (hS := hS) (h := fun w1 g1 hS => ?_)
  try simp only [nY, aY] at hS ⊢
  replace hS := hS.obj_rd (sz := 12) (n := 1) (by exact zi_size12 hxl) .head
  rw [krow_one hxl] at hS
  refine m_append U47 ti61 (hS := hS) (h1 := rowsZ_cells _ _) (h := fun w2 A2 C2 hS => ?_)
  try simp only [← List.map_append, ← List.map_drop, ← List.map_take, Nat.mul_one, Nat.zero_mul, Nat.sub_zero, List.drop_zero, List.nil_append, Nat.zero_add] at hS ⊢
  try simp only [nY, aY] at hS ⊢
  rw [kadd_one] at hS
  refine s_go s_assign ?_
  try simp only [nY]
  refine x_nil (hK7 _ _ ?_)
  refine x_region ?_
  refine s_go s_move ?_
  try simp only [nY]
  refine s_go (s_add (hc := by exact wr_i64 (by omega) (by omega))) ?_
  try simp only [nY]
  refine s_go s_assign ?_
  try simp only [nY]
  refine x_nil ?_
  refine loop_back (m' := l.length - (k + 1)) (by simp only [clob, List.foldl, nZ]) ?_ ?_
  · try simp only [nY]
    exact ⟨k + 1, _, _, by omega, by omega, by rfl, by rw [hst, List.length_append]; rfl, by rw [hst, List.length_append]; exact hS.selA⟩
  · omega
 try simp only [dY] at hc1
 obtain rfl : k = l.length := by omega
 rw [List.take_of_length_le (Nat.le_refl _)] at hS ⊢
 refine x_exit (look_here ?_)
 refine hK3 _ _ ?_
 refine x_seq fun K8 hK8 => x_region ?_
 refine s_go s_move ?_
 try simp only [nY]
 refine s_go s_assign ?_
 try simp only [nY]
 refine x_nil (hK8 _ _ ?_)
 refine x_ret (r_tmp rfl ?_)
 exact ⟨_, _, rfl, hS.sel (by repeat (first | exact Sel.nil | (refine Sel.cons (by repeat (exact Del.head)) ?_)))⟩
theorem c_ref14Live (w0 : World) (A : Option Addr) (c : Nat) (l : List (List Int)) (hr : Rd w0 A 21 l.length (arows l)) (hv : AOks l) (hn : l.length ≤ 1000000000) (ct : Nat) (hct : ct < 65536) (it : List Int) (h8 : it.length = 8)  :
    CallR Tryz.prog 21 #[.slice A l.length c, .int .u16 (ct : Int), .agg (ic .u8 it)] w0 fun v w' => ∃ (O : Option Addr) (oc : Nat), v = .slice O ((tagS (normP l) ct it 1).map akey).length oc ∧ St NoB w0 w' [.vec O oc 61 12 ((tagS (normP l) ct it 1).map akey).length (krows ((tagS (normP l) ct it 1).map akey))] := by
 have hS := St.rd1 (S := NoB) hr
 have hno := (norm_sta hv).ok
 have hnb := norm_len l
 have htl := tag_len (normP l) ct it 1
 refine c_enter (l := [.slice A l.length c, .int .u16 (ct : Int), .agg (ic .u8 it), undef, undef, undef, undef, undef, undef, undef, undef, undef]) Tryz.func21 rfl (by simp only [Tryz.ntmps21, List.size_toArray, List.length_cons, List.length_nil, Nat.reduceAdd, Nat.reduceSub, Array.replicate_succ, Array.replicate_zero, List.push_toArray, List.append_toArray, List.nil_append, List.cons_append]) ?_
 refine x_seq fun K1 hK1 => x_region ?_
 refine m_box hS (fun w1 g1 hS => ?_)
 try simp only [nY, aY] at hS ⊢
 refine s_go s_assign ?_
 try simp only [nY]
 refine x_nil (hK1 _ _ ?_)
 refine x_seq fun K2 hK2 => x_region ?_
 refine s_go s_move ?_
 try simp only [nY]
 refine s_go s_move ?_
 try simp only [nY]
 refine s_go (m_load_row U25 (hi := ti25) (hS := hS) (hfit := by (simp only [ic_size, List.length_map, List.size_toArray]; omega))) ?_
 try simp only [nY, gY]
 refine s_call en46 ?_
 try simp only [nY, mY]
 refine CallR.mono (c_ref14tags _ A c l (hS.hasA) hv hn ct hct it h8 1 (by decide)) ?_
 rintro _ w2 ⟨Dt, et, rfl, hC2⟩
 replace hS := hS.call hC2
 simp only [List.cons_append, List.nil_append] at hS
 try simp only [nY]
 refine s_call en45 ?_
 try simp only [nY, mY]
 refine CallR.mono (c_ref14keys _ Dt et (tagS (normP l) ct it 1) (hS.vecRd (by repeat (exact Has.head))) (tag_ok hno ct it 1) (by omega)) ?_
 rintro _ w3 ⟨Ok, ok, rfl, hC3⟩
 replace hS := hS.call hC3
 simp only [List.cons_append, List.nil_append] at hS
 try simp only [nY]
 refine s_go s_assign ?_
 try simp only [nY]
 refine x_nil (hK2 _ _ ?_)
 refine x_ret (r_tmp rfl ?_)
 exact ⟨_, _, rfl, hS.sel (by repeat (first | exact Sel.nil | (refine Sel.cons (by repeat (exact Del.head)) ?_)))⟩
theorem c_ref15Total (w0 : World) (A : Option Addr) (c : Nat) (l : List (List Int)) (hr : Rd w0 A 21 l.length (arows l)) (hv : AOks l) (hn : l.length ≤ 1000000000) (ct : Nat) (hct : ct < 65536) (it : List Int) (h8 : it.length = 8) (hbt : Byt it)  :
    CallR Tryz.prog 20 #[.slice A l.length c, .int .u16 (ct : Int), .agg (ic .u8 it)] w0 fun v w' => v = .int .i64 (totL (normP l) ct it) ∧ Ext w0 w' := by
 have hS := St.rd1 (S := NoB) hr
 refine c_enter (l := [.slice A l.length c, .int .u16 (ct : Int), .agg (ic .u8 it), undef, undef, undef, undef, undef, undef, undef, undef, undef, undef, undef, undef, undef, undef, undef, undef, undef, undef, undef, undef, undef, undef, undef, undef, undef, undef, undef, undef, undef, undef, undef]) Tryz.func20 rfl (by simp only [Tryz.ntmps20, List.size_toArray, List.length_cons, List.length_nil, Nat.reduceAdd, Nat.reduceSub, Array.replicate_succ, Array.replicate_zero, List.push_toArray, List.append_toArray, List.nil_append, List.cons_append]) ?_
 refine x_seq fun K1 hK1 => x_region ?_
 refine m_box hS (fun w1 g1 hS => ?_)
 try simp only [nY, aY] at hS ⊢
 obtain ⟨gi, hgi⟩ : ∃ z, z = g1 := ⟨_, rfl⟩
 rw [← hgi] at hS ⊢
 refine s_go s_assign ?_
 try simp only [nY]
 refine x_nil (hK1 _ _ ?_)
 refine x_seq fun K2 hK2 => x_region ?_
 refine s_go s_assign ?_
 try simp only [nY]
 refine x_nil (hK2 _ _ ?_)
 refine x_seq fun K3 hK3 => ?_
 refine x_seq fun K4 hK4 => x_region ?_
 refine s_go s_assign ?_
 try simp only [nY]
 refine x_nil (hK4 _ _ ?_)
 refine x_block ?_
 refine x_loop [7, 8, 9, 10, 11, 12, 13, 14, 15, 16, 17, 18, 19, 20, 21, 22, 23, 24, 25, 26, 27, 28, 29, 30, 31, 32] (fun m f w => ∃ k : Nat, k ≤ 16 ∧ m = 16 - k ∧ f 8 = .int .i64 (k : Int) ∧ f 7 = .int .i64 (refT (normP l) ct it k) ∧ St NoB w0 w [.obj gi (.cells (ic .u8 it) 25 (0, 0)), .rd A 21 (l).length (arows (l))]) (16) ?init1 (fun m1 f1 wl1 hI => ?_)
 case init1 =>
  try simp only [nY]
  exact ⟨0, by omega, rfl, rfl, rfl, hS⟩
 obtain ⟨k, hk0, hmk, hf8, hf7, hS⟩ := hI
 simp only [clob, List.foldl, n3, n4, hf8, hf7]
 have hrl := refT_le hv hct h8 hbt k (by omega)
 obtain ⟨t, ht⟩ : ∃ t, refT (normP l) ct it k = t := ⟨_, rfl⟩
 rw [ht] at hrl
 simp only [ht]
 refine x_seq fun K5 hK5 => ?_
 refine x_seq fun K6 hK6 => x_region ?_
 refine s_go s_move ?_
 try simp only [nY]
 refine s_go s_lss ?_
 try simp only [nY]
 refine x_nil (hK6 _ _ ?_)
 refine x_cond (ht := fun hc1 => ?_) (hf := fun hc1 => ?_)
 ·
  try simp only [dY] at hc1
  have hq2 := hv_le hv (s := 2) (.inl rfl) (show k < 256 by omega) hct h8 hbt
  have hq3 := hv_le hv (s := 3) (.inr rfl) (show k < 256 by omega) hct h8 hbt
  obtain ⟨a2, hp2⟩ : ∃ t, hv2 (normP l) (turnK 2 k ct it) = t := ⟨_, rfl⟩
  obtain ⟨a3, hp3⟩ : ∃ t, hv2 (normP l) (turnK 3 k ct it) = t := ⟨_, rfl⟩
  rw [hp2] at hq2
  rw [hp3] at hq3
  refine x_skip ?_
  refine hK5 _ _ ?_
  refine x_seq fun K7 hK7 => ?_
  refine x_block ?_
  refine x_seq fun K8 hK8 => x_region ?_
  refine s_go s_move ?_
  try simp only [nY]
  refine s_go s_move ?_
  try simp only [nY]
  refine s_go s_move ?_
  try simp only [nY]
  refine s_go (m_load_row U25 (hi := ti25) (hS := hS) (hfit := by (simp only [ic_size, List.length_map, List.size_toArray]; omega))) ?_
  try simp only [nY, gY]
  refine s_go s_move ?_
  try simp only [nY]
  refine s_go (s_conv U3 U5 (hc := by exact wr_u8 (by omega) (by omega))) ?_
  try simp only [nY]
  refine s_go (s_build_struct (cells := (KA (turnK 2 k ct it))) U61 ti61 bp61 (hc := by simp only [List.map_toArray, List.map_cons, List.map_nil, nY, List.toList_toArray]; exact fill_key (by rfl) (by rfl) (by rfl) (by rfl) h8)) ?_
  try simp only [nY]
  refine s_call en44 ?_
  try simp only [nY, mY]
  refine CallR.mono (c_ref15Half _ A c l (hS.hasA) hv hn (turnK 2 k ct it) (turnK_ok (by decide) (by omega) hct h8 hbt)) ?_
  rintro _ w2 ⟨rfl, hE2⟩
  replace hS := hS.ext hE2
  try simp only [nY]
  rw [half_hv (by decide), hp2]
  refine s_go (s_conv U62 U3 (hc := by exact wr_i64 (by omega) (by omega))) ?_
  try simp only [nY]
  refine s_go (s_add (hc := by exact wr_i64 (by omega) (by omega))) ?_
  try simp only [nY]
  refine s_go s_assign ?_
  try simp only [nY]
  refine x_nil (hK8 _ _ ?_)
  refine x_region ?_
  refine s_go s_move ?_
  try simp only [nY]
  refine s_go s_move ?_
  try simp only [nY]
  refine s_go s_move ?_
  try simp only [nY]
  refine s_go (m_load_row U25 (hi := ti25) (hS := hS) (hfit := by (simp only [ic_size, List.length_map, List.size_toArray]; omega))) ?_
  try simp only [nY, gY]
  refine s_go s_move ?_
  try simp only [nY]
  refine s_go (s_conv U3 U5 (hc := by exact wr_u8 (by omega) (by omega))) ?_
  try simp only [nY]
  refine s_go (s_build_struct (cells := (KA (turnK 3 k ct it))) U61 ti61 bp61 (hc := by simp only [List.map_toArray, List.map_cons, List.map_nil, nY, List.toList_toArray]; exact fill_key (by rfl) (by rfl) (by rfl) (by rfl) h8)) ?_
  try simp only [nY]
  refine s_call en44 ?_
  try simp only [nY, mY]
  refine CallR.mono (c_ref15Half _ A c l (hS.hasA) hv hn (turnK 3 k ct it) (turnK_ok (by decide) (by omega) hct h8 hbt)) ?_
  rintro _ w3 ⟨rfl, hE3⟩
  replace hS := hS.ext hE3
  try simp only [nY]
  rw [half_hv (by decide), hp3]
  refine s_go (s_conv U62 U3 (hc := by exact wr_i64 (by omega) (by omega))) ?_
  try simp only [nY]
  refine s_go (s_sub (hc := by exact wr_i64 (by omega) (by omega))) ?_
  try simp only [nY]
  refine s_go s_assign ?_
  try simp only [nY]
  refine x_nil (hK7 _ _ ?_)
  refine x_region ?_
  refine s_go s_move ?_
  try simp only [nY]
  refine s_go (s_add (hc := by exact wr_i64 (by omega) (by omega))) ?_
  try simp only [nY]
  refine s_go s_assign ?_
  try simp only [nY]
  refine x_nil ?_
  refine loop_back (m' := 16 - (k + 1)) (by simp only [clob, List.foldl, nZ]) ?_ ?_
  · try simp only [nY]
    exact ⟨k + 1, by omega, by omega, by rfl, by rw [refT, ht, hp2, hp3], hS⟩
  · omega
 try simp only [dY] at hc1
 obtain rfl : k = 16 := by omega
 rw [refT_tot h8 (norm_sta hv)] at ht
 subst ht
 refine x_exit (look_here ?_)
 refine hK3 _ _ ?_
 refine x_seq fun K9 hK9 => x_region ?_
 refine s_go s_move ?_
 try simp only [nY]
 refine s_go s_assign ?_
 try simp only [nY]
 refine x_nil (hK9 _ _ ?_)
 refine x_ret (r_tmp rfl ?_)
 exact ⟨rfl, hS.ext_of⟩
end Go.Proofs.YtpekghaodmeemaaGreat
