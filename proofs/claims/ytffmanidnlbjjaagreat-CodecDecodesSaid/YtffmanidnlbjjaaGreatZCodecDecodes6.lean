/- Rules, plain words and walks that the claim leans on: Gc, Gd, Gf, Gg, Gk, Ua, Vyx, Uc, Ud, Ff, Ue. -/
import Derived.Test.YtffmanidnlbjjaaGreatZCodecDecodes5
set_option linter.unusedSimpArgs false
set_option linter.unusedVariables false
set_option linter.unusedSimpArgs false
set_option linter.unusedVariables false
set_option maxHeartbeats 2000000
set_option maxRecDepth 100000
namespace Go.Proofs.YtffmanidnlbjjaaGreat
open Go.RowKit

/-- a row among rows -/
structure Rw where
  A : Option Addr
  c : Nat
  l : List (List Int)
def rwV (r : Rw) : Value := .slice r.A r.l.length r.c
structure RwOk (w : World) (r : Rw) : Prop where
  rd : Rd w r.A 21 r.l.length (arows r.l)
  ok : AOks r.l
def flatR (rs : List Rw) : List (List Int) := (rs.map (·.l)).flatten
def rw0 : Rw := ⟨none, 0, []⟩
theorem rws_len (rs : List Rw) : (rs.map rwV).length = rs.length := by simp
theorem rws_get {rs : List Rw} {k : Nat} {r : Rw} (hk : k < rs.length) (hr : rs.getD k rw0 = r) : (rs.map rwV)[k]? = some (.slice r.A r.l.length r.c) := by
  rw [List.getElem?_map, List.getElem?_eq_getElem hk]
  rw [List.getD_eq_getElem?_getD, List.getElem?_eq_getElem hk] at hr
  have hr : rs[k] = r := hr
  rw [hr]; rfl
theorem rws_mem {rs : List Rw} {k : Nat} {r : Rw} (hk : k < rs.length) (hr : rs.getD k rw0 = r) : r ∈ rs := by rw [← hr]; exact getD_mem' hk
theorem flat_ok {w : World} : ∀ {rs : List Rw}, (∀ r ∈ rs, RwOk w r) → AOks (flatR rs)
  | [], _ => AOks.nil
  | r :: rs, h => (h r (by simp)).ok.app (flat_ok fun q hq => h q (by simp [hq]))
theorem flat_take {rs : List Rw} {k : Nat} {r : Rw} (hk : k < rs.length) (hr : rs.getD k rw0 = r) : flatR (rs.take (k + 1)) = flatR (rs.take k) ++ r.l := by
  rw [List.getD_eq_getElem?_getD, List.getElem?_eq_getElem hk] at hr
  have hr : rs[k] = r := hr
  rw [flatR, List.take_succ_eq_append_getElem hk, List.map_append, List.flatten_append, hr]; simp [flatR]
theorem flat_len_take (rs : List Rw) (k : Nat) : (flatR (rs.take k)).length ≤ (flatR rs).length := by
  conv => rhs; rw [← List.take_append_drop k rs]
  rw [flatR, flatR, List.map_append, List.flatten_append, List.length_append]; exact Nat.le_add_right _ _
theorem allE_take {F l : List (List Int)} {j : Nat} {x : List Int} (hj : j < l.length) (hx : l.getD j [] = x) : allE (F ++ l.take (j + 1)) = stepE (allE (F ++ l.take j)) x := by
  rw [take_snoc hj, ← List.append_assoc, allE_snoc, hx]
theorem step_no {E : List (List Int)} {x : List Int} (h : atomR x = false) : stepE E x = E := by rw [stepE, if_neg (by rw [h]; decide)]
theorem step_new {E : List (List Int)} {x : List Int} (h : atomR x = true) (hf : fnd (akey x) E = none) : stepE E x = eput x E := by rw [stepE, if_pos h, newA, hf]
theorem step_more {E : List (List Int)} {x v : List Int} (h : atomR x = true) (hf : fnd (akey x) E = some v) : stepE E x = eput (akey x ++ moreV v (aval x)) E := by rw [stepE, if_pos h, newA, hf]
theorem is_none {o : Option (List Int)} (h : o.isSome = false) : o = none := by cases o; rfl; cases h
theorem is_some {o : Option (List Int)} {d : List Int} (h : o.isSome = true) : o = some (o.getD d) := by cases o; cases h; rfl

theorem c_latAll (w0 : World) (B : Option Addr) (d : Nat) (rs : List Rw) (hB : Rd w0 B 1 rs.length (rs.map rwV)) (hrs : ∀ r ∈ rs, RwOk w0 r) (hm : rs.length ≤ 1000000000) (hn : (flatR rs).length ≤ 1000000000)  :
    CallR Tryz.prog 115 #[.slice B rs.length d] w0 fun v w' => ∃ A c, v = .slice A (normP (flatR rs)).length c ∧ St NoB w0 w' [.vec A c 88 21 (normP (flatR rs)).length (arows (normP (flatR rs)))] := by
 have hS := St.rd1 (S := NoB) hB
 have hfo := flat_ok hrs
 have hrl := rws_len rs
 refine c_enter (l := [.slice B rs.length d, undef, undef, undef, undef, undef, undef, undef, undef, undef, undef, undef, undef, undef, undef, undef, undef, undef, undef, undef, undef, undef, undef, undef, undef, undef, undef, undef, undef, undef, undef, undef, undef, undef, undef, undef, undef, undef, undef, undef, undef, undef, undef, undef, undef, undef, undef, undef]) Tryz.func115 rfl (by simp only [Tryz.ntmps115, List.size_toArray, List.length_cons, List.length_nil, Nat.reduceAdd, Nat.reduceSub, Array.replicate_succ, Array.replicate_zero, List.push_toArray, List.append_toArray, List.nil_append, List.cons_append]) ?_
 refine x_seq fun K1 hK1 => ?_
 refine x_region ?_
 refine s_go (s_assign) ?_
 try simp only [opv, nZ, Value.cells]
 refine x_nil ?_
 refine hK1 _ _ ?_
 refine x_seq fun K2 hK2 => ?_
 refine x_region ?_
 refine m_makeMap kv83 hS (fun w1 g1 hS => ?_)
 try simp only [opv, nZ, Value.cells, Array.toArray_toList] at hS ⊢
 obtain ⟨gm, hgm⟩ : ∃ z, z = g1 := ⟨_, rfl⟩
 rw [← hgm] at hS ⊢
 refine s_go (s_assign) ?_
 try simp only [opv, nZ, Value.cells]
 refine x_nil ?_
 refine hK2 _ _ ?_
 refine x_seq fun K3 hK3 => ?_
 refine x_seq fun K4 hK4 => ?_
 refine x_region ?_
 refine s_go (s_move) ?_
 try simp only [opv, nZ, Value.cells]
 refine s_go (s_len_sl Tryz.underlying216) ?_
 try simp only [opv, nZ, Value.cells]
 refine s_go (s_move) ?_
 try simp only [opv, nZ, Value.cells]
 refine x_nil ?_
 refine hK4 _ _ ?_
 refine x_block ?_
 refine x_loop [5, 7, 8, 9, 13, 14, 15, 16, 17, 18, 19, 20, 21, 22, 23, 24, 25, 26, 27, 28, 29, 30, 31, 32, 33, 34, 35, 36, 37, 38, 39, 40, 41, 42, 43, 44, 45] (fun m f w => ∃ i : Nat, i ≤ rs.length ∧ m = rs.length - i ∧ f 13 = .int .i64 (i : Int) ∧ St NoB w0 w [.obj gm (mObj kv83 (encD (allE (flatR (rs.take i))))), .rd B 1 rs.length (rs.map rwV)]) (rs.length) ?init1 (fun m1 f1 wl1 hI => ?_)
 case init1 =>
  try simp only [opv, nZ, Value.cells]
  exact ⟨0, by omega, rfl, rfl, hS⟩
 obtain ⟨i, hi, hmi, h13, hS⟩ := hI
 simp only [clob, List.foldl, n3, n4, h13]
 refine x_seq fun K5 hK5 => ?_
 refine x_region ?_
 refine s_go (s_lss) ?_
 try simp only [opv, nZ, Value.cells]
 refine x_nil ?_
 refine hK5 _ _ ?_
 refine x_seq fun K6 hK6 => ?_
 refine x_cond (ht := fun hc1 => ?_) (hf := fun hc1 => ?_)
 ·
  try simp only [dZ, ne_eq, bne_iff_ne, beq_iff_eq] at hc1
  obtain ⟨r, hr⟩ : ∃ r, rs.getD i rw0 = r := ⟨_, rfl⟩
  have hrm := hrs r (rws_mem (by omega) hr)
  have hro := hrm.ok
  have hrd := hrm.rd
  have hft := flat_take (by omega) hr
  have hfl := flat_len_take rs (i + 1)
  rw [hft, List.length_append] at hfl
  obtain ⟨F, hF⟩ : ∃ F, flatR (rs.take i) = F := ⟨_, rfl⟩
  rw [hF] at hS hft hfl
  have hFo : AOks F := by rw [← hF]; exact flat_ok fun q hq => hrs q (List.mem_of_mem_take hq)
  have hvl := arows_len r.l
  refine x_skip ?_
  refine hK6 _ _ ?_
  refine x_seq fun K7 hK7 => ?_
  refine x_block ?_
  refine x_seq fun K8 hK8 => ?_
  refine x_region ?_
  refine s_go (m_indexAddr_rd Tryz.underlying216 ti22 (hS := hS)) ?_
  try simp only [opv, nZ, Value.cells, Nat.mul_one, Nat.zero_add, Int.toNat_natCast, Int.reduceToNat]
  refine s_go (m_load_rd Tryz.underlying22 (hS := hS) (hv := rws_get (by omega) hr)) ?_
  try simp only [opv, nZ, Value.cells, List.getElem_toArray, List.getElem_cons_zero, List.getElem_cons_succ]
  replace hS := hS.rd_old hrd
  refine s_go (s_assign) ?_
  try simp only [opv, nZ, Value.cells]
  refine x_nil ?_
  refine hK8 _ _ ?_
  refine x_seq fun K9 hK9 => ?_
  refine x_region ?_
  refine s_go (s_move) ?_
  try simp only [opv, nZ, Value.cells]
  refine s_go (s_len_sl Tryz.underlying22) ?_
  try simp only [opv, nZ, Value.cells]
  refine s_go (s_move) ?_
  try simp only [opv, nZ, Value.cells]
  refine x_nil ?_
  refine hK9 _ _ ?_
  refine x_block ?_
  refine x_loop [7, 8, 9, 19, 20, 21, 22, 23, 24, 25, 26, 27, 28, 29, 30, 31, 32, 33, 34, 35, 36, 37, 38, 39, 40, 41, 42, 43, 44] (fun m f w => ∃ j : Nat, j ≤ r.l.length ∧ m = r.l.length - j ∧ f 19 = .int .i64 (j : Int) ∧ St NoB w0 w [.obj gm (mObj kv83 (encD (allE (F ++ r.l.take j)))), .rd r.A 21 (r.l).length (arows (r.l)), .rd B 1 rs.length (rs.map rwV)]) (r.l.length) ?init2 (fun m2 f2 wl2 hI => ?_)
  case init2 =>
   try simp only [opv, nZ, Value.cells]
   exact ⟨0, by omega, rfl, rfl, by rw [List.take_zero, List.append_nil]; exact hS.selA⟩
  obtain ⟨j, hj, hmj, h19, hS⟩ := hI
  simp only [clob, List.foldl, n3, n4, h19]
  obtain ⟨E, hE⟩ : ∃ E, allE (F ++ r.l.take j) = E := ⟨_, rfl⟩
  rw [hE] at hS
  have hEo : EOk E := by rw [← hE]; exact allE_ok (hFo.app (hro.take j))
  have hmok := enc_ok hEo.ok
  obtain ⟨x, hx⟩ : ∃ x, r.l.getD j [] = x := ⟨_, rfl⟩
  refine x_seq fun K10 hK10 => ?_
  refine x_region ?_
  refine s_go (s_lss) ?_
  try simp only [opv, nZ, Value.cells]
  refine x_nil ?_
  refine hK10 _ _ ?_
  refine x_seq fun K11 hK11 => ?_
  refine x_cond (ht := fun hc2 => ?_) (hf := fun hc2 => ?_)
  ·
   try simp only [dZ, ne_eq, bne_iff_ne, beq_iff_eq] at hc2
   have ha : AtomOk x := by rw [← hx]; exact hro.get (by omega)
   have hal := ha.len
   have hk := ha.key
   have hkl := hk.len
   have hvx := ha.val
   have hvl := hvx.len
   refine x_skip ?_
   refine hK11 _ _ ?_
   refine x_seq fun K12 hK12 => ?_
   refine x_block ?_
   refine x_seq fun K13 hK13 => ?_
   refine x_region ?_
   refine s_go (m_indexAddr_rd Tryz.underlying22 ti88 (hS := hS)) ?_
   try simp only [opv, nZ, Value.cells, Nat.mul_one, Nat.zero_add, Int.toNat_natCast, Int.reduceToNat]
   refine s_go (m_loada_rd Tryz.underlying88 (hi := ti88) (hS := hS) (hfit := by rw [arows_len]; omega)) ?_
   try simp only [opv, nZ, Value.cells, List.getElem_toArray, List.getElem_cons_zero, List.getElem_cons_succ]
   rw [arow_get (by omega) hro, hx]
   refine m_alloc ti88 hS (fun w2 g2 hS => ?_)
   try simp only [opv, nZ, Value.cells, Array.toArray_toList] at hS ⊢
   have h0l : (List.replicate 21 (0 : Int)).length = 21 := rfl
   replace hS : St NoB w0 w2 (.obj g2 (.cells (AA (List.replicate 21 0)) 88 (0, 0)) :: _) := hS
   refine m_store_obj ti88 (hS := hS) (hc := by exact zi_whole (by omega) (by omega)) (hv := by (show (zi _ _).toArray.size = _; rw [zi_size (by omega)]; rfl)) (hfit := by (rw [zi_size (by omega)]; decide)) (h1 := by exact zi_one _ _) (h := fun w3 hS => ?_)
   try simp only [opv, nZ, Value.cells, Array.toArray_toList] at hS ⊢
   refine x_nil ?_
   refine hK13 _ _ ?_
   refine x_seq fun K14 hK14 => ?_
   refine x_seq fun K15 hK15 => ?_
   refine x_region ?_
   refine s_go (m_load_row Tryz.underlying88 (hi := ti88) (hS := hS) (hfit := by (rw [zi_size (by omega)]; rfl))) ?_
   try simp only [opv, nZ, Value.cells, List.getElem_toArray, List.getElem_cons_zero, List.getElem_cons_succ]
   refine s_call en167 ?_
   try simp only [opv, nZ, Value.cells, List.map_toArray, List.map_cons, List.map_nil, List.append_toArray, List.cons_append, List.nil_append, Array.append_empty]
   refine CallR.mono (c_atomRight x ha _) ?_
   rintro _ w4 ⟨rfl, hE4⟩
   replace hS := hS.ext hE4
   try simp only [opv, nZ, Value.cells]
   refine s_go (s_not) ?_
   try simp only [opv, nZ, Value.cells]
   refine x_nil ?_
   refine hK15 _ _ ?_
   refine x_cond (ht := fun hc3 => ?_) (hf := fun hc3 => ?_)
   ·
    try simp only [dZ, ne_eq, bne_iff_ne, beq_iff_eq] at hc3
    have hax : atomR x = false := by simpa using hc3
    refine x_exit (look_here ?_)
    refine hK12 _ _ ?_
    refine x_region ?_
    refine s_go (s_add (hc := by exact wr_i64 (by omega) (by omega))) ?_
    try simp only [opv, nZ, Value.cells]
    refine s_go (s_move) ?_
    try simp only [opv, nZ, Value.cells]
    refine x_nil ?_
    refine loop_back (m' := r.l.length - (j + 1)) (by simp only [clob, List.foldl, nZ]) ?_ ?_
    · try simp only [opv, nZ, Value.cells]
      exact ⟨j + 1, by omega, by omega, by rfl, by rw [allE_take (by omega) hx, hE, step_no hax]; exact hS.selA⟩
    · omega
   ·
    try simp only [dZ, ne_eq, bne_iff_ne, beq_iff_eq] at hc3
    have hax : atomR x = true := by simpa using hc3
    refine x_skip ?_
    refine hK14 _ _ ?_
    refine x_seq fun K16 hK16 => ?_
    refine x_seq fun K17 hK17 => ?_
    refine x_region ?_
    refine s_go (s_move) ?_
    try simp only [opv, nZ, Value.cells]
    refine s_go (m_fieldAddr Tryz.underlying88 (hi := ti83)) ?_
    try simp only [opv, nZ, Value.cells, Nat.zero_add, Nat.add_zero, List.getElem_toArray, List.getElem_cons_zero, List.getElem_cons_succ]
    refine s_go (m_loada_obj Tryz.underlying83 (hi := ti83) (hS := hS) (hfit := by (rw [zi_size (by omega)]; decide))) ?_
    try simp only [opv, nZ, Value.cells, List.getElem_toArray, List.getElem_cons_zero, List.getElem_cons_succ]
    rw [atom_key hal]
    refine s_go (m_lookup_ok ky83 Tryz.underlying217 ti86 (hy := rfl) (ha := by trivial) (hD := by assumption) (hS := hS)) ?_
    try simp only [opv, nZ, Value.cells]
    rw [enc_val, enc_is]
    refine s_go (s_move) ?_
    try simp only [opv, nZ, Value.cells]
    refine s_go (s_extract (hv := rfl)) ?_
    try simp only [List.getElem_toArray, List.getElem_cons_zero, List.getElem_cons_succ]
    try simp only [opv, nZ, Value.cells]
    refine s_go (s_extract (hv := rfl)) ?_
    try simp only [List.getElem_toArray, List.getElem_cons_zero, List.getElem_cons_succ]
    try simp only [opv, nZ, Value.cells]
    refine m_alloc ti86 hS (fun w5 g5 hS => ?_)
    try simp only [opv, nZ, Value.cells, Array.toArray_toList] at hS ⊢
    have h9l : v9.length = 9 := rfl
    have hfl9 := (fndD_ok (k := akey x) hEo.ok).len
    replace hS : St NoB w0 w5 (.obj g5 (.cells (VA v9) 86 (0, 0)) :: _) := hS
    refine m_store_obj ti86 (hS := hS) (hc := by exact zi_whole (by omega) (by omega)) (hv := by (show (zi _ _).toArray.size = _; rw [zi_size (by omega)]; rfl)) (hfit := by (rw [zi_size (by omega)]; decide)) (h1 := by exact zi_one _ _) (h := fun w6 hS => ?_)
    try simp only [opv, nZ, Value.cells, Array.toArray_toList] at hS ⊢
    refine s_go (s_assign) ?_
    try simp only [opv, nZ, Value.cells]
    refine x_nil ?_
    refine hK17 _ _ ?_
    refine x_seq fun K18 hK18 => ?_
    refine x_region ?_
    refine s_go (s_move) ?_
    try simp only [opv, nZ, Value.cells]
    refine x_nil ?_
    refine hK18 _ _ ?_
    refine x_cond (ht := fun hc4 => ?_) (hf := fun hc4 => ?_)
    ·
     try simp only [dZ, ne_eq, bne_iff_ne, beq_iff_eq] at hc4
     have hfs := is_some (d := v9) hc4
     have hwo : ValOk ((fnd (akey x) E).getD v9) := fndD_ok hEo.ok
     obtain ⟨v, hvv⟩ : ∃ v, (fnd (akey x) E).getD v9 = v := ⟨_, rfl⟩
     rw [hvv] at hfs hwo hS ⊢
     have hvm := more_ok hwo hvx
     obtain ⟨y, hy⟩ : ∃ y, akey x ++ moreV v (aval x) = y := ⟨_, rfl⟩
     have hyy := kv_ok hk hvm
     rw [hy] at hyy
     have hst : allE (F ++ r.l.take (j + 1)) = eput y E := by rw [allE_take (by omega) hx, hE, step_more hax hfs, hy]
     have hyl := hyy.len
     have hyk := hyy.key.len
     have hyv := hyy.val.len
     have hmvl := hvm.len
     have hvvl := hwo.len
     refine x_region ?_
     refine s_go (m_load_row Tryz.underlying86 (hi := ti86) (hS := hS) (hfit := by (rw [zi_size (by omega)]; rfl))) ?_
     try simp only [opv, nZ, Value.cells, List.getElem_toArray, List.getElem_cons_zero, List.getElem_cons_succ]
     refine s_go (m_fieldAddr Tryz.underlying88 (hi := ti86)) ?_
     try simp only [opv, nZ, Value.cells, Nat.zero_add, Nat.add_zero, List.getElem_toArray, List.getElem_cons_zero, List.getElem_cons_succ]
     refine s_go (m_loada_obj Tryz.underlying86 (hi := ti86) (hS := hS) (hfit := by (rw [zi_size (by omega)]; decide))) ?_
     try simp only [opv, nZ, Value.cells, List.getElem_toArray, List.getElem_cons_zero, List.getElem_cons_succ]
     rw [atom_val hal]
     refine s_call en172 ?_
     try simp only [opv, nZ, Value.cells, List.map_toArray, List.map_cons, List.map_nil, List.append_toArray, List.cons_append, List.nil_append, Array.append_empty]
     refine CallR.mono (c_atomMore v (aval x) hwo hvx _) ?_
     rintro _ w7 ⟨rfl, hE7⟩
     replace hS := hS.ext hE7
     try simp only [opv, nZ, Value.cells]
     refine s_go (m_fieldAddr Tryz.underlying88 (hi := ti86)) ?_
     try simp only [opv, nZ, Value.cells, Nat.zero_add, Nat.add_zero, List.getElem_toArray, List.getElem_cons_zero, List.getElem_cons_succ]
     refine m_store_obj ti86 (hS := hS) (hc := by exact atom_put hal hmvl) (hv := by (show (zi _ _).toArray.size = _; rw [zi_size (by omega)]; rfl)) (hfit := by (rw [zi_size (by omega)]; decide)) (h1 := by exact zi_one _ _) (h := fun w8 hS => ?_)
     try simp only [opv, nZ, Value.cells, Array.toArray_toList] at hS ⊢
     rw [hy] at hS
     refine x_nil ?_
     refine hK16 _ _ ?_
     refine x_region ?_
     refine s_go (s_move) ?_
     try simp only [opv, nZ, Value.cells]
     refine s_go (m_fieldAddr Tryz.underlying88 (hi := ti83)) ?_
     try simp only [opv, nZ, Value.cells, Nat.zero_add, Nat.add_zero, List.getElem_toArray, List.getElem_cons_zero, List.getElem_cons_succ]
     refine s_go (m_loada_obj Tryz.underlying83 (hi := ti83) (hS := hS) (hfit := by (rw [zi_size (by omega)]; decide))) ?_
     try simp only [opv, nZ, Value.cells, List.getElem_toArray, List.getElem_cons_zero, List.getElem_cons_succ]
     rw [atom_key hyl]
     refine s_go (m_fieldAddr Tryz.underlying88 (hi := ti86)) ?_
     try simp only [opv, nZ, Value.cells, Nat.zero_add, Nat.add_zero, List.getElem_toArray, List.getElem_cons_zero, List.getElem_cons_succ]
     refine s_go (m_loada_obj Tryz.underlying86 (hi := ti86) (hS := hS) (hfit := by (rw [zi_size (by omega)]; decide))) ?_
     try simp only [opv, nZ, Value.cells, List.getElem_toArray, List.getElem_cons_zero, List.getElem_cons_succ]
     rw [atom_val hyl]
     have hyk2 := hyk
     refine m_mapUpdate ky83 Tryz.underlying217 (hy := rfl) (ha := by trivial) (hD := by assumption) (hS := hS) (h := fun w9 hS => ?_)
     try simp only [opv, nZ, Value.cells, Array.toArray_toList] at hS ⊢
     rw [enc_put] at hS
     refine x_nil ?_
     refine hK12 _ _ ?_
     refine x_region ?_
     refine s_go (s_add (hc := by exact wr_i64 (by omega) (by omega))) ?_
     try simp only [opv, nZ, Value.cells]
     refine s_go (s_move) ?_
     try simp only [opv, nZ, Value.cells]
     refine x_nil ?_
     refine loop_back (m' := r.l.length - (j + 1)) (by simp only [clob, List.foldl, nZ]) ?_ ?_
     · try simp only [opv, nZ, Value.cells]
       exact ⟨j + 1, by omega, by omega, by rfl, by rw [hst]; exact hS.selA⟩
     · omega
    ·
     try simp only [dZ, ne_eq, bne_iff_ne, beq_iff_eq] at hc4
     obtain ⟨y, hy⟩ : ∃ y, x = y := ⟨_, rfl⟩
     have hst : allE (F ++ r.l.take (j + 1)) = eput y E := by rw [allE_take (by omega) hx, hE, step_new hax (is_none hc4), hy]
     have hyl : y.length = 21 := by rw [← hy]; exact hal
     have hyk : (akey y).length = 12 := by rw [← hy]; exact hkl
     have hyv : (aval y).length = 9 := by rw [← hy]; exact hvl
     rw [hy] at hS
     refine x_skip ?_
     refine hK16 _ _ ?_
     refine x_region ?_
     refine s_go (s_move) ?_
     try simp only [opv, nZ, Value.cells]
     refine s_go (m_fieldAddr Tryz.underlying88 (hi := ti83)) ?_
     try simp only [opv, nZ, Value.cells, Nat.zero_add, Nat.add_zero, List.getElem_toArray, List.getElem_cons_zero, List.getElem_cons_succ]
     refine s_go (m_loada_obj Tryz.underlying83 (hi := ti83) (hS := hS) (hfit := by (rw [zi_size (by omega)]; decide))) ?_
     try simp only [opv, nZ, Value.cells, List.getElem_toArray, List.getElem_cons_zero, List.getElem_cons_succ]
     rw [atom_key hyl]
     refine s_go (m_fieldAddr Tryz.underlying88 (hi := ti86)) ?_
     try simp only [opv, nZ, Value.cells, Nat.zero_add, Nat.add_zero, List.getElem_toArray, List.getElem_cons_zero, List.getElem_cons_succ]
     refine s_go (m_loada_obj Tryz.underlying86 (hi := ti86) (hS := hS) (hfit := by (rw [zi_size (by omega)]; decide))) ?_
     try simp only [opv, nZ, Value.cells, List.getElem_toArray, List.getElem_cons_zero, List.getElem_cons_succ]
     rw [atom_val hyl]
     have hyk2 := hyk
     refine m_mapUpdate ky83 Tryz.underlying217 (hy := rfl) (ha := by trivial) (hD := by assumption) (hS := hS) (h := fun w10 hS => ?_)
     try simp only [opv, nZ, Value.cells, Array.toArray_toList] at hS ⊢
     rw [enc_put] at hS
     refine x_nil ?_
     refine hK12 _ _ ?_
     refine x_region ?_
     refine s_go (s_add (hc := by exact wr_i64 (by omega) (by omega))) ?_
     try simp only [opv, nZ, Value.cells]
     refine s_go (s_move) ?_
     try simp only [opv, nZ, Value.cells]
     refine x_nil ?_
     refine loop_back (m' := r.l.length - (j + 1)) (by simp only [clob, List.foldl, nZ]) ?_ ?_
     · try simp only [opv, nZ, Value.cells]
       exact ⟨j + 1, by omega, by omega, by rfl, by rw [hst]; exact hS.selA⟩
     · omega
  ·
   try simp only [dZ, ne_eq, bne_iff_ne, beq_iff_eq] at hc2
   obtain rfl : j = r.l.length := by omega
   refine x_exit (look_here ?_)
   refine hK7 _ _ ?_
   refine x_region ?_
   refine s_go (s_add (hc := by exact wr_i64 (by omega) (by omega))) ?_
   try simp only [opv, nZ, Value.cells]
   refine s_go (s_move) ?_
   try simp only [opv, nZ, Value.cells]
   refine x_nil ?_
   refine loop_back (m' := rs.length - (i + 1)) (by simp only [clob, List.foldl, nZ]) ?_ ?_
   · try simp only [opv, nZ, Value.cells]
     rw [List.take_of_length_le (by omega)] at hE
     rw [← hft] at hE
     rw [← hE] at hS
     exact ⟨i + 1, by omega, by omega, by rfl, hS.selA⟩
   · omega
 ·
  try simp only [dZ, ne_eq, bne_iff_ne, beq_iff_eq] at hc1
  obtain rfl : i = rs.length := by omega
  rw [List.take_of_length_le (Nat.le_refl _)] at hS
  refine x_exit (look_here ?_)
  refine hK3 _ _ ?_
  refine x_seq fun K19 hK19 => ?_
  refine x_region ?_
  refine s_go (s_move) ?_
  try simp only [opv, nZ, Value.cells]
  refine s_call en173 ?_
  try simp only [opv, nZ, Value.cells, List.map_toArray, List.map_cons, List.map_nil, List.append_toArray, List.cons_append, List.nil_append, Array.append_empty]
  refine CallR.mono (c_latState _ gm (allE (flatR rs)) (allE_ok hfo) (by have := allE_len (flatR rs); omega) (hS.owns (by repeat (first | exact Spl.nil | (apply Spl.cons (by repeat (exact Del.head))))))) ?_
  rintro _ w11 ⟨A11, c11, rfl, hC11⟩
  replace hS := hS.frame (by repeat (first | exact Spl.nil | (apply Spl.cons (by repeat (exact Del.head))))) hC11 (by intro r hr g hg; simp only [List.mem_cons, List.not_mem_nil, or_false] at hr; subst hr; (simp [Res.reads] at hg; done))
  simp only [List.cons_append, List.nil_append] at hS
  rw [norm_allE hfo] at hS ⊢
  try simp only [opv, nZ, Value.cells]
  refine s_go (s_assign) ?_
  try simp only [opv, nZ, Value.cells]
  refine x_nil ?_
  refine hK19 _ _ ?_
  refine x_ret ?_
  refine r_tmp rfl ?_
  exact ⟨_, _, rfl, hS.sel (by repeat (first | exact Sel.nil | (refine Sel.cons (by repeat (exact Del.head)) ?_)))⟩
end Go.Proofs.YtffmanidnlbjjaaGreat
set_option linter.unusedSimpArgs false
set_option linter.unusedVariables false
set_option maxHeartbeats 600000
set_option maxRecDepth 100000
namespace Go.Proofs.YtffmanidnlbjjaaGreat
open Go.RowKit

theorem rw_one {w : World} {A : Option Addr} {c : Nat} {l : List (List Int)} (h : Rd w A 21 l.length (arows l)) (hv : AOks l) : ∀ r ∈ [(⟨A, c, l⟩ : Rw)], RwOk w r := fun r hr => by rw [List.mem_singleton] at hr; rw [hr]; exact ⟨h, hv⟩
theorem flat_one (A : Option Addr) (c : Nat) (l : List (List Int)) : flatR [⟨A, c, l⟩] = l := by simp [flatR]
theorem c_latNorm (w0 : World) (A : Option Addr) (c : Nat) (l : List (List Int)) (hr : Rd w0 A 21 l.length (arows l)) (hv : AOks l) (hn : l.length ≤ 1000000000)  :
    CallR Tryz.prog 60 #[.slice A l.length c] w0 fun v w' => ∃ A c, v = .slice A (normP l).length c ∧ St NoB w0 w' [.vec A c 88 21 (normP l).length (arows (normP l))] := by
 have hS := St.rd1 (S := NoB) hr
 refine c_enter (l := [.slice A l.length c, undef, undef, undef, undef, undef]) Tryz.func60 rfl (by simp only [Tryz.ntmps60, List.size_toArray, List.length_cons, List.length_nil, Nat.reduceAdd, Nat.reduceSub, Array.replicate_succ, Array.replicate_zero, List.push_toArray, List.append_toArray, List.nil_append, List.cons_append]) ?_
 refine x_seq fun K1 hK1 => ?_
 refine x_region ?_
 refine s_go (s_assign) ?_
 try simp only [opv, nZ, Value.cells]
 refine x_nil ?_
 refine hK1 _ _ ?_
 refine x_seq fun K2 hK2 => ?_
 refine x_region ?_
 refine s_go (s_move) ?_
 try simp only [opv, nZ, Value.cells]
 refine m_buildRow (cells := #[_]) Tryz.underlying216 ti22 (hc := by simp only [List.map_toArray, List.map_cons, List.map_nil, opv, nZ, Value.cells, List.toList_toArray]; (repeat (refine fill_cons rfl rfl (Nat.le_of_ble_eq_true rfl) ?_)); rfl) (hS := hS) (h := fun w1 g1 hS => ?_)
 try simp only [opv, nZ, Value.cells, Array.toArray_toList] at hS ⊢
 replace hS := hS.obj_rd (sz := 1) (n := 1) rfl .head
 refine s_call en115 ?_
 try simp only [opv, nZ, Value.cells, List.map_toArray, List.map_cons, List.map_nil, List.append_toArray, List.cons_append, List.nil_append, Array.append_empty]
 refine CallR.mono (c_latAll _ (some ⟨g1, 0, none⟩) 1 [⟨A, c, l⟩] (hS.hasRd (by repeat (exact Has.head))) (rw_one (hS.hasRd (by repeat (first | exact Has.head | apply Has.tail))) hv) (Nat.le_of_ble_eq_true rfl) (by rw [flat_one]; omega)) ?_
 rintro _ w2 ⟨A2, c2, rfl, hC2⟩
 replace hS := hS.call hC2
 simp only [List.cons_append, List.nil_append] at hS
 rw [flat_one] at hS ⊢
 try simp only [opv, nZ, Value.cells]
 refine s_go (s_assign) ?_
 try simp only [opv, nZ, Value.cells]
 refine x_nil ?_
 refine hK2 _ _ ?_
 refine x_ret ?_
 refine r_tmp rfl ?_
 exact ⟨_, _, rfl, hS.sel (by repeat (first | exact Sel.nil | (refine Sel.cons (by repeat (exact Del.head)) ?_)))⟩
end Go.Proofs.YtffmanidnlbjjaaGreat
set_option linter.unusedSimpArgs false
set_option linter.unusedVariables false
set_option maxHeartbeats 600000
set_option maxRecDepth 100000
namespace Go.Proofs.YtffmanidnlbjjaaGreat
open Go.RowKit

theorem c_ref10Rows (w0 : World) (A : Option Addr) (c : Nat) (l : List (List Int)) (hr : Rd w0 A 21 l.length (arows l)) (hv : AOks l) (B : Option Addr) (d : Nat) (r : List (List Int)) (hr2 : Rd w0 B 21 r.length (arows r)) (hv2 : AOks r) (hn : l.length + r.length ≤ 4000000000)  :
    CallR Tryz.prog 22 #[.slice A l.length c, .slice B r.length d] w0 fun v w' => v = .bool (decide (l = r)) ∧ Ext w0 w' := by
 have hS := St.rd2 (S := NoB) hr hr2
 have hnl := arows_len l
 have hnr := arows_len r
 refine c_enter (l := [.slice A l.length c, .slice B r.length d, undef, undef, undef, undef, undef, undef, undef, undef, undef, undef, undef, undef, undef, undef, undef, undef, undef, undef, undef, undef, undef, undef, undef, undef]) Tryz.func22 rfl (by simp only [Tryz.ntmps22, List.size_toArray, List.length_cons, List.length_nil, Nat.reduceAdd, Nat.reduceSub, Array.replicate_succ, Array.replicate_zero, List.push_toArray, List.append_toArray, List.nil_append, List.cons_append]) ?_
 refine x_seq fun K1 hK1 => ?_
 refine x_region ?_
 refine s_go (s_assign) ?_
 try simp only [opv, nZ, Value.cells]
 refine x_nil ?_
 refine hK1 _ _ ?_
 refine x_seq fun K2 hK2 => ?_
 refine x_seq fun K3 hK3 => ?_
 refine x_region ?_
 refine s_go (s_move) ?_
 try simp only [opv, nZ, Value.cells]
 refine s_go (s_len_sl Tryz.underlying22) ?_
 try simp only [opv, nZ, Value.cells]
 refine s_go (s_move) ?_
 try simp only [opv, nZ, Value.cells]
 refine s_go (s_len_sl Tryz.underlying22) ?_
 try simp only [opv, nZ, Value.cells]
 refine s_go (s_neq) ?_
 try simp only [opv, nZ, Value.cells]
 refine x_nil ?_
 refine hK3 _ _ ?_
 refine x_cond (ht := fun hc1 => ?_) (hf := fun hc1 => ?_)
 ·
  try simp only [dZ, ne_eq, bne_iff_ne, beq_iff_eq] at hc1
  have hne : ¬ l = r := fun h => hc1 (by rw [h])
  refine x_seq fun K4 hK4 => ?_
  refine x_region ?_
  refine s_go (s_assign) ?_
  try simp only [opv, nZ, Value.cells]
  refine x_nil ?_
  refine hK4 _ _ ?_
  refine x_ret ?_
  refine r_tmp rfl ?_
  exact ⟨by first | exact congrArg Value.bool (decide_eq_true (by assumption)).symm | exact congrArg Value.bool (decide_eq_false (by assumption)).symm, hS.ext_of⟩
 ·
  try simp only [dZ, ne_eq, bne_iff_ne, beq_iff_eq] at hc1
  have hlr : l.length = r.length := by omega
  refine x_skip ?_
  refine hK2 _ _ ?_
  refine x_seq fun K5 hK5 => ?_
  refine x_seq fun K6 hK6 => ?_
  refine x_region ?_
  refine s_go (s_assign) ?_
  try simp only [opv, nZ, Value.cells]
  refine x_nil ?_
  refine hK6 _ _ ?_
  refine x_block ?_
  refine x_loop [4, 5, 11, 12, 13, 14, 15, 16, 17, 18, 19, 20, 21, 22, 23, 24, 25] (fun m f w => ∃ k : Nat, k ≤ l.length ∧ m = l.length - k ∧ f 5 = .int .i64 (k : Int) ∧ l.take k = r.take k ∧ St NoB w0 w [.rd A 21 (l).length (arows (l)), .rd B 21 (r).length (arows (r))]) (l.length) ?init1 (fun m1 f1 wl1 hI => ?_)
  case init1 =>
   try simp only [opv, nZ, Value.cells]
   exact ⟨0, by omega, rfl, rfl, rfl, hS⟩
  obtain ⟨k, hk0, hm, h5, hab, hS⟩ := hI
  simp only [clob, List.foldl, n3, n4, h5]
  obtain ⟨x, hx⟩ : ∃ x, l.getD k [] = x := ⟨_, rfl⟩
  obtain ⟨y, hy⟩ : ∃ y, r.getD k [] = y := ⟨_, rfl⟩
  refine x_seq fun K7 hK7 => ?_
  refine x_seq fun K8 hK8 => ?_
  refine x_region ?_
  refine s_go (s_move) ?_
  try simp only [opv, nZ, Value.cells]
  refine s_go (s_move) ?_
  try simp only [opv, nZ, Value.cells]
  refine s_go (s_len_sl Tryz.underlying22) ?_
  try simp only [opv, nZ, Value.cells]
  refine s_go (s_lss) ?_
  try simp only [opv, nZ, Value.cells]
  refine x_nil ?_
  refine hK8 _ _ ?_
  refine x_cond (ht := fun hc2 => ?_) (hf := fun hc2 => ?_)
  ·
   try simp only [dZ, ne_eq, bne_iff_ne, beq_iff_eq] at hc2
   have hxl : x.length = 21 := by rw [← hx]; exact (hv.get (by omega)).len
   have hyl : y.length = 21 := by rw [← hy]; exact (hv2.get (by omega)).len
   refine x_skip ?_
   refine hK7 _ _ ?_
   refine x_seq fun K9 hK9 => ?_
   refine x_block ?_
   refine x_seq fun K10 hK10 => ?_
   refine x_quiet (by kernel_rfl) (by kernel_rfl) hS ?_
   refine q_go (fun w hS => s_move) ?_
   try simp only [opv, nZ, Value.cells]
   refine q_go (fun w hS => s_move) ?_
   try simp only [opv, nZ, Value.cells]
   first | refine q_go (fun w hS => m_indexAddr_rd Tryz.underlying22 ti88 (hS := hS)) ?_ | refine q_go (fun w hS => m_indexAddr_vec Tryz.underlying22 ti88 (hS := hS)) ?_
   try simp only [opv, nZ, Value.cells, Nat.mul_one, Nat.zero_add, Int.toNat_natCast, Int.reduceToNat]
   first | refine q_go (fun w hS => m_load_row Tryz.underlying88 (hi := ti88) (hS := hS) (hfit := by rw [arows_len]; omega)) ?_ | refine q_go (fun w hS => m_loada_obj Tryz.underlying88 (hi := ti88) (hS := hS) (hfit := by rw [arows_len]; omega)) ?_ | refine q_go (fun w hS => m_loada_bx Tryz.underlying88 (hi := ti88) (hS := hS) (hfit := by rw [arows_len]; omega)) ?_ | refine q_go (fun w hS => m_loada_rd Tryz.underlying88 (hi := ti88) (hS := hS) (hfit := by rw [arows_len]; omega)) ?_ | refine q_go (fun w hS => m_loada_vec Tryz.underlying88 (hi := ti88) (hS := hS) (hfit := by rw [arows_len]; omega)) ?_
   try simp only [opv, nZ, Value.cells, List.getElem_toArray, List.getElem_cons_zero, List.getElem_cons_succ]
   rw [arow_get (by omega) hv, hx]
   refine q_go (fun w hS => s_move) ?_
   try simp only [opv, nZ, Value.cells]
   refine q_go (fun w hS => s_move) ?_
   try simp only [opv, nZ, Value.cells]
   first | refine q_go (fun w hS => m_indexAddr_rd Tryz.underlying22 ti88 (hS := hS)) ?_ | refine q_go (fun w hS => m_indexAddr_vec Tryz.underlying22 ti88 (hS := hS)) ?_
   try simp only [opv, nZ, Value.cells, Nat.mul_one, Nat.zero_add, Int.toNat_natCast, Int.reduceToNat]
   first | refine q_go (fun w hS => m_load_row Tryz.underlying88 (hi := ti88) (hS := hS) (hfit := by rw [arows_len]; omega)) ?_ | refine q_go (fun w hS => m_loada_obj Tryz.underlying88 (hi := ti88) (hS := hS) (hfit := by rw [arows_len]; omega)) ?_ | refine q_go (fun w hS => m_loada_bx Tryz.underlying88 (hi := ti88) (hS := hS) (hfit := by rw [arows_len]; omega)) ?_ | refine q_go (fun w hS => m_loada_rd Tryz.underlying88 (hi := ti88) (hS := hS) (hfit := by rw [arows_len]; omega)) ?_ | refine q_go (fun w hS => m_loada_vec Tryz.underlying88 (hi := ti88) (hS := hS) (hfit := by rw [arows_len]; omega)) ?_
   try simp only [opv, nZ, Value.cells, List.getElem_toArray, List.getElem_cons_zero, List.getElem_cons_succ]
   rw [arow_get (by omega) hv2, hy]
   refine q_go (fun w hS => s_neq_agg eqv88 (hg := eg88) (hX := rfl) (hY := rfl) (h1 := by assumption) (h2 := by assumption)) ?_
   try simp only [opv, nZ, Value.cells]
   clear hS
   refine q_nil fun w1 hS => ?_
   refine hK10 _ _ ?_
   refine x_cond (ht := fun hc3 => ?_) (hf := fun hc3 => ?_)
   ·
    try simp only [dZ, ne_eq, bne_iff_ne, beq_iff_eq] at hc3
    have hne : ¬ l = r := fun h => by rw [h, hy] at hx; exact hc3 hx.symm
    refine x_seq fun K11 hK11 => ?_
    refine x_region ?_
    refine s_go (s_assign) ?_
    try simp only [opv, nZ, Value.cells]
    refine x_nil ?_
    refine hK11 _ _ ?_
    refine x_ret ?_
    refine r_tmp rfl ?_
    exact ⟨by first | exact congrArg Value.bool (decide_eq_true (by assumption)).symm | exact congrArg Value.bool (decide_eq_false (by assumption)).symm, hS.ext_of⟩
   ·
    try simp only [dZ, ne_eq, bne_iff_ne, beq_iff_eq] at hc3
    have hxy : x = y := hc3
    refine x_skip ?_
    refine hK9 _ _ ?_
    refine x_region ?_
    refine s_go (s_move) ?_
    try simp only [opv, nZ, Value.cells]
    refine s_go (s_add (hc := by first | exact wr_i64 (by omega) (by omega) | rfl)) ?_
    try simp only [opv, nZ, Value.cells]
    refine s_go (s_assign) ?_
    try simp only [opv, nZ, Value.cells]
    refine x_nil ?_
    refine loop_back (m' := l.length - (k + 1)) (by simp only [clob, List.foldl, nZ]) ?_ ?_
    · try simp only [opv, nZ, Value.cells]
      exact ⟨k + 1, by omega, by omega, by rfl, by rw [take_snoc (by omega), take_snoc (by omega), hab, hx, hy, hxy], hS⟩
    · omega
  ·
   try simp only [dZ, ne_eq, bne_iff_ne, beq_iff_eq] at hc2
   obtain rfl : k = l.length := by omega
   have heq : l = r := by rw [List.take_of_length_le (Nat.le_refl _), hlr, List.take_of_length_le (Nat.le_refl _)] at hab; exact hab
   refine x_exit (look_here ?_)
   refine hK5 _ _ ?_
   refine x_seq fun K12 hK12 => ?_
   refine x_region ?_
   refine s_go (s_assign) ?_
   try simp only [opv, nZ, Value.cells]
   refine x_nil ?_
   refine hK12 _ _ ?_
   refine x_ret ?_
   refine r_tmp rfl ?_
   exact ⟨by first | exact congrArg Value.bool (decide_eq_true (by assumption)).symm | exact congrArg Value.bool (decide_eq_false (by assumption)).symm, hS.ext_of⟩
end Go.Proofs.YtffmanidnlbjjaaGreat
set_option linter.unusedSimpArgs false
set_option linter.unusedVariables false
set_option maxHeartbeats 600000
set_option maxRecDepth 100000
namespace Go.Proofs.YtffmanidnlbjjaaGreat
open Go.RowKit

/-- what a call hands back to be read: new, or what it was handed -/
structure RBack (w0 w' : World) (A : Option Addr) (l : List (List Int)) (B : Option Addr) (s : List (List Int)) : Prop where
  ext : Ext w0 w'
  rd : Rd w' B 21 s.length (arows s)
  wh : ∀ b, (Res.rd B 21 s.length (arows s)).reads = some b → w0.heap.size ≤ b ∨ (Res.rd A 21 l.length (arows l)).reads = some b
theorem pair_apart {g : Nat} {r s : Res} (ho : r.own = some g) (hs : s.own = none) (hrd : s.reads = some g) : ∀ {M : List Res}, M.Pairwise Res.compat → r ∈ M → s ∈ M → False
  | [], _, h, _ => by cases h
  | x :: M, hp, h1, h2 => by
    obtain ⟨hh, ht⟩ := List.pairwise_cons.1 hp
    rcases List.mem_cons.1 h1 with e1 | h1
    · rcases List.mem_cons.1 h2 with e2 | h2
      · rw [e1, ← e2, hs] at ho; cases ho
      · rw [← e1] at hh; exact ((hh s h2 g).1 ho).2 hrd
    · rcases List.mem_cons.1 h2 with e2 | h2
      · rw [← e2] at hh; exact ((hh r h1 g).2 ho).2 hrd
      · exact pair_apart ho hs hrd ht h1 h2
theorem St.back {S : Nat → Prop} {w0 w w' : World} {L : List Res} {A B : Option Addr} {l s : List (List Int)} (h : St S w0 w L) (k : RBack w w' A l B s) (hm : Has L (.rd A 21 l.length (arows l)) := by repeat (first | exact Has.head | apply Has.tail)) : St S w0 w' (.rd B 21 s.length (arows s) :: L) := by
  refine (h.ext k.ext).add_rd k.rd fun r hr g hg e => ?_
  rcases k.wh g e with h1 | h1
  · have := own_lt (h.holds r hr) hg; omega
  · exact pair_apart hg rfl h1 h.apart hr hm.mem
theorem arow_key {l : List (List Int)} {k : Nat} (hk : k < l.length) (hv : AOks l) : (((arows l).drop (k * 21)).take 12).toArray = KA (akey (l.getD k [])) := by
  have ha := hv.get hk
  have h1 := congrArg Array.toList (arow_get hk hv)
  rw [List.toList_toArray] at h1
  have h2 : ((arows l).drop (k * 21)).take 12 = (((arows l).drop (k * 21)).take 21).take 12 := by rw [List.take_take]; rfl
  have h3 := atom_key ha.len
  rw [List.drop_zero] at h3
  rw [h2, h1, h3]
end Go.Proofs.YtffmanidnlbjjaaGreat
set_option linter.unusedSimpArgs false
set_option linter.unusedVariables false
set_option maxHeartbeats 1000000
set_option maxRecDepth 100000
namespace Go.Proofs.YtffmanidnlbjjaaGreat
open Go.RowKit

def k10 : List Int := [1, 1, 97, 0, 0, 0, 0, 0, 0, 0, 2, 3]
def b10 : List Int := k10 ++ [2, 0, 0, 0, 0, 0, 0, 0, 0]
end Go.Proofs.YtffmanidnlbjjaaGreat
set_option linter.unusedSimpArgs false
set_option linter.unusedVariables false
set_option maxHeartbeats 2000000
set_option maxRecDepth 100000
namespace Go.Proofs.YtffmanidnlbjjaaGreat
open Go.RowKit

def encB (s : List (List Int)) : List Int := (s.map atomOut).flatten
def encP (l : List (List Int)) : List Int × Int := if 4096 < (normP l).length then ([], 15) else (vari (normP l).length ++ encB (normP l), 0)
theorem encB_cons (a : List Int) (s : List (List Int)) : encB (a :: s) = atomOut a ++ encB s := by simp [encB]
theorem encB_take {s : List (List Int)} {k : Nat} {x : List Int} (hk : k < s.length) (hx : s.getD k [] = x) : encB (s.take (k + 1)) = encB (s.take k) ++ atomOut x := by
  rw [take_snoc hk, hx, encB, encB, List.map_append, List.flatten_append]; simp
theorem encB_len : ∀ {s : List (List Int)}, AOks s → (encB s).length ≤ 70 * s.length
  | [], _ => by simp [encB]
  | a :: s, h => by
    have h1 := encB_len (s := s) fun b hb => h b (by simp [hb])
    have h2 := atomOut_len (h a (by simp))
    rw [encB_cons, List.length_append, List.length_cons]; omega
theorem c_codecEnc1 (w0 : World) (g : Nat) (A : Option Addr) (c : Nat) (xs : List Int) (hx : xs.length ≤ 1000000) (a : List Int) (ha : AtomOk a) (b : Nat) (hM : St (OwnB [.obj b (.cells #[.pointer (some ⟨g, 0, none⟩)] 145 (0, 0)), .obj g (.cells #[.slice A xs.length c] 201 (0, 0)), .vec A c 5 1 xs.length (xs.map (Value.int .u8))]) w0 w0 [.obj b (.cells #[.pointer (some ⟨g, 0, none⟩)] 145 (0, 0)), .obj g (.cells #[.slice A xs.length c] 201 (0, 0)), .vec A c 5 1 xs.length (xs.map (Value.int .u8))]) :
    CallR Tryz.prog 96 #[.agg (AA a), .pointer (some ⟨b, 0, none⟩)] w0 fun v w' => v = .tuple #[] ∧ WrSt w0 w' [.obj b (.cells #[.pointer (some ⟨g, 0, none⟩)] 145 (0, 0)), .obj g (.cells #[.slice A xs.length c] 201 (0, 0)), .vec A c 5 1 xs.length (xs.map (Value.int .u8))] g (xs ++ atomW a) [.obj b (.cells #[.pointer (some ⟨g, 0, none⟩)] 145 (0, 0))] := by
 have hS := hM
 refine c_enter (l := [.agg (AA a), .pointer (some ⟨b, 0, none⟩), undef, undef, undef, undef]) Tryz.func96 rfl (by simp only [Tryz.ntmps96, List.size_toArray, List.length_cons, List.length_nil, Nat.reduceAdd, Nat.reduceSub, Array.replicate_succ, Array.replicate_zero, List.push_toArray, List.append_toArray, List.nil_append, List.cons_append]) ?_
 refine x_seq fun K1 hK1 => ?_
 refine x_region ?_
 have hal := ha.len
 have hk := ha.key
 have hv := ha.val
 have hvl := hv.len
 have hkl := hk.len
 have h00 := akey_0 hal
 have htl := vtext_len hvl
 have htb := hv.text
 have hvb := hv.b0
 refine m_box hS (fun w1 g1 hS => ?_)
 try simp only [opv, nZ, Value.cells, Array.toArray_toList] at hS ⊢
 refine x_nil ?_
 refine hK1 _ _ ?_
 refine x_region ?_
 refine s_go (m_load_obj Tryz.underlying145 (hS := hS) (hv := by rfl)) ?_
 try simp only [opv, nZ, Value.cells, List.getElem_toArray, List.getElem_cons_zero, List.getElem_cons_succ]
 refine s_go (m_load_row Tryz.underlying88 (hi := ti88) (hS := hS) (hfit := by (rw [zi_size (by omega)]; rfl))) ?_
 try simp only [opv, nZ, Value.cells, List.getElem_toArray, List.getElem_cons_zero, List.getElem_cons_succ]
 refine s_call en97 ?_
 try simp only [opv, nZ, Value.cells, List.map_toArray, List.map_cons, List.map_nil, List.append_toArray, List.cons_append, List.nil_append, Array.append_empty]
 refine CallR.mono (c_atomWrite _ g A c xs (by omega) a ha (hS.owns (by repeat (first | exact Spl.nil | (apply Spl.cons (by repeat (first | exact Del.head | apply Del.tail))))))) ?_
 rintro _ w2 ⟨rfl, A2, c2, hC2⟩
 replace hS := hS.frame (by repeat (first | exact Spl.nil | (apply Spl.cons (by repeat (first | exact Del.head | apply Del.tail))))) hC2 (by intro r hr g hg; simp only [List.mem_cons, List.not_mem_nil, or_false] at hr; rcases hr with rfl | rfl | rfl <;> (simp [Res.reads] at hg; done))
 simp only [List.cons_append, List.nil_append] at hS
 try simp only [opv, nZ, Value.cells]
 refine x_nil ?_
 refine r_none rfl ?_
 exact ⟨rfl, _, _, hS.selA⟩
theorem c_codecWrite (w0 : World) (g b : Nat) (B : Option Addr) (d : Nat) (l : List (List Int)) (hv : AOks l) (hR : ∀ a ∈ l, atomR a = true) (hn : l.length ≤ 4096) (hM : St (OwnB [.obj b (.cells #[.pointer (some ⟨g, 0, none⟩)] 145 (0, 0)), .obj g (.cells #[.slice none 0 0] 201 (0, 0)), .vec none 0 5 1 0 (([] : List Int).map (Value.int .u8)), .rd B 21 (l).length (arows (l))]) w0 w0 [.obj b (.cells #[.pointer (some ⟨g, 0, none⟩)] 145 (0, 0)), .obj g (.cells #[.slice none 0 0] 201 (0, 0)), .vec none 0 5 1 0 (([] : List Int).map (Value.int .u8)), .rd B 21 (l).length (arows (l))]) :
    CallR Tryz.prog 94 #[.slice B l.length d, .func (.func 95) #[.pointer (some ⟨g, 0, none⟩)] #[], .func (.func 96) #[] #[.pointer (some ⟨b, 0, none⟩)]] w0 fun v w' => v = .tuple #[] ∧ WrSt w0 w' [.obj b (.cells #[.pointer (some ⟨g, 0, none⟩)] 145 (0, 0)), .obj g (.cells #[.slice none 0 0] 201 (0, 0)), .vec none 0 5 1 0 (([] : List Int).map (Value.int .u8)), .rd B 21 (l).length (arows (l))] g (vari l.length ++ encB l) [.obj b (.cells #[.pointer (some ⟨g, 0, none⟩)] 145 (0, 0))] := by
 have hS := hM
 have hvl := arows_len l
 have hl10 := vari_len10 (x := l.length) (by omega)
 refine c_enter (l := [.slice B l.length d, .func (.func 95) #[.pointer (some ⟨g, 0, none⟩)] #[], .func (.func 96) #[] #[.pointer (some ⟨b, 0, none⟩)], undef, undef, undef, undef, undef, undef, undef, undef, undef, undef, undef, undef, undef, undef, undef, undef, undef, undef, undef, undef]) Tryz.func94 rfl (by simp only [Tryz.ntmps94, List.size_toArray, List.length_cons, List.length_nil, Nat.reduceAdd, Nat.reduceSub, Array.replicate_succ, Array.replicate_zero, List.push_toArray, List.append_toArray, List.nil_append, List.cons_append]) ?_
 refine x_seq fun K1 hK1 => ?_
 refine x_region ?_
 refine s_go (s_move) ?_
 try simp only [opv, nZ, Value.cells]
 refine s_go (s_move) ?_
 try simp only [opv, nZ, Value.cells]
 refine s_go (s_len_sl Tryz.underlying22) ?_
 try simp only [opv, nZ, Value.cells]
 refine s_go (s_conv Tryz.underlying3 Tryz.underlying84 (hc := wr_u64 (by omega) (by omega))) ?_
 try simp only [opv, nZ, Value.cells]
 refine s_callm (hv := rfl) en95 ?_
 try simp only [opv, nZ, Value.cells, List.map_toArray, List.map_cons, List.map_nil, List.append_toArray, List.cons_append, List.nil_append, Array.append_empty]
 refine CallR.mono (c_wnum _ g none 0 [] (by simp) l.length (by omega) (hS.owns (by repeat (first | exact Spl.nil | (apply Spl.cons (by repeat (first | exact Del.head | apply Del.tail))))))) ?_
 rintro _ w1 ⟨rfl, A1, c1, hC1⟩
 replace hS := hS.frame (by repeat (first | exact Spl.nil | (apply Spl.cons (by repeat (first | exact Del.head | apply Del.tail))))) hC1 (by intro r hr g hg; simp only [List.mem_cons, List.not_mem_nil, or_false] at hr; rcases hr with rfl | rfl | rfl <;> (simp [Res.reads] at hg; done))
 simp only [List.cons_append, List.nil_append] at hS
 try simp only [opv, nZ, Value.cells]
 refine x_nil ?_
 refine hK1 _ _ ?_
 refine x_seq fun K2 hK2 => ?_
 refine x_region ?_
 refine s_go (s_move) ?_
 try simp only [opv, nZ, Value.cells]
 refine s_go (s_len_sl Tryz.underlying22) ?_
 try simp only [opv, nZ, Value.cells]
 refine s_go (s_move) ?_
 try simp only [opv, nZ, Value.cells]
 refine x_nil ?_
 refine hK2 _ _ ?_
 refine x_block ?_
 refine x_loop [7, 15, 16, 17, 18, 19, 20, 21, 22] (fun m f w => ∃ (k : Nat) (A : Option Addr) (c : Nat), k ≤ l.length ∧ m = l.length - k ∧ f 15 = .int .i64 (k : Int) ∧ St (OwnB [.obj b (.cells #[.pointer (some ⟨g, 0, none⟩)] 145 (0, 0)), .obj g (.cells #[.slice none 0 0] 201 (0, 0)), .vec none 0 5 1 0 (([] : List Int).map (Value.int .u8)), .rd B 21 (l).length (arows (l))]) w0 w [.obj b (.cells #[.pointer (some ⟨g, 0, none⟩)] 145 (0, 0)), .obj g (.cells #[.slice A (vari l.length ++ encB (l.take k)).length c] 201 (0, 0)), .vec A c 5 1 (vari l.length ++ encB (l.take k)).length ((vari l.length ++ encB (l.take k)).map (Value.int .u8)), .rd B 21 (l).length (arows (l))]) (l.length) ?init1 (fun m1 f1 wl1 hI => ?_)
 case init1 =>
  try simp only [opv, nZ, Value.cells]
  exact ⟨0, _, _, by omega, rfl, rfl, by rw [List.take_zero, show encB [] = [] from rfl, List.append_nil]; exact hS.selA⟩
 obtain ⟨k, A, c, hk0, hm, h15, hS⟩ := hI
 simp only [clob, List.foldl, n3, n4, h15]
 obtain ⟨x, hx⟩ : ∃ x, l.getD k [] = x := ⟨_, rfl⟩
 refine x_seq fun K3 hK3 => ?_
 refine x_region ?_
 refine s_go (s_lss) ?_
 try simp only [opv, nZ, Value.cells]
 refine x_nil ?_
 refine hK3 _ _ ?_
 refine x_seq fun K4 hK4 => ?_
 refine x_cond (ht := fun hc1 => ?_) (hf := fun hc1 => ?_)
 ·
  try simp only [dZ, ne_eq, bne_iff_ne, beq_iff_eq] at hc1
  have ha : AtomOk x := by rw [← hx]; exact hv.get (by omega)
  have hal := ha.len
  have hax : atomR x = true := hR x (by rw [← hx]; exact getD_mem' (by omega))
  have hst : (vari l.length ++ encB (l.take k)) ++ atomOut x = (vari l.length ++ encB (l.take (k + 1))) := by rw [encB_take (by omega) hx, List.append_assoc]
  have hkb := encB_len (hv.take k)
  rw [List.length_take] at hkb
  have hkl : (vari l.length ++ encB (l.take k)).length = (vari l.length).length + (encB (l.take k)).length := List.length_append
  refine x_skip ?_
  refine hK4 _ _ ?_
  refine x_seq fun K5 hK5 => ?_
  refine x_block ?_
  refine x_seq fun K6 hK6 => ?_
  refine x_region ?_
  refine s_go (m_indexAddr_rd Tryz.underlying22 ti88 (hS := hS)) ?_
  try simp only [opv, nZ, Value.cells, Nat.mul_one, Nat.zero_add, Int.toNat_natCast, Int.reduceToNat]
  refine s_go (m_loada_rd Tryz.underlying88 (hi := ti88) (hS := hS) (hfit := by rw [arows_len]; omega)) ?_
  try simp only [opv, nZ, Value.cells, List.getElem_toArray, List.getElem_cons_zero, List.getElem_cons_succ]
  rw [arow_get (by omega) hv, hx]
  refine m_alloc ti88 hS (fun w2 g2 hS => ?_)
  try simp only [opv, nZ, Value.cells, Array.toArray_toList] at hS ⊢
  have h0l : (List.replicate 21 (0 : Int)).length = 21 := rfl
  replace hS : St _ _ w2 (.obj g2 (.cells (AA (List.replicate 21 0)) 88 (0, 0)) :: _) := hS
  refine m_store_obj ti88 (hS := hS) (hc := by exact zi_whole (by omega) (by omega)) (hv := by (show (zi _ _).toArray.size = _; rw [zi_size (by omega)]; rfl)) (hfit := by (rw [zi_size (by omega)]; decide)) (h1 := by exact zi_one _ _) (h := fun w3 hS => ?_)
  try simp only [opv, nZ, Value.cells, Array.toArray_toList] at hS ⊢
  refine x_nil ?_
  refine hK6 _ _ ?_
  refine x_region ?_
  refine s_go (s_move) ?_
  try simp only [opv, nZ, Value.cells]
  refine s_go (m_load_row Tryz.underlying88 (hi := ti88) (hS := hS) (hfit := by (rw [zi_size (by omega)]; rfl))) ?_
  try simp only [opv, nZ, Value.cells, List.getElem_toArray, List.getElem_cons_zero, List.getElem_cons_succ]
  refine s_callv (hv := rfl) en96 ?_
  try simp only [opv, nZ, Value.cells, List.map_toArray, List.map_cons, List.map_nil, List.append_toArray, List.cons_append, List.nil_append, Array.append_empty]
  refine CallR.mono (c_codecEnc1 _ g A c (vari l.length ++ encB (l.take k)) (by omega) x ha b (hS.owns (by repeat (first | exact Spl.nil | (apply Spl.cons (by repeat (first | exact Del.head | apply Del.tail))))))) ?_
  rintro _ w4 ⟨rfl, A4, c4, hC4⟩
  replace hS := hS.frame (by repeat (first | exact Spl.nil | (apply Spl.cons (by repeat (first | exact Del.head | apply Del.tail))))) hC4 (by intro r hr g hg; simp only [List.mem_cons, List.not_mem_nil, or_false] at hr; rcases hr with rfl | rfl | rfl <;> (simp [Res.reads] at hg; done))
  simp only [List.cons_append, List.nil_append] at hS
  try simp only [opv, nZ, Value.cells]
  refine x_nil ?_
  refine hK5 _ _ ?_
  refine x_region ?_
  refine s_go (s_add (hc := by exact wr_i64 (by omega) (by omega))) ?_
  try simp only [opv, nZ, Value.cells]
  refine s_go (s_move) ?_
  try simp only [opv, nZ, Value.cells]
  refine x_nil ?_
  refine loop_back (m' := l.length - (k + 1)) (by simp only [clob, List.foldl, nZ]) ?_ ?_
  · try simp only [opv, nZ, Value.cells]
    rw [← atomOut_yes hax, hst] at hS
    exact ⟨k + 1, _, _, by omega, by omega, by rfl, hS.selA⟩
  · omega
 ·
  try simp only [dZ, ne_eq, bne_iff_ne, beq_iff_eq] at hc1
  obtain rfl : k = l.length := by omega
  rw [List.take_of_length_le (Nat.le_refl _)] at hS
  refine x_exit (look_here ?_)
  refine r_none rfl ?_
  exact ⟨rfl, _, _, hS.selA⟩
theorem c_codecEncode (w0 : World) (A : Option Addr) (c : Nat) (l : List (List Int)) (hr : Rd w0 A 21 l.length (arows l)) (hv : AOks l) (hn : l.length ≤ 1000000000)  :
    CallR Tryz.prog 42 #[.slice A l.length c] w0 fun v w' => ∃ A c, v = .tuple #[.slice A (encP l).1.length c, .int .i64 (encP l).2] ∧ St NoB w0 w' [.vec A c 5 1 (encP l).1.length ((encP l).1.map (Value.int .u8))] := by
 have hS := St.rd1 (S := NoB) hr
 have hno := (norm_sta hv).ok
 have hnr := (norm_sta hv).right
 have hnb := norm_len l
 have hnl := arows_len (normP l)
 have hbl := encB_len hno
 have hv10 : (normP l).length ≤ 4096 → (vari (normP l).length).length ≤ 10 := fun h => vari_len10 (by omega)
 have hal : (vari (normP l).length ++ encB (normP l)).length = (vari (normP l).length).length + (encB (normP l)).length := List.length_append
 refine c_enter (l := [.slice A l.length c, undef, undef, undef, undef, undef, undef, undef, undef, undef, undef, undef, undef, undef, undef, undef, undef, undef]) Tryz.func42 rfl (by simp only [Tryz.ntmps42, List.size_toArray, List.length_cons, List.length_nil, Nat.reduceAdd, Nat.reduceSub, Array.replicate_succ, Array.replicate_zero, List.push_toArray, List.append_toArray, List.nil_append, List.cons_append]) ?_
 refine x_seq fun K1 hK1 => ?_
 refine x_region ?_
 refine s_go (s_assign) ?_
 try simp only [opv, nZ, Value.cells]
 refine s_go (s_assign) ?_
 try simp only [opv, nZ, Value.cells]
 refine x_nil ?_
 refine hK1 _ _ ?_
 refine x_seq fun K2 hK2 => ?_
 refine x_region ?_
 refine s_go (s_move) ?_
 try simp only [opv, nZ, Value.cells]
 refine s_call en60 ?_
 try simp only [opv, nZ, Value.cells, List.map_toArray, List.map_cons, List.map_nil, List.append_toArray, List.cons_append, List.nil_append, Array.append_empty]
 refine CallR.mono (c_latNorm _ A c l (hS.hasRd (by repeat (exact Has.head))) hv hn) ?_
 rintro _ w1 ⟨Bn, cn, rfl, hC1⟩
 replace hS := hS.call hC1
 simp only [List.cons_append, List.nil_append] at hS
 replace hS := hS.vec_rd (by exact Upd.head)
 try simp only [opv, nZ, Value.cells]
 refine s_go (s_assign) ?_
 try simp only [opv, nZ, Value.cells]
 refine x_nil ?_
 refine hK2 _ _ ?_
 refine x_seq fun K3 hK3 => ?_
 refine x_seq fun K4 hK4 => ?_
 refine x_region ?_
 refine s_go (s_move) ?_
 try simp only [opv, nZ, Value.cells]
 refine s_go (s_len_sl Tryz.underlying22) ?_
 try simp only [opv, nZ, Value.cells]
 refine s_go (s_gtr) ?_
 try simp only [opv, nZ, Value.cells]
 refine x_nil ?_
 refine hK4 _ _ ?_
 refine x_cond (ht := fun hc1 => ?_) (hf := fun hc1 => ?_)
 ·
  try simp only [dZ, ne_eq, bne_iff_ne, beq_iff_eq] at hc1
  have hE : encP l = ([], 15) := if_pos (by omega)
  refine x_seq fun K5 hK5 => ?_
  refine x_region ?_
  refine s_go (s_assign) ?_
  try simp only [opv, nZ, Value.cells]
  refine s_go (s_assign) ?_
  try simp only [opv, nZ, Value.cells]
  refine x_nil ?_
  refine hK5 _ _ ?_
  refine x_ret ?_
  refine r_tmp2 rfl ?_
  exact ⟨none, 0, by rw [hE]; rfl, by rw [hE]; exact (hS.nil_vec 5 1).sel (by repeat (first | exact Sel.nil | (refine Sel.cons (by repeat (exact Del.head)) ?_)))⟩
 ·
  try simp only [dZ, ne_eq, bne_iff_ne, beq_iff_eq] at hc1
  have hE : encP l = (vari (normP l).length ++ encB (normP l), 0) := if_neg (by omega)
  refine x_skip ?_
  refine hK3 _ _ ?_
  refine x_seq fun K6 hK6 => ?_
  refine x_region ?_
  refine s_call en93 ?_
  try simp only [opv, nZ, Value.cells, List.map_toArray, List.map_cons, List.map_nil, List.append_toArray, List.cons_append, List.nil_append, Array.append_empty]
  refine CallR.mono (c_wnew _) ?_
  rintro _ w2 ⟨p, rfl, hC2⟩
  replace hS := hS.call hC2
  simp only [List.cons_append, List.nil_append] at hS
  try simp only [opv, nZ, Value.cells]
  refine m_alloc ti145 hS (fun w3 g3 hS => ?_)
  try simp only [opv, nZ, Value.cells, Array.toArray_toList] at hS ⊢
  obtain ⟨gb, hgb⟩ : ∃ z, z = g3 := ⟨_, rfl⟩
  rw [← hgb] at hS ⊢
  refine m_store_obj ti145 (hS := hS) (hc := by (exact splice_whole (by (simp [opv, Value.cells, *]; done)))) (hv := by rfl) (hfit := by (simp only [ic_size, List.length_map, List.size_toArray]; decide)) (h1 := by simp [opv, Value.cells, Value.oneCell']) (h := fun w4 hS => ?_)
  try simp only [opv, nZ, Value.cells, Array.toArray_toList] at hS ⊢
  refine x_nil ?_
  refine hK6 _ _ ?_
  refine x_seq fun K7 hK7 => ?_
  refine x_region ?_
  refine s_go (s_move) ?_
  try simp only [opv, nZ, Value.cells]
  refine s_go (m_load_obj Tryz.underlying145 (hS := hS) (hv := by rfl)) ?_
  try simp only [opv, nZ, Value.cells, List.getElem_toArray, List.getElem_cons_zero, List.getElem_cons_succ]
  refine s_go (s_makeFunc) ?_
  try simp only [opv, nZ, Value.cells, List.map_toArray, List.map_cons, List.map_nil]
  refine s_go (s_makeFunc) ?_
  try simp only [opv, nZ, Value.cells, List.map_toArray, List.map_cons, List.map_nil]
  refine s_call en94 ?_
  try simp only [opv, nZ, Value.cells, List.map_toArray, List.map_cons, List.map_nil, List.append_toArray, List.cons_append, List.nil_append, Array.append_empty]
  refine CallR.mono (c_codecWrite _ p gb Bn cn (normP l) hno hnr (by omega) (hS.owns (by repeat (first | exact Spl.nil | (apply Spl.cons (by repeat (exact Del.head))))))) ?_
  rintro _ w5 ⟨rfl, A5, c5, hC5⟩
  replace hS := hS.frame (by repeat (first | exact Spl.nil | (apply Spl.cons (by repeat (exact Del.head))))) hC5 (by intro r hr g hg; simp only [List.mem_cons, List.not_mem_nil, or_false] at hr; rcases hr with rfl | rfl | rfl <;> (simp [Res.reads] at hg; done))
  simp only [List.cons_append, List.nil_append] at hS
  try simp only [opv, nZ, Value.cells]
  refine x_nil ?_
  refine hK7 _ _ ?_
  refine x_seq fun K8 hK8 => ?_
  refine x_region ?_
  refine s_go (m_load_obj Tryz.underlying145 (hS := hS) (hv := by rfl)) ?_
  try simp only [opv, nZ, Value.cells, List.getElem_toArray, List.getElem_cons_zero, List.getElem_cons_succ]
  refine s_call en98 ?_
  try simp only [opv, nZ, Value.cells, List.map_toArray, List.map_cons, List.map_nil, List.append_toArray, List.cons_append, List.nil_append, Array.append_empty]
  refine CallR.mono (c_wout _ p _ _ (vari (normP l).length ++ encB (normP l)) (by omega) (hS.owns (by repeat (first | exact Spl.nil | (apply Spl.cons (by repeat (exact Del.head))))))) ?_
  rintro _ w6 ⟨A6, c6, rfl, hC6⟩
  replace hS := hS.frame (by repeat (first | exact Spl.nil | (apply Spl.cons (by repeat (exact Del.head))))) hC6 (by intro r hr g hg; simp only [List.mem_cons, List.not_mem_nil, or_false] at hr; rcases hr with rfl | rfl | rfl <;> (simp [Res.reads] at hg; done))
  simp only [List.cons_append, List.nil_append] at hS
  try simp only [opv, nZ, Value.cells]
  refine s_go (s_assign) ?_
  try simp only [opv, nZ, Value.cells]
  refine s_go (s_assign) ?_
  try simp only [opv, nZ, Value.cells]
  refine x_nil ?_
  refine hK8 _ _ ?_
  refine x_ret ?_
  refine r_tmp2 rfl ?_
  rw [hE]
  exact ⟨_, _, rfl, hS.sel (by repeat (first | exact Sel.nil | (refine Sel.cons (by repeat (exact Del.head)) ?_)))⟩
theorem c_codecSize (w0 : World) (A : Option Addr) (c : Nat) (l : List (List Int)) (hr : Rd w0 A 21 l.length (arows l)) (hv : AOks l) (hn : l.length ≤ 1000000000)  :
    CallR Tryz.prog 47 #[.slice A l.length c] w0 fun v w' => v = .int .i64 ((encP l).1.length : Int) ∧ Ext w0 w' := by
 have hS := St.rd1 (S := NoB) hr
 refine c_enter (l := [.slice A l.length c, undef, undef, undef, undef, undef, undef, undef, undef, undef, undef, undef]) Tryz.func47 rfl (by simp only [Tryz.ntmps47, List.size_toArray, List.length_cons, List.length_nil, Nat.reduceAdd, Nat.reduceSub, Array.replicate_succ, Array.replicate_zero, List.push_toArray, List.append_toArray, List.nil_append, List.cons_append]) ?_
 refine x_seq fun K1 hK1 => ?_
 refine x_region ?_
 refine s_go (s_assign) ?_
 try simp only [opv, nZ, Value.cells]
 refine x_nil ?_
 refine hK1 _ _ ?_
 refine x_seq fun K2 hK2 => ?_
 refine x_region ?_
 refine s_go (s_move) ?_
 try simp only [opv, nZ, Value.cells]
 refine s_call en42 ?_
 try simp only [opv, nZ, Value.cells, List.map_toArray, List.map_cons, List.map_nil, List.append_toArray, List.cons_append, List.nil_append, Array.append_empty]
 refine CallR.mono (c_codecEncode _ A c l (hS.hasRd (by repeat (exact Has.head))) hv hn) ?_
 rintro _ w1 ⟨A1, c1, rfl, hC1⟩
 replace hS := hS.call hC1
 simp only [List.cons_append, List.nil_append] at hS
 try simp only [opv, nZ, Value.cells]
 refine s_go (s_move) ?_
 try simp only [opv, nZ, Value.cells]
 refine s_go (s_extract (hv := rfl)) ?_
 try simp only [List.getElem_toArray, List.getElem_cons_zero, List.getElem_cons_succ]
 try simp only [opv, nZ, Value.cells]
 refine s_go (s_extract (hv := rfl)) ?_
 try simp only [List.getElem_toArray, List.getElem_cons_zero, List.getElem_cons_succ]
 try simp only [opv, nZ, Value.cells]
 refine s_go (s_assign) ?_
 try simp only [opv, nZ, Value.cells]
 refine s_go (s_assign) ?_
 try simp only [opv, nZ, Value.cells]
 refine x_nil ?_
 refine hK2 _ _ ?_
 refine x_seq fun K3 hK3 => ?_
 refine x_region ?_
 refine s_go (s_move) ?_
 try simp only [opv, nZ, Value.cells]
 refine s_go (s_len_sl Tryz.underlying73) ?_
 try simp only [opv, nZ, Value.cells]
 refine s_go (s_assign) ?_
 try simp only [opv, nZ, Value.cells]
 refine x_nil ?_
 refine hK3 _ _ ?_
 refine x_ret ?_
 refine r_tmp rfl ?_
 exact ⟨rfl, hS.ext_of⟩
end Go.Proofs.YtffmanidnlbjjaaGreat
set_option linter.unusedSimpArgs false
set_option linter.unusedVariables false
namespace Go.Proofs.YtffmanidnlbjjaaGreat
open Go.RowKit
section
variable {P : Program} {ops : Array Oper} {n rr : Act → World → Prop} {ex : List (Nat × (Act → World → Prop))} {ds : List Deferred} {r : Option Nat} {l : List Value} {w : World} {rest : List Oper} {d : Nat} {ty : TypeId} {pos : String} {aft : Array Edge}
theorem y_yield_g {t lp : Nat} {args : Array Operand} {tys : Array TypeId} {g : Nat × Bool} (hg : yielded ops (l.toArray) g.1 = some g.2) (hv : l.getD t undef = .func (.yield lp) #[] #[]) (h : YC P lp (args.map (opv l)) w fun v w'' => WY none P ops (Qx n rr ex) rest (frd ds (l.set d v)) w'') :
    WY none P ops (Qx n rr ex) (⟨some d, .call { callee := .value (.tmp t), args := args, argTypes := tys }, ty, pos, aft, some g⟩ :: rest) (frd ds l) w := by
  obtain ⟨f, tmps, asg, bd, h1, h2⟩ := h
  refine ⟨?_⟩
  unfold wpLi
  rw [if_pos (show Region.wanted _ (yielded ops (frd ds l).tmps) = true from w_on hg)]
  refine ⟨fun f _ => trivial, ?_⟩
  rw [Oper.semAt_eq _ _ _ (fun c e => by cases e), eval_frd]
  have hv' : opv l (.tmp t) = .func (.yield lp) #[] #[] := hv
  have hr : (execOp (opv l) ⟨some d, .call { callee := .value (.tmp t), args := args, argTypes := tys }, ty, pos, aft, some g⟩).run P w = .ok (.round lp f tmps asg bd) w := by
    simp [execOp, resolve, hv', Deferred.ofValue, invoke, h1]
  rw [hr, Oper.uponIn_round]
  refine ⟨fw_depth _, h2.mono ?_⟩
  rintro e w' ⟨v, rfl, q⟩
  show wpLi none P ops (Qx n rr ex) rest ((frd ds l).put (some d) v) w'
  rw [put_frd]; exact q.run
theorem y_off {op : Op} {g : Nat × Bool} (hg : yielded ops (l.toArray) g.1 = some (!g.2)) (h : WY r P ops (Qx n rr ex) rest (frd ds (l.set d undef)) w) : WY r P ops (Qx n rr ex) (⟨some d, op, ty, pos, aft, some g⟩ :: rest) (frd ds l) w := by
  refine ⟨?_⟩
  unfold wpLi
  rw [if_neg (show ¬ Region.wanted _ (yielded ops (frd ds l).tmps) = true by simp [Region.wanted, frd, hg])]
  show wpLi r P ops (Qx n rr ex) rest ((frd ds l).put (some d) undef) w
  rw [put_frd]; exact h.run
end
/-- an iterator that hands out, at each call of yield, what it needs -/
def IterX (P : Program) (gf : Nat) (lb : Array Value) (N : Nat) (es : Nat → List Value) (M : List Res) (J JN : List Res → Prop) : Prop :=
  ∀ (lp : Nat) (I O : Nat → World → List Res → Prop), (∀ k, ClI (I k)) → (∀ k, ClI (O k)) →
    (∀ k W L, k < N → J L → I k W L → YC P lp (es k).toArray W fun v W' => (v = .bool true ∧ I (k + 1) W' L) ∨ (v = .bool false ∧ O k W' [])) →
    ∀ w, I 0 w M → CallR P gf (#[.func (.yield lp) #[] #[]] ++ lb) w fun _ w' => (∃ L', JN L' ∧ I N w' L') ∨ ∃ k, O k w' []
theorem perm_in (R L : List Res) (a b : Res) : (R ++ ([a, b] ++ L)).Perm ((R ++ L) ++ [a, b]) := by
  rw [List.append_assoc]; exact List.Perm.append_left _ List.perm_append_comm
theorem perm_dn (R L : List Res) (a b : Res) : (R ++ ([a, b] ++ L)).Perm (b :: ((R ++ L) ++ [a])) := by
  refine (perm_in R L a b).trans ?_
  rw [show (R ++ L) ++ [a, b] = ((R ++ L) ++ [a]) ++ [b] by simp]
  exact List.perm_append_comm
/-- at a round's end: the caller's, and the iterator's as it was -/
def CX (C : List Res → Prop) (Lk : List Res) (X : List Res) : Prop := ∃ R, C R ∧ X = R ++ Lk
section
variable {P : Program} {n rr : Act → World → Prop} {ex : List (Nat × (Act → World → Prop))} {ds : List Deferred} {l : List Value} {w w0 : World} {S : Nat → Prop} {L : List Res}
theorem y_rangeX {gt : Operand} {ps : Array Tmp} {assign body : Code} {gf : Nat} {lb : Array Value} {N : Nat} {es : Nat → List Value} {M R : List Res} {J JN : List Res → Prop}
    (hg : opv l gt = .func (.func gf) #[] lb) (he : Enters P gf) (hI : IterX P gf lb N es M J JN) (hps : ∀ k, (es k).length = ps.size)
    (hS : St S w0 w L) (hs : Spl M L R) (C : Nat → List Res → Prop) (Xr : List Res → Prop) (exs : List (Nat × (List Res → Prop))) (h0 : C 0 R)
    (hround : ∀ (k : Nat) (W : World) (R Lk T : List Res) (lr : Nat), k < N → C k R → J Lk → St S w0 W ((R ++ Lk) ++ T) →
      assign.wpIn (Fw (some lr)) 0 P (Qx (AsgK S w0 T (fun a1 W2 T2 =>
        body.wpIn (Fw (some lr)) 0 P (Qx (StK S w0 (CX (C (k + 1)) Lk) T2) (StK S w0 Xr T2) (exs.map fun p => (p.1, StK S w0 p.2 T2))) a1 W2)) (fun _ _ => False) []) (frd [] (entL l ps.toList (es k))) W)
    (hdone : ∀ D T W R' L', C N R' → JN L' → St S w0 W (.obj D (.deferred (some [])) :: ((R' ++ L') ++ T)) → n (frd (mkD D :: ds) l) W)
    (hret : ∀ D T W R', Xr R' → St S w0 W (.obj D (.deferred (some [])) :: (R' ++ T)) → rr (frd (mkD D :: ds) l) W)
    (hex : ∀ p ∈ exs, ∀ D T W R', p.2 R' → St S w0 W (.obj D (.deferred (some [])) :: (R' ++ T)) → look p.1 ex (frd (mkD D :: ds) l) W) :
    (Code.rangeFunc gt ps assign body).wpIn (Fw none) 0 P (Qx n rr ex) (frd ds l) w := by
  refine wpIn_rangeFunc ?_
  intro fn _
  show ∃ _, _
  obtain ⟨rec, hrec⟩ : ∃ rec : LoopState → Option Code → Loop, rec = fun st pe => { state := st, pending := pe, fn, tmps := l.toArray, params := ps, assign, body, defers := w.heap.size } := ⟨_, rfl⟩
  obtain ⟨D, hD⟩ : ∃ D, D = w.heap.size := ⟨_, rfl⟩
  obtain ⟨W1, hW1⟩ : ∃ W1, (w.alloc (.deferred (some []))).alloc (.loop (rec .ready none)) = W1 := ⟨_, rfl⟩
  have hS1 : St S w0 W1 (.obj (D + 1) (.loop (rec .ready none)) :: .obj D (.deferred (some [])) :: L) := by
    have := (hS.alloc (.deferred (some []))).alloc (.loop (rec .ready none))
    rw [World.size_alloc, hW1, ← hD] at this
    exact this
  have hI0 : StX S w0 (C 0) (.obj (D + 1) (.loop (rec .ready none)) :: .obj D (.deferred (some [])) :: M) W1 := by
    refine ⟨R, h0, hS1.perm ?_⟩
    refine (((hs.perm.trans List.perm_append_comm).cons _).cons _).trans ?_
    exact (((List.perm_middle (l₁ := R) (l₂ := .obj D (.deferred (some [])) :: M) (a := .obj (D + 1) (.loop (rec .ready none)))).trans ((List.perm_middle (l₁ := R) (l₂ := M) (a := .obj D (.deferred (some [])))).cons _)).symm)
  refine ⟨D + 1, [mkD D], W1, { target := .fn (.func gf) lb, args := #[.func (.yield (D + 1)) #[] #[]] }, W1, gf, #[.func (.yield (D + 1)) #[] #[]] ++ lb, W1, ?_, ?_, fun _ _ => trivial, ?_, fw_depth _, ?_⟩
  · rw [← hW1, hrec, hD]; exact run_enterLoop_outer _ _ _ _ _
  · have hg' : (frd ds l).eval gt = .func (.func gf) #[] lb := by rw [eval_frd]; exact hg
    simp only [resolve, hg']
    simp [go_sem]
  · have := he (#[.func (.yield (D + 1)) #[] #[]] ++ lb) W1
    simp [invoke, go_sem, this]
  · have hc := hI (D + 1) (fun k W Lk => StX S w0 (C k) ([.obj (D + 1) (.loop (rec .ready none)), .obj D (.deferred (some []))] ++ Lk) W)
      (fun k W Lk => StX S w0 Xr ([.obj (D + 1) (.loop (rec .done (some .ret))), .obj D (.deferred (some []))] ++ Lk) W ∨ ∃ p, ∃ _ : p ∈ exs, StX S w0 p.2 ([.obj (D + 1) (.loop (rec .done (some (.exit p.1)))), .obj D (.deferred (some []))] ++ Lk) W)
      (fun k => StX.clI _ _) (fun k => (StX.clI _ _).or (ClI.ex fun p => ClI.ex fun _ => StX.clI _ _)) ?_ W1 hI0
    · refine (callsIn_fw (r := none) (k := 0) hc).mono ?_
      rintro e W2 ⟨v, rfl, ⟨L', hJ, hq⟩ | ⟨k, hq | ⟨p, hp, hq⟩⟩⟩
      · obtain ⟨hq2, hl⟩ := hq.put (.loop { rec .ready none with state := .exhausted })
        refine ⟨none, _, run_endLoop_p hl (by rw [hrec]; simp) (by rw [hrec]), ?_⟩
        obtain ⟨R', hC, h⟩ := hq2
        exact hdone D _ _ R' L' hC hJ (h.perm (perm_dn R' L' _ _))
      · obtain ⟨hq2, hl⟩ := hq.put (.loop { rec .done (some .ret) with state := .exhausted })
        refine ⟨some .ret, _, run_endLoop_p hl (by rw [hrec]; simp) (by rw [hrec]), ?_⟩
        obtain ⟨R', hC, h⟩ := hq2
        exact y_ret (hret D _ _ R' hC (h.perm ((List.perm_append_comm.trans (.swap _ _ _)).trans (List.Perm.cons _ (List.perm_append_comm (l₁ := [_]))))))
      · obtain ⟨hq2, hl⟩ := hq.put (.loop { rec .done (some (.exit p.1)) with state := .exhausted })
        refine ⟨some (.exit p.1), _, run_endLoop_p hl (by rw [hrec]; simp) (by rw [hrec]), ?_⟩
        obtain ⟨R', hC, h⟩ := hq2
        exact y_exit (hex p hp D _ _ R' hC (h.perm ((List.perm_append_comm.trans (.swap _ _ _)).trans (List.Perm.cons _ (List.perm_append_comm (l₁ := [_]))))))
    · rintro k W Lk hk hJ hq
      have hl : W.heap[D + 1]? = some (.loop (rec .ready none)) := (hq.put (.loop (rec .ready none))).2
      obtain ⟨Rk, hCk, hSk⟩ := hq
      have hy := run_yield (P := P) (args := (es k).toArray) hl (by rw [hrec]; simpa using hps k)
      rw [hrec] at hy
      simp only [entL_arr] at hy
      refine ⟨fn, _, assign, body, hy, roundIn_of_wpIn trivial ?_⟩
      refine wpIn_mono (hround k W Rk Lk _ (D + 1) hk hCk hJ (hSk.perm (perm_in Rk Lk _ _))) ?_
      rintro e a1 W2 q
      cases e with
      | normal =>
        obtain ⟨R1, hS2, hb⟩ := q
        obtain ⟨⟨R2, hR2, hS3⟩, hl2⟩ := StX.put (X := fun x => x = R1) (.loop { rec .ready none with state := .busy }) ⟨R1, rfl, hS2⟩
        subst hR2
        refine ⟨_, run_beginRound hl2 (by rw [hrec]), wpIn_mono (hb _ _ hS3) ?_⟩
        rintro e a3 W3 q3
        cases e with
        | normal =>
          obtain ⟨q4, hl4⟩ := StX.put (.loop (rec .ready none)) q3
          exact ⟨_, _, run_endRound none hl4, .bool true, rfl, .inl ⟨rfl, by obtain ⟨X, ⟨R', hC', rfl⟩, h9⟩ := q4; exact ⟨R', hC', by have := h9.perm (perm_in R' Lk _ _).symm; rw [hrec] at this ⊢; exact this⟩⟩⟩
        | ret =>
          obtain ⟨q4, hl4⟩ := StX.put (.loop (rec .done (some .ret))) q3
          exact ⟨_, _, run_endRound (some .ret) hl4, .bool false, rfl, .inr ⟨rfl, .inl (by have := q4; rw [hrec] at this ⊢; exact this)⟩⟩
        | exit i =>
          have hlk : ∃ p ∈ exs, p.1 = i ∧ StX S w0 p.2 (.obj (D + 1) (.loop { rec .ready none with state := .busy }) :: .obj D (.deferred (some [])) :: []) W3 := by
            have : ∀ (exs : List (Nat × (List Res → Prop))), look i (exs.map fun p => (p.1, StK S w0 p.2 (.obj (D + 1) (.loop { rec .ready none with state := .busy }) :: .obj D (.deferred (some [])) :: []))) a3 W3 → ∃ p ∈ exs, p.1 = i ∧ StX S w0 p.2 (.obj (D + 1) (.loop { rec .ready none with state := .busy }) :: .obj D (.deferred (some [])) :: []) W3 := by
              intro exs
              induction exs with
              | nil => intro h; exact h.elim
              | cons p exs ih =>
                intro h
                simp only [List.map_cons, look] at h
                split at h
                · next e => exact ⟨p, by simp, e.symm, h⟩
                · obtain ⟨p', hp', h'⟩ := ih h; exact ⟨p', by simp [hp'], h'⟩
            exact this exs q3
          obtain ⟨p, hp, rfl, q5⟩ := hlk
          obtain ⟨q4, hl4⟩ := StX.put (.loop (rec .done (some (.exit p.1)))) q5
          exact ⟨_, _, run_endRound (some (.exit p.1)) hl4, .bool false, rfl, .inr ⟨rfl, .inr ⟨p, hp, by have := q4; rw [hrec] at this ⊢; exact this⟩⟩⟩
        | goto i => exact q3.elim
        | panic ch => exact q3.elim
        | outgrown => exact q3.elim
      | exit i => exact q.elim
      | goto i => exact q.elim
      | ret => exact q.elim
      | panic ch => exact q.elim
      | outgrown => exact q.elim
end
end Go.Proofs.YtffmanidnlbjjaaGreat
set_option linter.unusedSimpArgs false
set_option linter.unusedVariables false
set_option maxHeartbeats 2000000
set_option maxRecDepth 100000
namespace Go.Proofs.YtffmanidnlbjjaaGreat
open Go.RowKit

theorem mkV_ok {n : Nat} {t : List Int} (hn : n < 18446744073709551616) (ht : t.length = 8) (hb : Byt t) : ValOk (mkV n t) := ⟨mkV_len ht, rfl, hn, hb⟩
theorem failS_ok {b : Bool} {e2 : Int} {s : Int × List Int} (h : ErrOk s.1 s.2) : ErrOk (failS b e2 s).1 (failS b e2 s).2 := by
  unfold failS
  split
  · intro h2; dsimp only at h2 ⊢; rw [if_neg h2]
  · exact h
section
variable {s : Nat} {e : Int} {xs : List Int}
theorem valP_val (hb : Byt xs) : ValOk (valP s e xs).1 := by
  have hv := oneS_val (e := e) hb
  have h2 := numS_le 4294967295 e xs
  have h4 := numS_le 1099511627775 e xs
  unfold valP
  split
  · exact mkV_ok (by omega) rfl nm0_byt
  · split
    · exact mkV_ok (by omega) rfl nm0_byt
    · split
      · exact mkV_ok (by omega) (namS_len _ _) (namS_byt (failS_byt (numS_byt hb)))
      · exact mkV_ok (by decide) rfl nm0_byt
theorem valP_byt (hb : Byt xs) : Byt (valP s e xs).2.2 := by
  unfold valP
  split
  · exact failS_byt (oneS_byt hb)
  · split
    · exact failS_byt (numS_byt hb)
    · split
      · exact namS_byt' (failS_byt (numS_byt hb))
      · exact hb
theorem valP_len2 : (valP s e xs).2.2.length ≤ xs.length := by
  unfold valP
  split
  · exact Nat.le_trans failS_len (oneS_len _ _)
  · split
    · exact Nat.le_trans failS_len (numS_len _ _ _)
    · split
      · exact Nat.le_trans (namS_len' _ _) (Nat.le_trans failS_len (numS_len _ _ _))
      · exact Nat.le_refl _
theorem valP_ok3 (h : ErrOk e xs) : ErrOk (valP s e xs).2.1 (valP s e xs).2.2 := by
  unfold valP
  split
  · exact failS_ok (oneS_ok h)
  · split
    · exact failS_ok (numS_ok h)
    · split
      · exact namS_ok (failS_ok (numS_ok h))
      · exact h
theorem atmS_st : (atmS e xs).2 = (valP (kn (keyS e xs).1 0) (keyS e xs).2.1 (keyS e xs).2.2).2 ∨ (atmS e xs).2 = (keyS e xs).2 := by
  by_cases h : (keyS e xs).2.1 = 0
  · by_cases h2 : (valP (kn (keyS e xs).1 0) (keyS e xs).2.1 (keyS e xs).2.2).2.1 = 0
    · rw [atmS_yes h h2]; exact .inl rfl
    · rw [atmS_no h h2]; exact .inl rfl
  · rw [atmS_key h]; exact .inr rfl
theorem atmS_byt (hb : Byt xs) : Byt (atmS e xs).2.2 := by
  rcases atmS_st (e := e) (xs := xs) with h | h <;> rw [h]
  · exact valP_byt (keyS_byt hb)
  · exact keyS_byt hb
theorem atmS_len2 : (atmS e xs).2.2.length ≤ xs.length := by
  rcases atmS_st (e := e) (xs := xs) with h | h <;> rw [h]
  · exact Nat.le_trans valP_len2 keyS_len
  · exact keyS_len
theorem atmS_ok3 (hb : ErrOk e xs) : ErrOk (atmS e xs).2.1 (atmS e xs).2.2 := by
  rcases atmS_st (e := e) (xs := xs) with h | h <;> rw [h]
  · exact valP_ok3 (keyS_ok hb)
  · exact keyS_ok hb
theorem atmS_atom (hb : Byt xs) (h0 : (atmS e xs).2.1 = 0) : AtomOk (atmS e xs).1 := by
  by_cases h : (keyS e xs).2.1 = 0
  · by_cases h2 : (valP (kn (keyS e xs).1 0) (keyS e xs).2.1 (keyS e xs).2.2).2.1 = 0
    · rw [atmS_yes h h2]; exact kv_ok (keyS_key hb) (valP_val (keyS_byt hb))
    · rw [atmS_no h h2] at h0; exact absurd h0 h2
  · rw [atmS_key h] at h0; exact absurd h0 h
end
theorem atmS_l21 (e : Int) {xs : List Int} (hw : Byt xs) : (atmS e xs).1.length = 21 := by
  have hk := keyS_l12 e hw
  by_cases h : (keyS e xs).2.1 = 0
  · by_cases h2 : (valP (kn (keyS e xs).1 0) (keyS e xs).2.1 (keyS e xs).2.2).2.1 = 0
    · rw [atmS_yes h h2]
      show ((keyS e xs).1 ++ (valP _ _ _).1).length = 21
      rw [List.length_append, hk, valP_len]
    · rw [atmS_no h h2]; rfl
  · rw [atmS_key h]; rfl
/-- up to n atoms that come, and where reading stands behind them -/
def rdA : Nat → Int → List Int → List (List Int) × Int × List Int
  | 0, e, xs => ([], e, xs)
  | n + 1, e, xs => if (atmS e xs).2.1 = 0 then ((atmS e xs).1 :: (rdA n (atmS e xs).2.1 (atmS e xs).2.2).1, (rdA n (atmS e xs).2.1 (atmS e xs).2.2).2) else ([], (atmS e xs).2)
section
variable {e : Int} {xs : List Int} {n : Nat}
theorem rdA_ok (h : (atmS e xs).2.1 = 0) : rdA (n + 1) e xs = ((atmS e xs).1 :: (rdA n (atmS e xs).2.1 (atmS e xs).2.2).1, (rdA n (atmS e xs).2.1 (atmS e xs).2.2).2) := by rw [rdA, if_pos h]
theorem rdA_no (h : ¬ (atmS e xs).2.1 = 0) : rdA (n + 1) e xs = ([], (atmS e xs).2) := by rw [rdA, if_neg h]
end
theorem rdA_len : ∀ {n : Nat} {e : Int} {xs : List Int}, (rdA n e xs).1.length ≤ n
  | 0, _, _ => Nat.le_refl _
  | n + 1, e, xs => by
    by_cases h : (atmS e xs).2.1 = 0
    · rw [rdA_ok h]; exact Nat.succ_le_succ rdA_len
    · rw [rdA_no h]; exact Nat.zero_le _
theorem rdA_aok : ∀ {n : Nat} {e : Int} {xs : List Int}, Byt xs → AOks (rdA n e xs).1
  | 0, _, _, _ => AOks.nil
  | n + 1, e, xs, hb => by
    by_cases h : (atmS e xs).2.1 = 0
    · rw [rdA_ok h]
      intro a ha
      rcases List.mem_cons.1 ha with rfl | ha
      · exact atmS_atom hb h
      · exact rdA_aok (atmS_byt hb) a ha
    · rw [rdA_no h]; exact AOks.nil
/-- k of n atoms have come -/
structure RdsI (n : Nat) (e0 : Int) (xs0 : List Int) (k : Nat) (pre : List (List Int)) (e : Int) (xs : List Int) : Prop where
  a : rdA n e0 xs0 = (pre ++ (rdA (n - k) e xs).1, (rdA (n - k) e xs).2)
  l : pre.length = k
  byt : Byt xs
  le : xs.length ≤ xs0.length
  eo : ErrOk e xs
section
variable {n k : Nat} {e0 e : Int} {xs0 xs : List Int} {pre : List (List Int)}
theorem RdsI.start (hb : Byt xs0) (h : ErrOk e0 xs0) : RdsI n e0 xs0 0 [] e0 xs0 := ⟨rfl, rfl, hb, Nat.le_refl _, h⟩
theorem RdsI.next (h : RdsI n e0 xs0 k pre e xs) (hk : k < n) (h0 : (atmS e xs).2.1 = 0) : RdsI n e0 xs0 (k + 1) (pre ++ [(atmS e xs).1]) (atmS e xs).2.1 (atmS e xs).2.2 := by
  refine ⟨?_, by rw [List.length_append, h.l]; rfl, atmS_byt h.byt, Nat.le_trans atmS_len2 h.le, atmS_ok3 h.eo⟩
  rw [h.a, show n - k = n - (k + 1) + 1 by omega, rdA_ok h0, List.append_assoc]; rfl
theorem RdsI.at (h : RdsI n e0 xs0 k pre e xs) (hk : k < n) (h0 : (atmS e xs).2.1 = 0) : (rdA n e0 xs0).1.getD k [] = (atmS e xs).1 ∧ k < (rdA n e0 xs0).1.length := by
  rw [h.a, show n - k = n - (k + 1) + 1 by omega, rdA_ok h0]
  dsimp only
  refine ⟨?_, by rw [List.length_append, h.l, List.length_cons]; omega⟩
  rw [List.getD_eq_getElem?_getD, List.getElem?_append_right (by have := h.l; omega), h.l, Nat.sub_self]; rfl
theorem RdsI.stop (h : RdsI n e0 xs0 k pre e xs) (hk : k < n) (h0 : ¬ (atmS e xs).2.1 = 0) : rdA n e0 xs0 = (pre, (atmS e xs).2) := by
  rw [h.a, show n - k = n - (k + 1) + 1 by omega, rdA_no h0, List.append_nil]
theorem RdsI.done (h : RdsI n e0 xs0 k pre e xs) (hk : k = n) : rdA n e0 xs0 = (pre, e, xs) := by
  rw [h.a, show n - k = 0 by omega, rdA, List.append_nil]
end
def ordAt (s : List (List Int)) (k : Nat) : Bool := decide (k = 0) || keyLt (akey (s.getD (k - 1) [])) (akey (s.getD k []))
def ordN (s : List (List Int)) : Nat → Bool
  | 0 => true
  | k + 1 => ordN s k && ordAt s k
def ordL (s : List (List Int)) : Bool := ordN s s.length
theorem ord_false {s : List (List Int)} {k : Nat} (h : ordAt s k = false) : ∀ {n : Nat}, k < n → ordN s n = false
  | 0, h1 => by omega
  | n + 1, h1 => by
    rw [ordN]
    by_cases e : k = n
    · rw [← e, h, Bool.and_false]
    · rw [ord_false h (by omega), Bool.false_and]
def decR (bs : List Int) : List (List Int) × Int × List Int := rdA (numS 4096 0 bs).1 (numS 4096 0 bs).2.1 (numS 4096 0 bs).2.2
def finE (s : Int × List Int) : Int := if 0 < s.2.length then 3 else s.1
def decP (bs : List Int) : List (List Int) × Int := if ordL (decR bs).1 = false then ([], 3) else if finE (decR bs).2 = 0 then ((decR bs).1, 0) else ([], finE (decR bs).2)
theorem fr_rdin {w : World} {M L : List Res} {A : Option Addr} {n : Nat} {vs : List Value} (hR : RdIn w M A n) (hL : FrOK w M L) : FrOK w M (.rd A 1 n vs :: L) := fun r hr g hg => by
  rcases List.mem_cons.1 hr with rfl | hr
  · exact hR g hg
  · exact hL r hr g hg

theorem i_comes (bn bc n : Nat) (hnn : n ≤ 4096) (g : Nat) (e : Int) (A : Option Addr) (c : Nat) (xs : List Int) (hc : xs.length ≤ c) (hw : Byt xs) (hn : xs.length ≤ 1000000000) (heo : ErrOk e xs)  :
    IterX Tryz.prog 148 #[.pointer (some ⟨bn, 0, none⟩), .pointer (some ⟨bc, 0, none⟩)] ((rdA n e xs).1.length) (fun k => [.agg (AA ((rdA n e xs).1.getD k []))]) [.obj bn (.cells #[.int .i64 (n : Int)] 3 (0, 0)), .obj bc (.cells #[.pointer (some ⟨g, 0, none⟩)] 130 (0, 0)), .obj g (.cells #[.int .i64 e, .slice A (xs).length c] 189 (0, 0)), .rd A 1 (xs).length ((xs).map (Value.int .u8))] (fun L => ∃ (A : Option Addr) (c : Nat) (ys : List Int), ys.length ≤ c ∧ L = [.obj bn (.cells #[.int .i64 (n : Int)] 3 (0, 0)), .obj bc (.cells #[.pointer (some ⟨g, 0, none⟩)] 130 (0, 0)), .obj g (.cells #[.int .i64 0, .slice A (ys).length c] 189 (0, 0)), .rd A 1 (ys).length ((ys).map (Value.int .u8))]) (fun L => ∃ (A : Option Addr) (c : Nat), (rdA n e xs).2.2.length ≤ c ∧ L = [.obj bn (.cells #[.int .i64 (n : Int)] 3 (0, 0)), .obj bc (.cells #[.pointer (some ⟨g, 0, none⟩)] 130 (0, 0)), .obj g (.cells #[.int .i64 (rdA n e xs).2.1, .slice A ((rdA n e xs).2.2).length c] 189 (0, 0)), .rd A 1 ((rdA n e xs).2.2).length (((rdA n e xs).2.2).map (Value.int .u8))]) := by
 intro lp I O hIc hOc hy w0 hI
 have hS := (hIc 0).st hI
 refine y_enter (l := [.func (.yield lp) #[] #[], .pointer (some ⟨bn, 0, none⟩), .pointer (some ⟨bc, 0, none⟩), undef, undef, undef, undef, undef, undef, undef, undef, undef, undef, undef, undef, undef, undef, undef, undef, undef]) Tryz.func148 rfl (by simp only [Tryz.ntmps148, List.size_toArray, List.length_cons, List.length_nil, Nat.reduceAdd, Nat.reduceSub, Array.replicate_succ, Array.replicate_zero, List.push_toArray, List.append_toArray, List.nil_append, List.cons_append]) ?_
 refine y_seq fun K1 hK1 => ?_
 refine y_region (by kernel_rfl) ?_
 refine s_go (m_load_obj Tryz.underlying3 (hS := hS) (hv := by rfl)) ?_
 try simp only [opv, nZ, Value.cells, List.getElem_toArray, List.getElem_cons_zero, List.getElem_cons_succ]
 refine s_go (s_move) ?_
 try simp only [opv, nZ, Value.cells]
 refine y_nilf ?_
 refine hK1 _ _ ?_
 refine y_block ?_
 refine y_loop [4, 6, 7, 8, 9, 10, 11, 12, 13, 14, 15, 16, 17, 18, 19] (fun m f w => ∃ (k : Nat) (pre : List (List Int)) (e1 : Int) (A1 : Option Addr) (c1 : Nat) (xs1 : List Int), k ≤ n ∧ m = n - k ∧ f 6 = .int .i64 (k : Int) ∧ xs1.length ≤ c1 ∧ RdsI n e xs k pre e1 xs1 ∧ I k w [.obj bn (.cells #[.int .i64 (n : Int)] 3 (0, 0)), .obj bc (.cells #[.pointer (some ⟨g, 0, none⟩)] 130 (0, 0)), .obj g (.cells #[.int .i64 e1, .slice A1 (xs1).length c1] 189 (0, 0)), .rd A1 1 (xs1).length ((xs1).map (Value.int .u8))]) (n) ?init1 (fun m1 f1 wl1 hI => ?_)
 case init1 =>
  try simp only [opv, nZ, Value.cells]
  exact ⟨0, [], e, A, c, xs, by omega, rfl, rfl, hc, RdsI.start hw heo, hI⟩
 obtain ⟨k, pre, e1, A1, c1, xs1, hk0, hm, h6, hcc1, hri, hI⟩ := hI
 simp only [clob, List.foldl, n3, n4, h6]
 replace hS := (hIc k).st hI
 have hM := hS
 refine y_seq fun K2 hK2 => ?_
 refine y_region (by kernel_rfl) ?_
 refine s_go (s_lss) ?_
 try simp only [opv, nZ, Value.cells]
 refine y_nilf ?_
 refine hK2 _ _ ?_
 refine y_seq fun K3 hK3 => ?_
 refine y_cond (ht := fun hc1 => ?_) (hf := fun hc1 => ?_)
 ·
  try simp only [dZ, ne_eq, bne_iff_ne, beq_iff_eq] at hc1
  have hk1 : k < n := by omega
  have hz21 := atmS_l21 e1 hri.byt
  have hle := hri.le
  refine y_skip ?_
  refine hK3 _ _ ?_
  refine y_seq fun K4 hK4 => ?_
  refine y_block ?_
  refine y_seq fun K5 hK5 => ?_
  refine y_region (by kernel_rfl) ?_
  refine s_go (m_load_obj Tryz.underlying130 (hS := hS) (hv := by rfl)) ?_
  try simp only [opv, nZ, Value.cells, List.getElem_toArray, List.getElem_cons_zero, List.getElem_cons_succ]
  refine s_call en149 ?_
  try simp only [opv, nZ, Value.cells, List.map_toArray, List.map_cons, List.map_nil, List.append_toArray, List.cons_append, List.nil_append, Array.append_empty]
  refine CallR.mono (c_atomRead _ g e1 A1 c1 xs1 hcc1 hri.byt (by omega) (hS.owns (by repeat (first | exact Spl.nil | (apply Spl.cons (by repeat (first | exact Del.head | apply Del.tail))))))) ?_
  rintro _ w1 ⟨rfl, A2, c2, hc2, hRr, hC1⟩
  have hR2 := RdIn.trans hM hS (by repeat (first | exact Spl.nil | (apply Spl.cons (by repeat (first | exact Del.head | apply Del.tail))))) hRr (by intro s hs q hb; simp only [List.mem_cons, List.not_mem_nil, or_false] at hs; rcases hs with rfl | rfl <;> first | (simp [Res.reads] at hb; done) | exact .inr ⟨_, by repeat (first | exact List.mem_cons_self .. | apply List.mem_cons_of_mem), .inr hb⟩)
  replace hS := hS.frame (by repeat (first | exact Spl.nil | (apply Spl.cons (by repeat (first | exact Del.head | apply Del.tail))))) hC1 (by intro r hr b hb; simp only [List.mem_cons, List.not_mem_nil, or_false] at hr; rcases hr with rfl | rfl <;> first | (simp [Res.reads] at hb; done) | exact hRr b hb)
  simp only [List.cons_append, List.nil_append] at hS
  try simp only [opv, nZ, Value.cells]
  refine m_alloc ti88 hS (fun w2 g2 hS => ?_)
  try simp only [opv, nZ, Value.cells, Array.toArray_toList] at hS ⊢
  have h0l : (List.replicate 21 (0 : Int)).length = 21 := rfl
  replace hS : St _ _ w2 (.obj g2 (.cells (AA (List.replicate 21 0)) 88 (0, 0)) :: _) := hS
  refine m_store_obj ti88 (hS := hS) (hc := by exact zi_whole (by omega) (by omega)) (hv := by (show (zi _ _).toArray.size = _; rw [zi_size (by omega)]; rfl)) (hfit := by (rw [zi_size (by omega)]; decide)) (h1 := by exact zi_one _ _) (h := fun w3 hS => ?_)
  try simp only [opv, nZ, Value.cells, Array.toArray_toList] at hS ⊢
  refine y_nilf ?_
  refine hK5 _ _ ?_
  refine y_seq fun K6 hK6 => ?_
  refine y_region_y ?_
  refine y_pre_n 6 (by kernel_rfl) ?_
  simp only [List.take_succ_cons, List.take_zero, List.drop_succ_cons, List.drop_zero]
  refine s_go (m_load_obj Tryz.underlying130 (hS := hS) (hv := by rfl)) ?_
  try simp only [opv, nZ, Value.cells, List.getElem_toArray, List.getElem_cons_zero, List.getElem_cons_succ]
  refine s_call en150 ?_
  try simp only [opv, nZ, Value.cells, List.map_toArray, List.map_cons, List.map_nil, List.append_toArray, List.cons_append, List.nil_append, Array.append_empty]
  refine CallR.mono (c_cErr _ g ((atmS e1 xs1).2.1) A2 c2 ((atmS e1 xs1).2.2) hc2 (hS.owns (by repeat (first | exact Spl.nil | (apply Spl.cons (by repeat (first | exact Del.head | apply Del.tail))))))) ?_
  rintro _ w4 ⟨rfl, hC4⟩
  replace hS := hS.frame (by repeat (first | exact Spl.nil | (apply Spl.cons (by repeat (first | exact Del.head | apply Del.tail))))) hC4 (by intro r hr g hg; simp only [List.mem_cons, List.not_mem_nil, or_false] at hr; rcases hr with rfl | rfl | rfl <;> first | (simp [Res.reads] at hg; done) | exact .inr ⟨_, by simp, .inr hg⟩)
  simp only [List.cons_append, List.nil_append] at hS
  try simp only [opv, nZ, Value.cells]
  refine s_go (s_neq) ?_
  try simp only [opv, nZ, Value.cells]
  refine s_go (s_move) ?_
  try simp only [opv, nZ, Value.cells]
  refine s_part 13 rfl (fun hp1 => ?_) (fun hp1 => ?_)
  ·
   try simp only [n3, n4]
   try simp only [dZ, ne_eq] at hp1
   have hbad : ¬ (atmS e1 xs1).2.1 = 0 := by simpa using hp1
   have hst := hri.stop hk1 hbad
   refine g_off (yi (t := 13) rfl rfl) ?_
   try simp only [opv, nZ, Value.cells]
   refine g_off (yi (t := 13) rfl rfl) ?_
   try simp only [opv, nZ, Value.cells]
   refine y_pre_nilf ?_
   refine y_off (yi (t := 13) rfl rfl) ?_
   refine y_rest (by kernel_rfl) ?_
   try simp only [opv, nZ, Value.cells]
   refine g_off (yi (t := 13) rfl rfl) ?_
   try simp only [opv, nZ, Value.cells]
   refine s_go (s_pick_t) ?_
   try simp only [opv, nZ, Value.cells]
   refine y_nilf ?_
   refine hK6 _ _ ?_
   refine y_cond_t (h := ?_)
   refine y_ret ?_
   refine rm_nil ?_
   refine r_none rfl ?_
   exact .inl ⟨_, ⟨A2, c2, by rw [hst]; exact hc2, rfl⟩, by rw [hst, show (pre, (atmS e1 xs1).2).1.length = k from hri.l]; exact (hIc k).on hI (hS.selA) (by repeat (first | exact fr_nil | refine fr_rdin (by assumption) ?_ | refine fr_own rfl ?_))⟩
  ·
   try simp only [n3, n4]
   try simp only [dZ, ne_eq] at hp1
   have hok : (atmS e1 xs1).2.1 = 0 := by simpa using hp1
   have hat := hri.at hk1 hok
   rw [hok] at hS
   refine g_on (yi (t := 13) rfl rfl) ?_
   refine s_go (s_move) ?_
   try simp only [opv, nZ, Value.cells]
   refine g_on (yi (t := 13) rfl rfl) ?_
   refine s_go (m_load_row Tryz.underlying88 (hi := ti88) (hS := hS) (hfit := by (rw [zi_size (by omega)]; rfl))) ?_
   try simp only [opv, nZ, Value.cells, List.getElem_toArray, List.getElem_cons_zero, List.getElem_cons_succ]
   refine y_pre_nilf ?_
   refine y_yield_g (yi (t := 13) rfl rfl) rfl ?_
   try simp only [opv, nZ, Value.cells, List.map_toArray, List.map_cons, List.map_nil]
   refine YC.mono (by rw [← hat.1]; exact hy k _ _ hat.2 ⟨A2, c2, _, hc2, rfl⟩ ((hIc k).on hI (hS.selA) (by repeat (first | exact fr_nil | refine fr_rdin (by assumption) ?_ | refine fr_own rfl ?_)))) ?_
   rintro v w5 (⟨rfl, hI⟩ | ⟨rfl, hO⟩)
   ·
    replace hS := (hIc _).st hI
    refine y_rest (by kernel_rfl) ?_
    try simp only [opv, nZ, Value.cells]
    refine g_on (yi (t := 13) rfl rfl) ?_
    refine s_go (s_not) ?_
    try simp only [opv, nZ, Value.cells]
    refine s_go (s_pick_f) ?_
    try simp only [opv, nZ, Value.cells]
    refine y_nilf ?_
    refine hK6 _ _ ?_
    refine y_cond_f (h := ?_)
    refine y_skip ?_
    refine hK4 _ _ ?_
    refine y_region (by kernel_rfl) ?_
    refine s_go (s_add (hc := by exact wr_i64 (by omega) (by omega))) ?_
    try simp only [opv, nZ, Value.cells]
    refine s_go (s_move) ?_
    try simp only [opv, nZ, Value.cells]
    refine y_nilf ?_
    refine loop_back_y (m' := n - (k + 1)) (by simp only [clob, List.foldl, nZ]) ?_ ?_
    · try simp only [opv, nZ, Value.cells]
      exact ⟨k + 1, pre ++ [(atmS e1 xs1).1], 0, A2, c2, (atmS e1 xs1).2.2, by omega, by omega, by rfl, hc2, (by have h9 := hri.next hk1 hok; rw [hok] at h9; exact h9), hI⟩
    · omega
   ·
    replace hS := (hOc _).st hO
    refine y_rest (by kernel_rfl) ?_
    try simp only [opv, nZ, Value.cells]
    refine g_on (yi (t := 13) rfl rfl) ?_
    refine s_go (s_not) ?_
    try simp only [opv, nZ, Value.cells]
    refine s_go (s_pick_f) ?_
    try simp only [opv, nZ, Value.cells]
    refine y_nilf ?_
    refine hK6 _ _ ?_
    refine y_cond_t (h := ?_)
    refine y_ret ?_
    refine rm_nil ?_
    refine r_none rfl ?_
    exact .inr ⟨k, hO⟩
 ·
  try simp only [dZ, ne_eq, bne_iff_ne, beq_iff_eq] at hc1
  have hdn := hri.done (by omega)
  refine y_exit (look_here ?_)
  refine rm_nil ?_
  refine r_none rfl ?_
  exact .inl ⟨_, ⟨A1, c1, by rw [hdn]; exact hcc1, rfl⟩, by have h9 := hI; rw [← hri.l] at h9; rw [hdn]; exact h9⟩
theorem c_comes (g n : Nat)  (w0 : World) :
    CallR Tryz.prog 86 #[.pointer (some ⟨g, 0, none⟩), .int .i64 (n : Int)] w0 fun v w' => ∃ bn bc : Nat, v = .func (.func 148) #[] #[.pointer (some ⟨bn, 0, none⟩), .pointer (some ⟨bc, 0, none⟩)] ∧ St NoB w0 w' [.obj bn (.cells #[.int .i64 (n : Int)] 3 (0, 0)), .obj bc (.cells #[.pointer (some ⟨g, 0, none⟩)] 130 (0, 0))] := by
 have hS : St NoB w0 w0 [] := St.start w0
 refine c_enter (l := [.pointer (some ⟨g, 0, none⟩), .int .i64 (n : Int), undef, undef, undef, undef]) Tryz.func86 rfl (by simp only [Tryz.ntmps86, List.size_toArray, List.length_cons, List.length_nil, Nat.reduceAdd, Nat.reduceSub, Array.replicate_succ, Array.replicate_zero, List.push_toArray, List.append_toArray, List.nil_append, List.cons_append]) ?_
 refine x_seq fun K1 hK1 => ?_
 refine x_region ?_
 refine m_box hS (fun w1 g1 hS => ?_)
 try simp only [opv, nZ, Value.cells, Array.toArray_toList] at hS ⊢
 refine m_box hS (fun w2 g2 hS => ?_)
 try simp only [opv, nZ, Value.cells, Array.toArray_toList] at hS ⊢
 refine s_go (s_assign) ?_
 try simp only [opv, nZ, Value.cells]
 refine x_nil ?_
 refine hK1 _ _ ?_
 refine x_seq fun K2 hK2 => ?_
 refine x_region ?_
 refine s_go (s_makeFunc) ?_
 try simp only [opv, nZ, Value.cells, List.map_toArray, List.map_cons, List.map_nil]
 refine s_go (s_assign) ?_
 try simp only [opv, nZ, Value.cells]
 refine x_nil ?_
 refine hK2 _ _ ?_
 refine x_ret ?_
 refine r_tmp rfl ?_
 exact ⟨_, _, rfl, hS.sel (by repeat (first | exact Sel.nil | (refine Sel.cons (by repeat (exact Del.head)) ?_)))⟩
end Go.Proofs.YtffmanidnlbjjaaGreat
set_option linter.unusedSimpArgs false
set_option linter.unusedVariables false
set_option maxHeartbeats 3000000
set_option maxRecDepth 100000
namespace Go.Proofs.YtffmanidnlbjjaaGreat
open Go.RowKit

def folS (l : List (List Int)) (a : List Int) : Bool := decide (l.length = 0) || keyLt (akey (l.getD (l.length - 1) [])) (akey a)
theorem fol_at {s : List (List Int)} {k : Nat} {x : List Int} (hk : k < s.length) (hx : s.getD k [] = x) : folS (s.take k) x = ordAt s k := by
  rw [folS, ordAt, List.length_take, Nat.min_eq_left (by omega), hx]
  by_cases h : k = 0
  · rw [decide_eq_true h, Bool.true_or, Bool.true_or]
  · rw [List.getD_eq_getElem?_getD, List.getElem?_take_of_lt (by omega), ← List.getD_eq_getElem?_getD]
theorem decR_len {bs : List Int} : (decR bs).1.length ≤ 4096 := Nat.le_trans rdA_len (numS_le 4096 0 bs)
theorem decR_ok {bs : List Int} (hw : Byt bs) : AOks (decR bs).1 := rdA_aok (numS_byt hw)
theorem decP_ok {bs : List Int} (hw : Byt bs) : AOks (decP bs).1 := by
  unfold decP
  split
  · exact AOks.nil
  · split
    · exact decR_ok hw
    · exact AOks.nil
theorem decP_len {bs : List Int} : (decP bs).1.length ≤ 4096 := by
  have h := decR_len (bs := bs)
  unfold decP
  split
  · exact Nat.zero_le _
  · split
    · exact h
    · exact Nat.zero_le _

theorem c_codecFol (w0 : World) (go : Nat) (B : Option Addr) (d : Nat) (l : List (List Int)) (hvr : AOks l) (hn : l.length ≤ 1000000000) (a : List Int) (ha : AtomOk a) (hM : St (OwnB [.obj go (.cells #[.slice B (l).length d] 22 (0, 0)), .vec B d 88 21 (l).length (arows (l))]) w0 w0 [.obj go (.cells #[.slice B (l).length d] 22 (0, 0)), .vec B d 88 21 (l).length (arows (l))]) :
    CallR Tryz.prog 84 #[.agg (AA a), .pointer (some ⟨go, 0, none⟩)] w0 fun v w' => v = .bool (folS l a) ∧ St (OwnB [.obj go (.cells #[.slice B (l).length d] 22 (0, 0)), .vec B d 88 21 (l).length (arows (l))]) w0 w' [.obj go (.cells #[.slice B (l).length d] 22 (0, 0)), .vec B d 88 21 (l).length (arows (l))] := by
 have hS := hM
 have hvl := arows_len l
 have hka := ha.key
 refine c_enter (l := [.agg (AA a), .pointer (some ⟨go, 0, none⟩), undef, undef, undef, undef, undef, undef, undef, undef, undef, undef, undef, undef, undef, undef, undef, undef, undef]) Tryz.func84 rfl (by simp only [Tryz.ntmps84, List.size_toArray, List.length_cons, List.length_nil, Nat.reduceAdd, Nat.reduceSub, Array.replicate_succ, Array.replicate_zero, List.push_toArray, List.append_toArray, List.nil_append, List.cons_append]) ?_
 refine x_seq fun K1 hK1 => ?_
 refine x_region ?_
 have hal := ha.len
 have hk := ha.key
 have hv := ha.val
 have hvl := hv.len
 have hkl := hk.len
 have h00 := akey_0 hal
 have htl := vtext_len hvl
 have htb := hv.text
 have hvb := hv.b0
 refine m_box hS (fun w1 g1 hS => ?_)
 try simp only [opv, nZ, Value.cells, Array.toArray_toList] at hS ⊢
 refine s_go (s_assign) ?_
 try simp only [opv, nZ, Value.cells]
 refine x_nil ?_
 refine hK1 _ _ ?_
 refine x_seq fun K2 hK2 => ?_
 refine x_quiet (by kernel_rfl) (by kernel_rfl) hS ?_
 refine q_go (fun w hS => m_load_obj Tryz.underlying22 (hS := hS) (hv := by rfl)) ?_
 try simp only [opv, nZ, Value.cells, List.getElem_toArray, List.getElem_cons_zero, List.getElem_cons_succ]
 refine q_go (fun w hS => s_len_sl Tryz.underlying22) ?_
 try simp only [opv, nZ, Value.cells]
 refine q_go (fun w hS => s_eql) ?_
 try simp only [opv, nZ, Value.cells]
 refine q_go (fun w hS => s_move) ?_
 try simp only [opv, nZ, Value.cells]
 refine q_part 7 rfl (fun hp1 => ?_) (fun hp1 => ?_)
 ·
  try simp only [n3, n4]
  try simp only [dZ, ne_eq] at hp1
  have hV : folS l a = true := by rw [folS, decide_eq_true (by omega), Bool.true_or]
  refine q_off (yi (t := 7) rfl rfl) ?_
  try simp only [opv, nZ, Value.cells]
  refine q_off (yi (t := 7) rfl rfl) ?_
  try simp only [opv, nZ, Value.cells]
  refine q_off (yi (t := 7) rfl rfl) ?_
  try simp only [opv, nZ, Value.cells]
  refine q_off (yi (t := 7) rfl rfl) ?_
  try simp only [opv, nZ, Value.cells]
  refine q_off (yi (t := 7) rfl rfl) ?_
  try simp only [opv, nZ, Value.cells]
  refine q_off (yi (t := 7) rfl rfl) ?_
  try simp only [opv, nZ, Value.cells]
  refine q_off (yi (t := 7) rfl rfl) ?_
  try simp only [opv, nZ, Value.cells]
  refine q_off (yi (t := 7) rfl rfl) ?_
  try simp only [opv, nZ, Value.cells]
  refine q_off (yi (t := 7) rfl rfl) ?_
  try simp only [opv, nZ, Value.cells]
  refine q_off (yi (t := 7) rfl rfl) ?_
  try simp only [opv, nZ, Value.cells]
  refine q_go (fun w hS => s_pick_t) ?_
  try simp only [opv, nZ, Value.cells]
  refine q_go (fun w hS => s_assign) ?_
  try simp only [opv, nZ, Value.cells]
  clear hS
  refine q_nil fun w2 hS => ?_
  refine hK2 _ _ ?_
  refine x_ret ?_
  refine r_tmp rfl ?_
  exact ⟨by rw [hV]; rfl, hS.selA⟩
 ·
  try simp only [n3, n4]
  try simp only [dZ, ne_eq] at hp1
  have hne : ¬ l.length = 0 := by omega
  obtain ⟨x, hx⟩ : ∃ x, l.getD (l.length - 1) [] = x := ⟨_, rfl⟩
  have hxo : AtomOk x := by rw [← hx]; exact hvr.get (by omega)
  have hkx := hxo.key
  have hV : folS l a = keyLt (akey x) (akey a) := by rw [folS, decide_eq_false hne, Bool.false_or, hx]
  refine q_on (yi (t := 7) rfl rfl) ?_
  refine q_go (fun w hS => m_load_obj Tryz.underlying22 (hS := hS) (hv := by rfl)) ?_
  try simp only [opv, nZ, Value.cells, List.getElem_toArray, List.getElem_cons_zero, List.getElem_cons_succ]
  refine q_on (yi (t := 7) rfl rfl) ?_
  refine q_go (fun w hS => m_load_obj Tryz.underlying22 (hS := hS) (hv := by rfl)) ?_
  try simp only [opv, nZ, Value.cells, List.getElem_toArray, List.getElem_cons_zero, List.getElem_cons_succ]
  refine q_on (yi (t := 7) rfl rfl) ?_
  refine q_go (fun w hS => s_len_sl Tryz.underlying22) ?_
  try simp only [opv, nZ, Value.cells]
  refine q_on (yi (t := 7) rfl rfl) ?_
  refine q_go (fun w hS => s_sub (hc := by exact wr_i64 (by omega) (by omega))) ?_
  try simp only [opv, nZ, Value.cells]
  rw [show ((l.length : Int) - 1) = ((l.length - 1 : Nat) : Int) by omega]
  refine q_on (yi (t := 7) rfl rfl) ?_
  refine q_go (fun w hS => m_indexAddr_vec Tryz.underlying22 ti88 (hS := hS)) ?_
  try simp only [opv, nZ, Value.cells, Nat.mul_one, Nat.zero_add, Int.toNat_natCast, Int.reduceToNat]
  refine q_on (yi (t := 7) rfl rfl) ?_
  refine q_go (fun w hS => m_fieldAddr_vec Tryz.underlying88 (hi := ti83) (hS := hS)) ?_
  try simp only [opv, nZ, Value.cells, Nat.zero_add, Nat.add_zero, List.getElem_toArray, List.getElem_cons_zero, List.getElem_cons_succ]
  refine q_on (yi (t := 7) rfl rfl) ?_
  refine q_go (fun w hS => m_loada_vec Tryz.underlying83 (hi := ti83) (hS := hS) (hfit := by rw [arows_len]; omega)) ?_
  try simp only [opv, nZ, Value.cells, List.getElem_toArray, List.getElem_cons_zero, List.getElem_cons_succ]
  rw [arow_key (by omega) hvr, hx]
  refine q_on (yi (t := 7) rfl rfl) ?_
  refine q_go (fun w hS => m_fieldAddr Tryz.underlying88 (hi := ti83)) ?_
  try simp only [opv, nZ, Value.cells, Nat.zero_add, Nat.add_zero, List.getElem_toArray, List.getElem_cons_zero, List.getElem_cons_succ]
  refine q_on (yi (t := 7) rfl rfl) ?_
  refine q_go (fun w hS => m_loada_obj Tryz.underlying83 (hi := ti83) (hS := hS) (hfit := by (rw [zi_size (by omega)]; decide))) ?_
  try simp only [opv, nZ, Value.cells, List.getElem_toArray, List.getElem_cons_zero, List.getElem_cons_succ]
  rw [atom_key hal]
  refine q_on (yi (t := 7) rfl rfl) ?_
  apply q_call en85
  case H =>
    intro w hS
    try simp only [opv, nZ, List.map_toArray, List.map_cons, List.map_nil, List.append_toArray, List.cons_append, List.nil_append, Array.append_empty]
    refine CallR.mono (c_keyLess (akey x) (akey a) hkx hka _) ?_
    rintro _ w1 ⟨rfl, hE⟩; exact ⟨rfl, hS.ext hE⟩
  try simp only [opv, nZ, Value.cells]
  refine q_go (fun w hS => s_pick_f) ?_
  try simp only [opv, nZ, Value.cells]
  refine q_go (fun w hS => s_assign) ?_
  try simp only [opv, nZ, Value.cells]
  clear hS
  refine q_nil fun w3 hS => ?_
  refine hK2 _ _ ?_
  refine x_ret ?_
  refine r_tmp rfl ?_
  exact ⟨by rw [hV]; rfl, hS.selA⟩
theorem c_codecDecode (w0 : World) (A : Option Addr) (c : Nat) (bs : List Int) (hb : Rd w0 A 1 bs.length (bs.map (Value.int .u8))) (hw : Byt bs) (hn : bs.length ≤ 1000000000)  :
    CallR Tryz.prog 40 #[.slice A bs.length c] w0 fun v w' => ∃ B d, v = .tuple #[.slice B (decP bs).1.length d, .int .i64 (decP bs).2] ∧ St NoB w0 w' [.vec B d 88 21 ((decP bs).1).length (arows ((decP bs).1))] := by
 have hS := St.rd1 (S := NoB) hb
 have hml := numS_le 4096 0 bs
 have hm3 := numS_len 4096 0 bs
 have hmb := numS_byt (m := 4096) (e := 0) hw
 have heo : ErrOk (numS 4096 0 bs).2.1 (numS 4096 0 bs).2.2 := numS_ok (fun h => absurd rfl h)
 have hdl := decR_len (bs := bs)
 have hno := decR_ok hw
 refine y_enter (l := [.slice A bs.length c, undef, undef, undef, undef, undef, undef, undef, undef, undef, undef, undef, undef, undef, undef, undef, undef, undef, undef, undef, undef, undef, undef, undef, undef, undef, undef, undef, undef, undef, undef, undef, undef]) Tryz.func40 rfl (by simp only [Tryz.ntmps40, List.size_toArray, List.length_cons, List.length_nil, Nat.reduceAdd, Nat.reduceSub, Array.replicate_succ, Array.replicate_zero, List.push_toArray, List.append_toArray, List.nil_append, List.cons_append]) ?_
 refine y_seq fun K1 hK1 => ?_
 refine y_region (by kernel_rfl) ?_
 refine m_alloc ti22 hS (fun w1 g1 hS => ?_)
 try simp only [opv, nZ, Value.cells, Array.toArray_toList] at hS ⊢
 obtain ⟨go, hgo⟩ : ∃ z, z = g1 := ⟨_, rfl⟩
 rw [← hgo] at hS ⊢
 replace hS := hS.nil_vec 88 21
 refine s_go (s_assign) ?_
 try simp only [opv, nZ, Value.cells]
 refine y_nilf ?_
 refine hK1 _ _ ?_
 refine y_seq fun K2 hK2 => ?_
 refine y_region (by kernel_rfl) ?_
 refine s_go (s_move) ?_
 try simp only [opv, nZ, Value.cells]
 refine s_call en83 ?_
 try simp only [opv, nZ, Value.cells, List.map_toArray, List.map_cons, List.map_nil, List.append_toArray, List.cons_append, List.nil_append, Array.append_empty]
 refine CallR.mono (c_cFrom _ A c bs (hS.hasRd (by repeat (first | exact Has.head | apply Has.tail))) hn) ?_
 rintro _ w2 ⟨g, Ac, cc, rfl, hcc, hC2⟩
 replace hS := hS.call hC2
 simp only [List.cons_append, List.nil_append] at hS
 replace hS := hS.vec_rd (by exact Upd.tail Upd.head)
 try simp only [opv, nZ, Value.cells]
 refine m_alloc ti130 hS (fun w3 g3 hS => ?_)
 try simp only [opv, nZ, Value.cells, Array.toArray_toList] at hS ⊢
 obtain ⟨gp, hgp⟩ : ∃ z, z = g3 := ⟨_, rfl⟩
 rw [← hgp] at hS ⊢
 refine m_store_obj ti130 (hS := hS) (hc := by (exact splice_whole (by (simp [opv, Value.cells, *]; done)))) (hv := by rfl) (hfit := by (simp only [ic_size, List.length_map, List.size_toArray]; decide)) (h1 := by simp [opv, Value.cells, Value.oneCell']) (h := fun w4 hS => ?_)
 try simp only [opv, nZ, Value.cells, Array.toArray_toList] at hS ⊢
 refine y_nilf ?_
 refine hK2 _ _ ?_
 refine y_seq fun K3 hK3 => ?_
 refine y_region (by kernel_rfl) ?_
 refine s_go (s_makeFunc) ?_
 try simp only [opv, nZ, Value.cells, List.map_toArray, List.map_cons, List.map_nil]
 refine m_alloc ti104 hS (fun w5 g5 hS => ?_)
 try simp only [opv, nZ, Value.cells, Array.toArray_toList] at hS ⊢
 obtain ⟨gf, hgf⟩ : ∃ z, z = g5 := ⟨_, rfl⟩
 rw [← hgf] at hS ⊢
 refine m_store_obj ti104 (hS := hS) (hc := by (exact splice_whole (by (simp [opv, Value.cells, *]; done)))) (hv := by rfl) (hfit := by (simp only [ic_size, List.length_map, List.size_toArray]; decide)) (h1 := by simp [opv, Value.cells, Value.oneCell']) (h := fun w6 hS => ?_)
 try simp only [opv, nZ, Value.cells, Array.toArray_toList] at hS ⊢
 refine y_nilf ?_
 refine hK3 _ _ ?_
 refine y_seq fun K4 hK4 => ?_
 refine y_seq fun K5 hK5 => ?_
 refine y_mixed_c (Lc := [.obj gp (.cells #[.pointer (some ⟨g, 0, none⟩)] 130 (0, 0))]) [] 0 [11, 12, 13, 14, 15] (fun f w => ∃ (bn bc : Nat) (Ad : Option Addr) (cd : Nat), f 15 = .func (.func 148) #[] #[.pointer (some ⟨bn, 0, none⟩), .pointer (some ⟨bc, 0, none⟩)] ∧ (numS 4096 0 bs).2.2.length ≤ cd ∧ St NoB w0 w [.obj bn (.cells #[.int .i64 ((numS 4096 0 bs).1 : Int)] 3 (0, 0)), .obj bc (.cells #[.pointer (some ⟨g, 0, none⟩)] 130 (0, 0)), .obj g (.cells #[.int .i64 (numS 4096 0 bs).2.1, .slice Ad ((numS 4096 0 bs).2.2).length cd] 189 (0, 0)), .rd Ad 1 ((numS 4096 0 bs).2.2).length (((numS 4096 0 bs).2.2).map (Value.int .u8)), .obj go (.cells #[.slice none 0 0] 22 (0, 0)), .vec none 0 88 21 0 [], .obj gp (.cells #[.pointer (some ⟨g, 0, none⟩)] 130 (0, 0)), .obj gf (.cells #[.func (.func 84) #[] #[.pointer (some ⟨go, 0, none⟩)]] 104 (0, 0))]) (by kernel_rfl) (by kernel_rfl) (by kernel_rfl) (by decide) (by kernel_rfl) hS (fun w7 hS => ?mixpre301) ?mixrest301
 case mixpre301 =>
  refine p_nil ?_
  simp only [List.length_cons, List.length_nil, Nat.reduceAdd, Nat.reduceSub]
  refine any_go (i := 0) (by rfl) (by decide +kernel) (by decide +kernel) noLate_nil (go_yields w_none (fun w hS => m_load_obj Tryz.underlying130 (hS := hS) (hv := by rfl))) ?_
  try simp only [opv, nZ, Value.cells, List.getElem_toArray, List.getElem_cons_zero, List.getElem_cons_succ]
  refine any_go (i := 1) (by rfl) (by decide +kernel) (by decide +kernel) noLate_nil (go_yields w_none (fun w hS => m_load_obj Tryz.underlying130 (hS := hS) (hv := by rfl))) ?_
  try simp only [opv, nZ, Value.cells, List.getElem_toArray, List.getElem_cons_zero, List.getElem_cons_succ]
  refine any_step [2] (by kernel_rfl) (by decide) (fun w8 hE => ⟨fun _ => (hS.ext hE).sel (by repeat (first | exact Sel.nil | (refine Sel.cons (by repeat (first | exact Del.head | apply Del.tail)) ?_))), ?_⟩)
  replace hS := hS.ext hE
  intro i hi
  simp only [List.mem_cons, List.not_mem_nil, or_false] at hi
  subst hi
  ·
   refine any_op (by rfl) ?_
   refine s_call en87 ?_
   try simp only [opv, nZ, Value.cells, List.map_toArray, List.map_cons, List.map_nil, List.append_toArray, List.cons_append, List.nil_append, Array.append_empty]
   refine CallR.mono (c_cNum _ g 0 Ac cc bs hcc hw hn 4096 (by omega) (hS.owns (by repeat (first | exact Spl.nil | (apply Spl.cons (by repeat (first | exact Del.head | apply Del.tail))))))) ?_
   rintro _ w9 ⟨rfl, Ad, cd, hcd, hRr, hC9⟩
   replace hS := hS.frame (by repeat (first | exact Spl.nil | (apply Spl.cons (by repeat (first | exact Del.head | apply Del.tail))))) hC9 (by intro r hr b hb; simp only [List.mem_cons, List.not_mem_nil, or_false] at hr; rcases hr with rfl | rfl <;> first | (simp [Res.reads] at hb; done) | exact hRr b hb)
   simp only [List.cons_append, List.nil_append] at hS
   try simp only [opv, nZ, Value.cells]
   refine x_nil ?_
   refine any_step [3] (by kernel_rfl) (by decide) (fun w10 hE => ⟨fun _ => (hS.ext hE).sel (by repeat (first | exact Sel.nil | (refine Sel.cons (by repeat (first | exact Del.head | apply Del.tail)) ?_))), ?_⟩)
   replace hS := hS.ext hE
   intro i hi
   simp only [List.mem_cons, List.not_mem_nil, or_false] at hi
   subst hi
   ·
    refine any_op (by rfl) ?_
    refine s_go (s_conv Tryz.underlying84 Tryz.underlying3 (hc := (wr_i64 (by omega) (by omega)))) ?_
    try simp only [opv, nZ, Value.cells]
    refine x_nil ?_
    refine any_step [4] (by kernel_rfl) (by decide) (fun w11 hE => ⟨fun _ => (hS.ext hE).sel (by repeat (first | exact Sel.nil | (refine Sel.cons (by repeat (first | exact Del.head | apply Del.tail)) ?_))), ?_⟩)
    replace hS := hS.ext hE
    intro i hi
    simp only [List.mem_cons, List.not_mem_nil, or_false] at hi
    subst hi
    ·
     refine any_op (by rfl) ?_
     refine s_call en86 ?_
     try simp only [opv, nZ, Value.cells, List.map_toArray, List.map_cons, List.map_nil, List.append_toArray, List.cons_append, List.nil_append, Array.append_empty]
     refine CallR.mono (c_comes g (numS 4096 0 bs).1 _) ?_
     rintro _ w12 ⟨bn, bc, rfl, hC12⟩
     replace hS := hS.call hC12
     simp only [List.cons_append, List.nil_append] at hS
     try simp only [opv, nZ, Value.cells]
     refine x_nil ?_
     refine any_nil (by kernel_rfl) (fun w13 hE => ?_)
     replace hS := hS.ext hE
     refine ⟨fun _ => hS.selA, ?_⟩
     refine mix_leaf (by simp only [clob, List.foldl, nZ]) ?_
     try simp only [n1, n2]
     exact ⟨_, _, _, _, by trivial, by assumption, hS.selA⟩
 intro fm1 w14 hM
 obtain ⟨bn, bc, Ad, cd, h15, hcd, hS⟩ := hM
 simp only [clob, List.foldl, n3, n4, h15]
 refine hK5 _ _ ?_
 refine y_block ?_
 refine y_rangeX rfl en148 (show IterX _ _ _ (decR bs).1.length (fun k => [.agg (AA ((decR bs).1.getD k []))]) _ _ (fun L => ∃ (A : Option Addr) (c : Nat), (decR bs).2.2.length ≤ c ∧ L = [.obj bn (.cells #[.int .i64 ((numS 4096 0 bs).1 : Int)] 3 (0, 0)), .obj bc (.cells #[.pointer (some ⟨g, 0, none⟩)] 130 (0, 0)), .obj g (.cells #[.int .i64 (decR bs).2.1, .slice A ((decR bs).2.2).length c] 189 (0, 0)), .rd A 1 ((decR bs).2.2).length (((decR bs).2.2).map (Value.int .u8))]) from i_comes bn bc (numS 4096 0 bs).1 hml g (numS 4096 0 bs).2.1 Ad cd (numS 4096 0 bs).2.2 hcd hmb (by omega) heo) (fun _ => rfl) hS (by repeat (first | exact Spl.nil | (apply Spl.cons (by repeat (exact Del.head))))) (fun k L => k ≤ (decR bs).1.length ∧ ordN (decR bs).1 k = true ∧ ∃ (B : Option Addr) (d : Nat), L = [.obj go (.cells #[.slice B ((decR bs).1.take k).length d] 22 (0, 0)), .vec B d 88 21 ((decR bs).1.take k).length (arows ((decR bs).1.take k)), .obj gp (.cells #[.pointer (some ⟨g, 0, none⟩)] 130 (0, 0)), .obj gf (.cells #[.func (.func 84) #[] #[.pointer (some ⟨go, 0, none⟩)]] 104 (0, 0))]) (fun L => False) [(0, fun L => ∃ (Af : Option Addr) (cf : Nat) (ef : Int) (xf : List Int) (B : Option Addr) (d k : Nat), xf.length ≤ cf ∧ decP bs = ([], 3) ∧ ef = 3 ∧ xf = [] ∧ L = [.obj g (.cells #[.int .i64 ef, .slice Af (xf).length cf] 189 (0, 0)), .rd Af 1 (xf).length ((xf).map (Value.int .u8)), .obj go (.cells #[.slice B ((decR bs).1.take k).length d] 22 (0, 0)), .vec B d 88 21 ((decR bs).1.take k).length (arows ((decR bs).1.take k)), .obj gp (.cells #[.pointer (some ⟨g, 0, none⟩)] 130 (0, 0)), .obj gf (.cells #[.func (.func 84) #[] #[.pointer (some ⟨go, 0, none⟩)]] 104 (0, 0))])] ?rfh1 ?rfr1 (fun D1 T1 w15 R1 Lj hC hJ hS => ?rfd1) (fun D1 T1 w16 R1 hX hS => ?rft1) ?rfe1
 case rfh1 =>
  exact ⟨Nat.zero_le _, rfl, none, 0, rfl⟩
 case rfr1 =>
  intro k1 w17 R1 Lj T1 lr1 hk1 hC hJ hS
  obtain ⟨hk0, hor, B, d, rfl⟩ := hC
  obtain ⟨Aj, cj, zs, hcj, rfl⟩ := hJ
  simp only [List.cons_append, List.nil_append] at hS
  simp only [List.toList_toArray, entL, List.zip_cons_cons, List.zip_nil_left, List.foldl_cons, List.foldl_nil, n3, n4]
  obtain ⟨x, hx⟩ : ∃ x, (decR bs).1.getD k1 [] = x := ⟨_, rfl⟩
  have ha : AtomOk x := by rw [← hx]; exact hno.get (by omega)
  have hal := ha.len
  have hfa := fol_at hk1 hx
  have hst : (decR bs).1.take k1 ++ [x] = (decR bs).1.take (k1 + 1) := by rw [take_snoc hk1, hx]
  have hsl : ((decR bs).1.take k1).length + 1 = ((decR bs).1.take (k1 + 1)).length := by rw [← hst, List.length_append]; rfl
  have htl : ((decR bs).1.take k1).length ≤ 4096 := by rw [List.length_take]; omega
  simp only [hx]
  refine y_region (by kernel_rfl) ?_
  refine m_alloc ti88 hS (fun w18 g18 hS => ?_)
  try simp only [opv, nZ, Value.cells, Array.toArray_toList] at hS ⊢
  have h0l : (List.replicate 21 (0 : Int)).length = 21 := rfl
  replace hS : St _ _ w18 (.obj g18 (.cells (AA (List.replicate 21 0)) 88 (0, 0)) :: _) := hS
  refine m_store_obj ti88 (hS := hS) (hc := by exact zi_whole (by omega) (by omega)) (hv := by (show (zi _ _).toArray.size = _; rw [zi_size (by omega)]; rfl)) (hfit := by (rw [zi_size (by omega)]; decide)) (h1 := by exact zi_one _ _) (h := fun w19 hS => ?_)
  try simp only [opv, nZ, Value.cells, Array.toArray_toList] at hS ⊢
  refine y_nilf ?_
  refine round_open hS (by repeat (first | exact App.nil | apply App.cons)) (fun w20 T2 hS => ?_)
  simp only [List.cons_append, List.nil_append] at hS
  refine y_block ?_
  refine y_seq fun K6 hK6 => ?_
  refine y_seq fun K7 hK7 => ?_
  refine y_region (by kernel_rfl) ?_
  refine s_go (m_load_obj Tryz.underlying104 (hS := hS) (hv := by rfl)) ?_
  try simp only [opv, nZ, Value.cells, List.getElem_toArray, List.getElem_cons_zero, List.getElem_cons_succ]
  refine s_go (m_load_row Tryz.underlying88 (hi := ti88) (hS := hS) (hfit := by (rw [zi_size (by omega)]; rfl))) ?_
  try simp only [opv, nZ, Value.cells, List.getElem_toArray, List.getElem_cons_zero, List.getElem_cons_succ]
  refine s_callv (hv := rfl) en84 ?_
  try simp only [opv, nZ, Value.cells, List.map_toArray, List.map_cons, List.map_nil, List.append_toArray, List.cons_append, List.nil_append, Array.append_empty]
  refine CallR.mono (c_codecFol _ go B d ((decR bs).1.take k1) (hno.take k1) (by omega) x ha (hS.owns (by repeat (first | exact Spl.nil | (apply Spl.cons (by repeat (first | exact Del.head | apply Del.tail))))))) ?_
  rintro _ w21 ⟨rfl, hC21⟩
  replace hS := hS.frame (by repeat (first | exact Spl.nil | (apply Spl.cons (by repeat (first | exact Del.head | apply Del.tail))))) hC21 (by intro r hr g hg; simp only [List.mem_cons, List.not_mem_nil, or_false] at hr; rcases hr with rfl | rfl <;> (simp [Res.reads] at hg; done))
  simp only [List.cons_append, List.nil_append] at hS
  try simp only [opv, nZ, Value.cells]
  refine s_go (s_not) ?_
  try simp only [opv, nZ, Value.cells]
  refine y_nilf ?_
  refine hK7 _ _ ?_
  refine y_cond (ht := fun hc1 => ?_) (hf := fun hc1 => ?_)
  ·
   try simp only [dZ, ne_eq, bne_iff_ne, beq_iff_eq] at hc1
   have hfo : folS ((decR bs).1.take k1) x = false := by simpa using hc1
   have hol : ordL (decR bs).1 = false := ord_false (k := k1) (by rw [← hfa, hfo]) (by omega)
   refine y_seq fun K8 hK8 => ?_
   refine y_region (by kernel_rfl) ?_
   refine s_go (m_load_obj Tryz.underlying130 (hS := hS) (hv := by rfl)) ?_
   try simp only [opv, nZ, Value.cells, List.getElem_toArray, List.getElem_cons_zero, List.getElem_cons_succ]
   refine s_call en88 ?_
   try simp only [opv, nZ, Value.cells, List.map_toArray, List.map_cons, List.map_nil, List.append_toArray, List.cons_append, List.nil_append, Array.append_empty]
   refine CallR.mono (c_cFail _ g 0 Aj cj zs hcj 3 (hS.owns (by repeat (first | exact Spl.nil | (apply Spl.cons (by repeat (first | exact Del.head | apply Del.tail))))))) ?_
   rintro _ w22 ⟨rfl, Af, cf, hcf, hRr, hC22⟩
   replace hS := hS.frame (by repeat (first | exact Spl.nil | (apply Spl.cons (by repeat (first | exact Del.head | apply Del.tail))))) hC22 (by intro r hr b hb; simp only [List.mem_cons, List.not_mem_nil, or_false] at hr; rcases hr with rfl | rfl <;> first | (simp [Res.reads] at hb; done) | exact hRr b hb)
   simp only [List.cons_append, List.nil_append, show errE 0 3 = 3 from rfl, show errX 0 3 zs = [] from rfl] at hS hcf
   try simp only [opv, nZ, Value.cells]
   refine y_nilf ?_
   refine hK8 _ _ ?_
   refine y_exit (look_on (by decide) (look_here ?_))
   exact ⟨_, ⟨Af, cf, 3, [], B, d, k1, hcf, by rw [decP, if_pos hol], rfl, rfl, rfl⟩, by simp only [List.cons_append, List.nil_append]; exact hS.sel (by repeat (first | exact Sel.self | (refine Sel.cons (by repeat (first | exact Del.head | apply Del.tail)) ?_) | apply Sel.skip))⟩
  ·
   try simp only [dZ, ne_eq, bne_iff_ne, beq_iff_eq] at hc1
   have hfo : folS ((decR bs).1.take k1) x = true := by simpa using hc1
   refine y_skip ?_
   refine hK6 _ _ ?_
   refine y_region (by kernel_rfl) ?_
   refine s_go (m_load_obj Tryz.underlying22 (hS := hS) (hv := by rfl)) ?_
   try simp only [opv, nZ, Value.cells, List.getElem_toArray, List.getElem_cons_zero, List.getElem_cons_succ]
   refine s_go (m_load_row Tryz.underlying88 (hi := ti88) (hS := hS) (hfit := by (rw [zi_size (by omega)]; rfl))) ?_
   try simp only [opv, nZ, Value.cells, List.getElem_toArray, List.getElem_cons_zero, List.getElem_cons_succ]
   refine m_buildRow (cells := (AA x)) Tryz.underlying22 ti88 (hc := by simp only [List.map_toArray, List.map_cons, List.map_nil, opv, nZ, Value.cells, List.toList_toArray]; exact fill_one (by rfl) (zi_size21 hal) (by rfl)) (hS := hS) (h := fun w23 g23 hS => ?_)
   try simp only [opv, nZ, Value.cells, Array.toArray_toList] at hS ⊢
   replace hS := hS.obj_rd (sz := 21) (n := 1) (by exact zi_size21 hal) .head
   rw [arow_one hal] at hS
   refine m_append Tryz.underlying22 ti88 (hS := hS) (h1 := rowsZ_cells _ _) (h := fun w24 A24 C24 hS => ?_)
   try simp only [← List.map_append, ← List.map_drop, ← List.map_take, Nat.mul_one, Nat.zero_mul, Nat.sub_zero, List.drop_zero, List.nil_append, Nat.zero_add] at hS ⊢
   try simp only [opv, nZ, Value.cells, Array.toArray_toList] at hS ⊢
   rw [← rowsZ_app, hst, hsl] at hS
   rw [hsl]
   refine m_store_obj ti22 (hS := hS) (hc := by (exact splice_whole (by (simp [opv, Value.cells, *]; done)))) (hv := by rfl) (hfit := by (simp [*]; done)) (h1 := by simp [opv, Value.cells, Value.oneCell']) (h := fun w25 hS => ?_)
   try simp only [opv, nZ, Value.cells, Array.toArray_toList] at hS ⊢
   refine y_nilf ?_
   exact ⟨_, ⟨_, ⟨by omega, by rw [ordN, hor, ← hfa, hfo]; rfl, _, _, rfl⟩, rfl⟩, by simp only [List.cons_append, List.nil_append]; exact hS.sel (by repeat (first | exact Sel.self | (refine Sel.cons (by repeat (first | exact Del.head | apply Del.tail)) ?_) | apply Sel.skip))⟩
 case rfd1 =>
  obtain ⟨hk0, hor, B, d, rfl⟩ := hC
  obtain ⟨Af, cf, hcf, rfl⟩ := hJ
  simp only [List.cons_append, List.nil_append] at hS
  rw [List.take_of_length_le (Nat.le_refl _)] at hS
  obtain ⟨ef, xf, hex⟩ : ∃ ef xf, (decR bs).2 = (ef, xf) := ⟨_, _, rfl⟩
  have hD2 : decP bs = if (if 0 < xf.length then (3 : Int) else ef) = 0 then ((decR bs).1, 0) else ([], if 0 < xf.length then 3 else ef) := by rw [decP, if_neg (by rw [ordL, hor]; decide), hex]; rfl
  rw [hex] at hS hcf
  dsimp only at hS hcf
  refine hK4 _ _ ?_
  refine y_seq fun K9 hK9 => ?_
  refine y_seq fun K10 hK10 => ?_
  refine y_region (by kernel_rfl) ?_
  refine s_go (m_load_obj Tryz.underlying130 (hS := hS) (hv := by rfl)) ?_
  try simp only [opv, nZ, Value.cells, List.getElem_toArray, List.getElem_cons_zero, List.getElem_cons_succ]
  refine s_call en89 ?_
  try simp only [opv, nZ, Value.cells, List.map_toArray, List.map_cons, List.map_nil, List.append_toArray, List.cons_append, List.nil_append, Array.append_empty]
  refine CallR.mono (c_cDone _ g (ef) Af cf (xf) hcf (hS.owns (by repeat (first | exact Spl.nil | (apply Spl.cons (by repeat (first | exact Del.head | apply Del.tail))))))) ?_
  rintro _ w26 ⟨rfl, hC26⟩
  replace hS := hS.frame (by repeat (first | exact Spl.nil | (apply Spl.cons (by repeat (first | exact Del.head | apply Del.tail))))) hC26 (by intro r hr g hg; simp only [List.mem_cons, List.not_mem_nil, or_false] at hr; rcases hr with rfl | rfl | rfl <;> first | (simp [Res.reads] at hg; done) | exact .inr ⟨_, by simp, .inr hg⟩)
  simp only [List.cons_append, List.nil_append] at hS
  try simp only [opv, nZ, Value.cells]
  try (have hv3 : (if 0 < xf.length then (3 : Int) else ef) = 3 := by rw [hxf, hef]; rfl)
  try rw [show (if 0 < xf.length then (3 : Int) else ef) = 3 by rw [hxf, hef]; rfl]
  refine s_go (s_assign) ?_
  try simp only [opv, nZ, Value.cells]
  refine y_nilf ?_
  refine hK10 _ _ ?_
  refine y_seq fun K11 hK11 => ?_
  refine y_region (by kernel_rfl) ?_
  refine s_go (s_move) ?_
  try simp only [opv, nZ, Value.cells]
  refine s_go (s_neq) ?_
  try simp only [opv, nZ, Value.cells]
  refine y_nilf ?_
  refine hK11 _ _ ?_
  refine y_cond (ht := fun hc2 => ?_) (hf := fun hc2 => ?_)
  ·
   try simp only [dZ, ne_eq, bne_iff_ne, beq_iff_eq] at hc2
   try have hE : decP bs = ([], if 0 < xf.length then 3 else ef) := by rw [hD2, if_neg hc2]
   refine y_seq fun K12 hK12 => ?_
   refine y_region (by kernel_rfl) ?_
   refine s_go (s_move) ?_
   try simp only [opv, nZ, Value.cells]
   refine m_store_obj ti22 (hS := hS) (hc := by (exact splice_whole (by (simp [opv, Value.cells, *]; done)))) (hv := by rfl) (hfit := by (simp [*]; done)) (h1 := by simp [opv, Value.cells, Value.oneCell']) (h := fun w27 hS => ?_)
   try simp only [opv, nZ, Value.cells, Array.toArray_toList] at hS ⊢
   refine s_go (s_assign) ?_
   try simp only [opv, nZ, Value.cells]
   refine y_nilf ?_
   refine hK12 _ _ ?_
   refine y_ret ?_
   refine rm_mark hS (by repeat (first | exact Upd.head | apply Upd.tail)) (fun w28 hS => ?_)
   refine rm_nil ?_
   refine r_cell_tmp_one rfl Tryz.underlying22 (hS := hS) (hR := ?_)
   exact ⟨none, 0, by rw [hE]; rfl, by rw [hE]; exact (hS.nil_vec 88 21).sel (by repeat (first | exact Sel.nil | (refine Sel.cons (by repeat (exact Del.head)) ?_)))⟩
  ·
   try simp only [dZ, ne_eq, bne_iff_ne, beq_iff_eq] at hc2
   have hE : decP bs = ((decR bs).1, 0) := by rw [hD2, if_pos hc2]
   refine y_skip ?_
   refine hK9 _ _ ?_
   refine y_seq fun K13 hK13 => ?_
   refine y_region (by kernel_rfl) ?_
   refine s_go (m_load_obj Tryz.underlying22 (hS := hS) (hv := by rfl)) ?_
   try simp only [opv, nZ, Value.cells, List.getElem_toArray, List.getElem_cons_zero, List.getElem_cons_succ]
   refine m_store_obj ti22 (hS := hS) (hc := by (exact splice_whole (by (simp [opv, Value.cells, *]; done)))) (hv := by rfl) (hfit := by (simp [*]; done)) (h1 := by simp [opv, Value.cells, Value.oneCell']) (h := fun w29 hS => ?_)
   try simp only [opv, nZ, Value.cells, Array.toArray_toList] at hS ⊢
   refine s_go (s_assign) ?_
   try simp only [opv, nZ, Value.cells]
   refine y_nilf ?_
   refine hK13 _ _ ?_
   refine y_ret ?_
   refine rm_mark hS (by repeat (first | exact Upd.head | apply Upd.tail)) (fun w30 hS => ?_)
   refine rm_nil ?_
   refine r_cell_tmp_one rfl Tryz.underlying22 (hS := hS) (hR := ?_)
   rw [hE]
   exact ⟨_, _, rfl, hS.selA⟩
 case rft1 =>
  exact hX.elim
 case rfe1 =>
  refine y_ex_cons (fun D1 T1 w31 R1 hX hS => ?_) ?_
  ·
   obtain ⟨Af, cf, ef, xf, B, d, kx, hcf, hE, hef, hxf, rfl⟩ := hX
   simp only [List.cons_append, List.nil_append] at hS
   refine (look_here ?_)
   refine hK4 _ _ ?_
   refine y_seq fun K14 hK14 => ?_
   refine y_seq fun K15 hK15 => ?_
   refine y_region (by kernel_rfl) ?_
   refine s_go (m_load_obj Tryz.underlying130 (hS := hS) (hv := by rfl)) ?_
   try simp only [opv, nZ, Value.cells, List.getElem_toArray, List.getElem_cons_zero, List.getElem_cons_succ]
   refine s_call en89 ?_
   try simp only [opv, nZ, Value.cells, List.map_toArray, List.map_cons, List.map_nil, List.append_toArray, List.cons_append, List.nil_append, Array.append_empty]
   refine CallR.mono (c_cDone _ g (ef) Af cf (xf) hcf (hS.owns (by repeat (first | exact Spl.nil | (apply Spl.cons (by repeat (first | exact Del.head | apply Del.tail))))))) ?_
   rintro _ w32 ⟨rfl, hC32⟩
   replace hS := hS.frame (by repeat (first | exact Spl.nil | (apply Spl.cons (by repeat (first | exact Del.head | apply Del.tail))))) hC32 (by intro r hr g hg; simp only [List.mem_cons, List.not_mem_nil, or_false] at hr; rcases hr with rfl | rfl | rfl <;> first | (simp [Res.reads] at hg; done) | exact .inr ⟨_, by simp, .inr hg⟩)
   simp only [List.cons_append, List.nil_append] at hS
   try simp only [opv, nZ, Value.cells]
   try (have hv3 : (if 0 < xf.length then (3 : Int) else ef) = 3 := by rw [hxf, hef]; rfl)
   try rw [show (if 0 < xf.length then (3 : Int) else ef) = 3 by rw [hxf, hef]; rfl]
   refine s_go (s_assign) ?_
   try simp only [opv, nZ, Value.cells]
   refine y_nilf ?_
   refine hK15 _ _ ?_
   refine y_seq fun K16 hK16 => ?_
   refine y_region (by kernel_rfl) ?_
   refine s_go (s_move) ?_
   try simp only [opv, nZ, Value.cells]
   refine s_go (s_neq) ?_
   try simp only [opv, nZ, Value.cells]
   refine y_nilf ?_
   refine hK16 _ _ ?_
   refine y_cond (ht := fun hc3 => ?_) (hf := fun hc3 => ?_)
   ·
    try simp only [dZ, ne_eq, bne_iff_ne, beq_iff_eq] at hc3
    try have hE : decP bs = ([], if 0 < xf.length then 3 else ef) := by rw [hD2, if_neg hc3]
    refine y_seq fun K17 hK17 => ?_
    refine y_region (by kernel_rfl) ?_
    refine s_go (s_move) ?_
    try simp only [opv, nZ, Value.cells]
    refine m_store_obj ti22 (hS := hS) (hc := by (exact splice_whole (by (simp [opv, Value.cells, *]; done)))) (hv := by rfl) (hfit := by (simp [*]; done)) (h1 := by simp [opv, Value.cells, Value.oneCell']) (h := fun w33 hS => ?_)
    try simp only [opv, nZ, Value.cells, Array.toArray_toList] at hS ⊢
    refine s_go (s_assign) ?_
    try simp only [opv, nZ, Value.cells]
    refine y_nilf ?_
    refine hK17 _ _ ?_
    refine y_ret ?_
    refine rm_mark hS (by repeat (first | exact Upd.head | apply Upd.tail)) (fun w34 hS => ?_)
    refine rm_nil ?_
    refine r_cell_tmp_one rfl Tryz.underlying22 (hS := hS) (hR := ?_)
    exact ⟨none, 0, by rw [hE]; rfl, by rw [hE]; exact (hS.nil_vec 88 21).sel (by repeat (first | exact Sel.nil | (refine Sel.cons (by repeat (exact Del.head)) ?_)))⟩
   ·
    try simp only [dZ, ne_eq, bne_iff_ne, beq_iff_eq] at hc3
    (exfalso; omega)
  exact y_ex_nil
end Go.Proofs.YtffmanidnlbjjaaGreat
set_option linter.unusedSimpArgs false
set_option linter.unusedVariables false
set_option maxHeartbeats 1500000
set_option maxRecDepth 100000
namespace Go.Proofs.YtffmanidnlbjjaaGreat
open Go.RowKit

theorem in_fail {e e2 : Int} {xs : List Int} {st : Int × List Int} (h0 : (keyS e xs).2.1 = 0) (hV : (valP (kn (keyS e xs).1 0) (keyS e xs).2.1 (keyS e xs).2.2).2 = failS true e2 st) (hs : st.1 = 0) (he : ¬ e2 = 0) : atmS e xs = (atom0, e2, []) := by
  have hf := failS_new (e2 := e2) hs he
  rw [atmS_no h0 (by rw [hV, hf]; exact he), hV, hf]
theorem keyT_e0 {s : Int} {n : Nat} {e : Int} {xs : List Int} (h : ¬ (keyS.keyT s n e xs).2.1 = 0) : (keyS.keyT s n e xs).1 = key0 := by
  unfold keyS.keyT keyS.keyQ at h ⊢
  repeat' split
  all_goals first | rfl | (exfalso; apply h; repeat' split; all_goals assumption)
theorem keyS_e0 {e : Int} {xs : List Int} (h : ¬ kn (keyS e xs).1 0 = 0) : (keyS e xs).2.1 = 0 := by
  by_cases h0 : (keyS e xs).2.1 = 0
  · exact h0
  · refine absurd ?_ h
    have : (keyS e xs).1 = key0 := by
      unfold keyS at h0 ⊢
      repeat' split
      all_goals first | rfl | exact keyT_e0 (by simp_all) | (simp_all; done)
    rw [this]; rfl
theorem in_err {e : Int} {xs : List Int} {st : Int × List Int} (h0 : (keyS e xs).2.1 = 0) (hV : (valP (kn (keyS e xs).1 0) (keyS e xs).2.1 (keyS e xs).2.2).2 = st) (hs : ¬ st.1 = 0) : atmS e xs = (atom0, st) := by
  rw [atmS_no h0 (by rw [hV]; exact hs), hV]
theorem in_ok {e : Int} {xs v : List Int} {st : Int × List Int} (h0 : (keyS e xs).2.1 = 0) (hV : valP (kn (keyS e xs).1 0) (keyS e xs).2.1 (keyS e xs).2.2 = (v, st)) (hs : st.1 = 0) : atmS e xs = ((keyS e xs).1 ++ v, st) := by
  rw [atmS_yes h0 (by rw [hV]; exact hs), hV]
theorem at_set12 {k : List Int} {u : Nat} (hk : k.length = 12) : (k ++ mkV 0 nm0).set 12 (u : Int) = k ++ mkV u nm0 := by
  rw [List.set_append_right _ _ (by omega), hk]; rfl
theorem at_text {k t t' : List Int} {n : Nat} (hk : k.length = 12) (h : t.length = 8) (h' : t'.length = 8) : splice (AA (k ++ mkV n t)).toList 13 (ic .u8 t').toList = zi atomKs (k ++ mkV n t') := by
  have e : ∀ u : List Int, zi atomKs (k ++ u) = zi keyKs k ++ zi valKs u := fun u => zi_app (k1 := keyKs) (k2 := valKs) (by simpa using hk)
  have l1 : (zi keyKs k).length = 12 := zi_len (by simpa using hk)
  have hm := mkV_text (n := n) h h'
  show splice (zi atomKs (k ++ mkV n t)) 13 (ic .u8 t').toList = _
  rw [e, e, ← hm]
  show splice (zi keyKs k ++ zi valKs (mkV n t)) 13 _ = zi keyKs k ++ splice (zi valKs (mkV n t)) 1 _
  have hc : (ic .u8 t').toList.length = 8 := by rw [← h']; simp [ic]
  unfold splice
  rw [hc, List.take_append, List.drop_append, l1, List.take_of_length_le (by omega), List.drop_eq_nil_of_le (by omega)]
  simp
theorem at_get12 {k t : List Int} {u : Nat} (hk : k.length = 12) : (k ++ mkV u t).getD 12 0 = (u : Int) := by
  rw [List.getD_eq_getElem?_getD, List.getElem?_append_right (by omega), hk]; rfl

theorem c_ref09fail (w0 : World) (g : Nat) (A : Option Addr) (c : Nat) (xs : List Int) (hc : xs.length ≤ c) (e2 : Int) (hM : St (OwnB [.obj g (.cells #[.slice A xs.length c, .int .i64 0] 140 (0, 0)), .rd A 1 xs.length (xs.map (Value.int .u8))]) w0 w0 [.obj g (.cells #[.slice A xs.length c, .int .i64 0] 140 (0, 0)), .rd A 1 xs.length (xs.map (Value.int .u8))]) :
    CallR Tryz.prog 159 #[.pointer (some ⟨g, 0, none⟩), .int .i64 e2] w0 fun v w' => v = .agg (AA atom0) ∧ CrSt w0 w' [.obj g (.cells #[.slice A xs.length c, .int .i64 0] 140 (0, 0)), .rd A 1 xs.length (xs.map (Value.int .u8))] g e2 [] [] := by
 have hS := hM
 have h0l : atom0.length = 21 := rfl
 refine c_enter (l := [.pointer (some ⟨g, 0, none⟩), .int .i64 e2, undef, undef, undef, undef, undef, undef, undef]) Tryz.func159 rfl (by simp only [Tryz.ntmps159, List.size_toArray, List.length_cons, List.length_nil, Nat.reduceAdd, Nat.reduceSub, Array.replicate_succ, Array.replicate_zero, List.push_toArray, List.append_toArray, List.nil_append, List.cons_append]) ?_
 refine x_seq fun K1 hK1 => ?_
 refine x_region ?_
 refine m_alloc ti88 hS (fun w1 g1 hS => ?_)
 try simp only [opv, nZ, Value.cells, Array.toArray_toList] at hS ⊢
 replace hS : St (OwnB [.obj g (.cells #[.slice A xs.length c, .int .i64 0] 140 (0, 0)), .rd A 1 xs.length (xs.map (Value.int .u8))]) w0 w1 (.obj g1 (.cells (AA atom0) 88 (0, 0)) :: _) := hS
 refine x_nil ?_
 refine hK1 _ _ ?_
 refine x_seq fun K2 hK2 => ?_
 refine x_region ?_
 refine s_go (s_move) ?_
 try simp only [opv, nZ, Value.cells]
 refine s_go (s_move) ?_
 try simp only [opv, nZ, Value.cells]
 refine s_call en195 ?_
 try simp only [opv, nZ, Value.cells, List.map_toArray, List.map_cons, List.map_nil, List.append_toArray, List.cons_append, List.nil_append, Array.append_empty]
 refine CallR.mono (c_ref08Fail _ g A c xs hc e2 (hS.owns (by repeat (first | exact Spl.nil | (apply Spl.cons (by repeat (first | exact Del.head | apply Del.tail))))))) ?_
 rintro _ w2 ⟨rfl, Aa, ca, hcpa, hRa, hCa⟩
 have hYa := RdIn.trans hM hS (by repeat (first | exact Spl.nil | (apply Spl.cons (by repeat (first | exact Del.head | apply Del.tail))))) hRa (by intro s hs q hb; simp only [List.mem_cons, List.not_mem_nil, or_false] at hs; rcases hs with rfl | rfl <;> first | (simp [Res.reads] at hb; done) | exact .inr ⟨_, List.mem_cons_of_mem _ (List.mem_cons_self ..), .inr hb⟩)
 replace hS := hS.frame (by repeat (first | exact Spl.nil | (apply Spl.cons (by repeat (first | exact Del.head | apply Del.tail))))) hCa (by intro r hr b hb; simp only [List.mem_cons, List.not_mem_nil, or_false] at hr; rcases hr with rfl | rfl <;> (simp [Res.reads] at hb; done))
 replace hRa := hYa
 simp only [List.cons_append, List.nil_append] at hS
 try simp only [opv, nZ, Value.cells]
 refine x_nil ?_
 refine hK2 _ _ ?_
 refine x_seq fun K3 hK3 => ?_
 refine x_region ?_
 refine s_go (s_build_struct (cells := #[.int .u8 0, .int .u16 0, .int .u8 0, .int .u8 0, .int .u8 0, .int .u8 0, .int .u8 0, .int .u8 0, .int .u8 0, .int .u8 0, .int .u8 0, .int .u32 0, .int .u64 0, .int .u8 0, .int .u8 0, .int .u8 0, .int .u8 0, .int .u8 0, .int .u8 0, .int .u8 0, .int .u8 0]) Tryz.underlying88 ti88 bp88 (hc := by simp only [List.map_toArray, List.map_cons, List.map_nil, opv, nZ, Value.cells, List.toList_toArray]; (repeat (refine fill_cons rfl rfl (Nat.le_of_ble_eq_true rfl) ?_)); rfl)) ?_
 try simp only [opv, nZ, Value.cells]
 rw [show (#[.int .u8 0, .int .u16 0, .int .u8 0, .int .u8 0, .int .u8 0, .int .u8 0, .int .u8 0, .int .u8 0, .int .u8 0, .int .u8 0, .int .u8 0, .int .u32 0, .int .u64 0, .int .u8 0, .int .u8 0, .int .u8 0, .int .u8 0, .int .u8 0, .int .u8 0, .int .u8 0, .int .u8 0] : Array Value) = AA atom0 from rfl]
 refine m_store_obj ti88 (hS := hS) (hc := by exact zi_whole (by omega) (by omega)) (hv := by rfl) (hfit := by (rw [zi_size (by omega)]; decide)) (h1 := by exact zi_one _ _) (h := fun w3 hS => ?_)
 try simp only [opv, nZ, Value.cells, Array.toArray_toList] at hS ⊢
 refine x_nil ?_
 refine hK3 _ _ ?_
 refine x_ret ?_
 refine r_cell_agg rfl Tryz.underlying88 ti88 (hS := hS) (hfit := by (rw [zi_size (by omega)]; rfl)) (hR := ?_)
 exact ⟨rfl, _, _, by assumption, by assumption, hS.sel (by repeat (first | exact Sel.nil | (refine Sel.cons (by repeat (exact Del.head)) ?_)))⟩
theorem c_ref09In (w0 : World) (g : Nat) (e : Int) (A : Option Addr) (c : Nat) (xs : List Int) (hc : xs.length ≤ c) (hw : Byt xs) (hn : xs.length ≤ 1000000000) (hM : St (OwnB [.obj g (.cells #[.slice A xs.length c, .int .i64 e] 140 (0, 0)), .rd A 1 xs.length (xs.map (Value.int .u8))]) w0 w0 [.obj g (.cells #[.slice A xs.length c, .int .i64 e] 140 (0, 0)), .rd A 1 xs.length (xs.map (Value.int .u8))]) :
    CallR Tryz.prog 91 #[.pointer (some ⟨g, 0, none⟩)] w0 fun v w' => v = .agg (AA (atmS e xs).1) ∧ CrSt w0 w' [.obj g (.cells #[.slice A xs.length c, .int .i64 e] 140 (0, 0)), .rd A 1 xs.length (xs.map (Value.int .u8))] g (atmS e xs).2.1 (atmS e xs).2.2 [] := by
 have hS := hM
 have hk12 := keyS_l12 e hw
 have hkb := keyS_byt (e := e) hw
 have hkl := keyS_len (e := e) (xs := xs)
 have hke := (keyS_key (e := e) hw).e0
 have h0l : atom0.length = 21 := rfl
 have hv0l : (mkV 0 nm0).length = 9 := rfl
 have hl1 : ((keyS e xs).1 ++ mkV 0 nm0).length = 21 := by rw [List.length_append]; omega
 refine c_enter (l := [.pointer (some ⟨g, 0, none⟩), undef, undef, undef, undef, undef, undef, undef, undef, undef, undef, undef, undef, undef, undef, undef, undef, undef, undef, undef, undef, undef, undef, undef, undef, undef, undef, undef, undef, undef, undef, undef, undef, undef, undef, undef, undef, undef, undef, undef, undef, undef, undef, undef, undef, undef, undef, undef, undef, undef, undef, undef, undef, undef, undef, undef, undef, undef, undef, undef, undef, undef, undef, undef, undef, undef, undef, undef, undef, undef, undef, undef, undef, undef, undef, undef, undef, undef, undef, undef, undef, undef, undef, undef, undef, undef, undef, undef, undef, undef, undef, undef, undef, undef, undef, undef, undef, undef, undef, undef, undef, undef, undef, undef, undef, undef, undef, undef, undef]) Tryz.func91 rfl (by simp only [Tryz.ntmps91, List.size_toArray, List.length_cons, List.length_nil, Nat.reduceAdd, Nat.reduceSub, Array.replicate_succ, Array.replicate_zero, List.push_toArray, List.append_toArray, List.nil_append, List.cons_append]) ?_
 refine x_seq fun K1 hK1 => ?_
 refine x_region ?_
 refine m_alloc ti88 hS (fun w1 g1 hS => ?_)
 try simp only [opv, nZ, Value.cells, Array.toArray_toList] at hS ⊢
 replace hS : St (OwnB [.obj g (.cells #[.slice A xs.length c, .int .i64 e] 140 (0, 0)), .rd A 1 xs.length (xs.map (Value.int .u8))]) w0 w1 (.obj g1 (.cells (AA atom0) 88 (0, 0)) :: _) := hS
 refine x_nil ?_
 refine hK1 _ _ ?_
 refine x_seq fun K2 hK2 => ?_
 refine x_region ?_
 refine s_go (s_move) ?_
 try simp only [opv, nZ, Value.cells]
 refine s_call en158 ?_
 try simp only [opv, nZ, Value.cells, List.map_toArray, List.map_cons, List.map_nil, List.append_toArray, List.cons_append, List.nil_append, Array.append_empty]
 refine CallR.mono (c_ref08In _ g e A c xs hc hw hn (hS.owns (by repeat (first | exact Spl.nil | (apply Spl.cons (by repeat (first | exact Del.head | apply Del.tail))))))) ?_
 rintro _ w2 ⟨rfl, Aa, ca, hcpa, hRa, hCa⟩
 have hYa := RdIn.trans hM hS (by repeat (first | exact Spl.nil | (apply Spl.cons (by repeat (first | exact Del.head | apply Del.tail))))) hRa (by intro s hs q hb; simp only [List.mem_cons, List.not_mem_nil, or_false] at hs; rcases hs with rfl | rfl <;> first | (simp [Res.reads] at hb; done) | exact .inr ⟨_, List.mem_cons_of_mem _ (List.mem_cons_self ..), .inr hb⟩)
 replace hS := hS.frame (by repeat (first | exact Spl.nil | (apply Spl.cons (by repeat (first | exact Del.head | apply Del.tail))))) hCa (by intro r hr b hb; simp only [List.mem_cons, List.not_mem_nil, or_false] at hr; rcases hr with rfl | rfl <;> first | (simp [Res.reads] at hb; done) | exact hRa b hb)
 replace hRa := hYa
 simp only [List.cons_append, List.nil_append] at hS
 try simp only [opv, nZ, Value.cells]
 refine s_go (s_build_struct (cells := AA ((keyS e xs).1 ++ mkV 0 nm0)) Tryz.underlying88 ti88 bp88 (hc := by simp only [List.map_toArray, List.map_cons, List.map_nil, opv, nZ, Value.cells, List.toList_toArray]; exact fill_key rfl hk12 rfl)) ?_
 try simp only [opv, nZ, Value.cells]
 refine m_alloc ti88 hS (fun w3 g3 hS => ?_)
 try simp only [opv, nZ, Value.cells, Array.toArray_toList] at hS ⊢
 replace hS : St (OwnB [.obj g (.cells #[.slice A xs.length c, .int .i64 e] 140 (0, 0)), .rd A 1 xs.length (xs.map (Value.int .u8))]) w0 w3 (.obj g3 (.cells (AA atom0) 88 (0, 0)) :: _) := hS
 refine m_store_obj ti88 (hS := hS) (hc := by exact zi_whole (by omega) (by omega)) (hv := by (show (zi _ _).toArray.size = _; rw [zi_size (by omega)]; rfl)) (hfit := by (rw [zi_size (by omega)]; decide)) (h1 := by exact zi_one _ _) (h := fun w4 hS => ?_)
 try simp only [opv, nZ, Value.cells, Array.toArray_toList] at hS ⊢
 refine x_nil ?_
 refine hK2 _ _ ?_
 refine x_seq fun K3 hK3 => ?_
 refine x_seq fun K4 hK4 => ?_
 refine x_region ?_
 refine s_go (m_fieldAddr Tryz.underlying88 (hi := ti83)) ?_
 try simp only [opv, nZ, Value.cells, Nat.zero_add, Nat.add_zero, List.getElem_toArray, List.getElem_cons_zero, List.getElem_cons_succ]
 refine s_go (m_fieldAddr Tryz.underlying83 (hi := ti5)) ?_
 try simp only [opv, nZ, Value.cells, Nat.zero_add, Nat.add_zero, List.getElem_toArray, List.getElem_cons_zero, List.getElem_cons_succ]
 refine s_go (m_load_obj Tryz.underlying5 (hS := hS) (hv := by exact zi_get rfl (by omega))) ?_
 try simp only [opv, nZ, Value.cells, List.getElem_toArray, List.getElem_cons_zero, List.getElem_cons_succ]
 rw [show ((keyS e xs).1 ++ mkV 0 nm0).getD 0 0 = ((kn (keyS e xs).1 0 : Nat) : Int) by rw [← hke]; exact getD_app0 (by omega)]
 refine x_nil ?_
 refine hK4 _ _ ?_
 refine x_block ?_
 refine x_seq fun K5 hK5 => ?_
 refine x_region ?_
 refine s_go (s_eql) ?_
 try simp only [opv, nZ, Value.cells]
 refine s_go (s_assign) ?_
 try simp only [opv, nZ, Value.cells]
 refine x_nil ?_
 refine hK5 _ _ ?_
 refine x_cond (ht := fun hc1 => ?_) (hf := fun hc1 => ?_)
 ·
  try simp only [dZ, ne_eq, bne_iff_ne, beq_iff_eq] at hc1
  have hk1 : kn (keyS e xs).1 0 = 1 := by omega
  have hkE := keyS_e0 (e := e) (xs := xs) (by omega)
  have hov := oneS_val (e := (keyS e xs).2.1) hkb
  obtain ⟨u1, hu1⟩ := Int.eq_ofNat_of_zero_le hov.1
  rw [hu1] at hov
  have hV1 : valP (kn (keyS e xs).1 0) (keyS e xs).2.1 (keyS e xs).2.2 = (mkV u1 nm0, failS (decide (¬ (u1 : Int) = 1) && decide (¬ (u1 : Int) = 2)) 3 (oneS (keyS e xs).2.1 (keyS e xs).2.2).2) := by rw [valP_1 hk1, hu1, Int.toNat_natCast]
  have hl3 : ((keyS e xs).1 ++ mkV u1 nm0).length = 21 := by rw [List.length_append, hk12, mkV_len (show nm0.length = 8 from rfl)]
  refine x_seq fun K6 hK6 => ?_
  refine x_region ?_
  refine s_go (s_move) ?_
  try simp only [opv, nZ, Value.cells]
  refine s_go (s_build_struct (cells := #[_, .int .u64 0, .int .u8 0, .int .u8 0, .int .u8 0, .int .u8 0, .int .u8 0, .int .u8 0, .int .u8 0, .int .u8 0, .int .u8 0, .slice none 0 0, .int .i64 0]) Tryz.underlying142 ti142 bp142 (hc := by simp only [List.map_toArray, List.map_cons, List.map_nil, opv, nZ, Value.cells, List.toList_toArray]; (repeat (refine fill_cons rfl rfl (Nat.le_of_ble_eq_true rfl) ?_)); rfl)) ?_
  try simp only [opv, nZ, Value.cells]
  refine s_call en90 ?_
  try simp only [opv, nZ, Value.cells, List.map_toArray, List.map_cons, List.map_nil, List.append_toArray, List.cons_append, List.nil_append, Array.append_empty]
  refine CallR.mono (c_ref07Read _ g (keyS e xs).2.1 Aa ca (keyS e xs).2.2 hcpa hkb (by omega) ⟨1, 0, 0, nm0, none, 0, [], 0⟩ (by decide) (by decide) (hS.owns (by repeat (first | exact Spl.nil | (apply Spl.cons (by repeat (first | exact Del.head | apply Del.tail))))))) ?_
  rintro _ w5 ⟨Bb, kb, rfl, hQb, Ab, cb, hcpb, hRb, hCb⟩
  have hYb := RdIn.trans hM hS (by repeat (first | exact Spl.nil | (apply Spl.cons (by repeat (first | exact Del.head | apply Del.tail))))) hRb (by intro s hs q hb; simp only [List.mem_cons, List.not_mem_nil, or_false] at hs; rcases hs with rfl | rfl <;> first | (simp [Res.reads] at hb; done) | exact hRa q hb)
  replace hS := hS.frame (by repeat (first | exact Spl.nil | (apply Spl.cons (by repeat (first | exact Del.head | apply Del.tail))))) hCb (by intro r hr b hb; simp only [List.mem_cons, List.not_mem_nil, or_false] at hr; rcases hr with rfl | rfl | rfl <;> first | (simp [Res.reads] at hb; done) | exact hRb b hb | exact hQb b hb)
  replace hRb := hYb
  simp only [List.cons_append, List.nil_append] at hS
  simp only [rdS_b] at hS hcpb hRb ⊢
  try simp only [opv, nZ, Value.cells]
  refine s_go (s_field_one Tryz.underlying142 (hu := Tryz.underlying5) (hv := by rfl)) ?_
  try simp only [opv, nZ, Value.cells, List.getElem_toArray, List.getElem_cons_zero, List.getElem_cons_succ]
  rw [hu1]
  refine s_go (s_conv Tryz.underlying5 Tryz.underlying84 (hc := by exact wr_u64 (by omega) (by omega))) ?_
  try simp only [opv, nZ, Value.cells]
  refine s_go (m_fieldAddr Tryz.underlying88 (hi := ti86)) ?_
  try simp only [opv, nZ, Value.cells, Nat.zero_add, Nat.add_zero, List.getElem_toArray, List.getElem_cons_zero, List.getElem_cons_succ]
  refine s_go (m_fieldAddr Tryz.underlying86 (hi := ti84)) ?_
  try simp only [opv, nZ, Value.cells, Nat.zero_add, Nat.add_zero, List.getElem_toArray, List.getElem_cons_zero, List.getElem_cons_succ]
  refine m_store_obj ti84 (hS := hS) (hc := by exact zi_set rfl (by omega)) (hv := by rfl) (hfit := by (rw [zi_size (by omega)]; decide)) (h1 := by simp [opv, Value.cells, Value.oneCell']) (h := fun w6 hS => ?_)
  try simp only [opv, nZ, Value.cells, Array.toArray_toList] at hS ⊢
  rw [at_set12 hk12] at hS
  refine x_nil ?_
  refine hK6 _ _ ?_
  refine x_seq fun K7 hK7 => ?_
  refine x_region ?_
  refine s_go (s_move) ?_
  try simp only [opv, nZ, Value.cells]
  refine s_go (s_nilCheck) ?_
  try simp only [opv, nZ, Value.cells]
  refine s_go (m_fieldAddr Tryz.underlying140 (hi := ti53)) ?_
  try simp only [opv, nZ, Value.cells, Nat.zero_add, Nat.add_zero, List.getElem_toArray, List.getElem_cons_zero, List.getElem_cons_succ]
  refine s_go (m_load_obj Tryz.underlying53 (hS := hS) (hv := by rfl)) ?_
  try simp only [opv, nZ, Value.cells, List.getElem_toArray, List.getElem_cons_zero, List.getElem_cons_succ]
  refine s_go (s_eql) ?_
  try simp only [opv, nZ, Value.cells]
  refine s_part 23 rfl (fun hp1 => ?_) (fun hp1 => ?_)
  ·
   try simp only [n3, n4]
   try simp only [dZ, ne_eq] at hp1
   have hE1 : (oneS (keyS e xs).2.1 (keyS e xs).2.2).2.1 = 0 := hp1
   refine s_go (s_move) ?_
   try simp only [opv, nZ, Value.cells]
   refine g_on (yi (t := 24) rfl rfl) ?_
   refine s_go (m_fieldAddr Tryz.underlying88 (hi := ti86)) ?_
   try simp only [opv, nZ, Value.cells, Nat.zero_add, Nat.add_zero, List.getElem_toArray, List.getElem_cons_zero, List.getElem_cons_succ]
   refine g_on (yi (t := 24) rfl rfl) ?_
   refine s_go (m_fieldAddr Tryz.underlying86 (hi := ti84)) ?_
   try simp only [opv, nZ, Value.cells, Nat.zero_add, Nat.add_zero, List.getElem_toArray, List.getElem_cons_zero, List.getElem_cons_succ]
   refine g_on (yi (t := 24) rfl rfl) ?_
   refine s_go (m_load_obj Tryz.underlying84 (hS := hS) (hv := by exact zi_get rfl (by omega))) ?_
   try simp only [opv, nZ, Value.cells, List.getElem_toArray, List.getElem_cons_zero, List.getElem_cons_succ]
   rw [at_get12 hk12]
   refine g_on (yi (t := 24) rfl rfl) ?_
   refine s_go (s_neq) ?_
   try simp only [opv, nZ, Value.cells]
   refine s_part 28 rfl (fun hp2 => ?_) (fun hp2 => ?_)
   ·
    try simp only [n3, n4]
    try simp only [dZ, ne_eq] at hp2
    refine s_go (s_pick_t) ?_
    try simp only [opv, nZ, Value.cells]
    refine s_go (s_move) ?_
    try simp only [opv, nZ, Value.cells]
    refine g_on (yi (t := 30) rfl rfl) ?_
    refine s_go (m_fieldAddr Tryz.underlying88 (hi := ti86)) ?_
    try simp only [opv, nZ, Value.cells, Nat.zero_add, Nat.add_zero, List.getElem_toArray, List.getElem_cons_zero, List.getElem_cons_succ]
    refine g_on (yi (t := 30) rfl rfl) ?_
    refine s_go (m_fieldAddr Tryz.underlying86 (hi := ti84)) ?_
    try simp only [opv, nZ, Value.cells, Nat.zero_add, Nat.add_zero, List.getElem_toArray, List.getElem_cons_zero, List.getElem_cons_succ]
    refine g_on (yi (t := 30) rfl rfl) ?_
    refine s_go (m_load_obj Tryz.underlying84 (hS := hS) (hv := by exact zi_get rfl (by omega))) ?_
    try simp only [opv, nZ, Value.cells, List.getElem_toArray, List.getElem_cons_zero, List.getElem_cons_succ]
    rw [at_get12 hk12]
    refine g_on (yi (t := 30) rfl rfl) ?_
    refine s_go (s_neq) ?_
    try simp only [opv, nZ, Value.cells]
    refine s_go (s_pick_t) ?_
    try simp only [opv, nZ, Value.cells]
    refine x_nil ?_
    refine hK7 _ _ ?_
    refine x_cond (ht := fun hc2 => ?_) (hf := fun hc2 => ?_)
    ·
     try simp only [dZ, ne_eq, bne_iff_ne, beq_iff_eq] at hc2
     have hz := in_fail (st := (oneS (keyS e xs).2.1 (keyS e xs).2.2).2) hkE (by rw [hV1, decide_eq_true (show ¬ ((u1 : Nat) : Int) = 1 by omega), decide_eq_true (show ¬ ((u1 : Nat) : Int) = 2 by omega)]; rfl) hE1 (by decide)
     rw [hE1] at hS
     refine x_seq fun K8 hK8 => ?_
     refine x_region ?_
     refine s_go (s_move) ?_
     try simp only [opv, nZ, Value.cells]
     refine s_call en159 ?_
     try simp only [opv, nZ, Value.cells, List.map_toArray, List.map_cons, List.map_nil, List.append_toArray, List.cons_append, List.nil_append, Array.append_empty]
     refine CallR.mono (c_ref09fail _ g Ab cb (oneS (keyS e xs).2.1 (keyS e xs).2.2).2.2 hcpb 3 (hS.owns (by repeat (first | exact Spl.nil | (apply Spl.cons (by repeat (exact Del.head))))))) ?_
     rintro _ w7 ⟨rfl, Af, cf, hcpf, hRf, hCf⟩
     have hYf := RdIn.trans hM hS (by repeat (first | exact Spl.nil | (apply Spl.cons (by repeat (exact Del.head))))) hRf (by intro s hs q hb; simp only [List.mem_cons, List.not_mem_nil, or_false] at hs; rcases hs with rfl | rfl <;> first | (simp [Res.reads] at hb; done) | exact hRb q hb)
     replace hS := hS.frame (by repeat (first | exact Spl.nil | (apply Spl.cons (by repeat (exact Del.head))))) hCf (by intro r hr b hb; simp only [List.mem_cons, List.not_mem_nil, or_false] at hr; rcases hr with rfl | rfl <;> (simp [Res.reads] at hb; done))
     replace hRf := hYf
     simp only [List.cons_append, List.nil_append] at hS
     try simp only [opv, nZ, Value.cells]
     refine m_store_obj ti88 (hS := hS) (hc := by exact zi_whole (by omega) (by omega)) (hv := by rfl) (hfit := by (rw [zi_size (by omega)]; decide)) (h1 := by exact zi_one _ _) (h := fun w8 hS => ?_)
     try simp only [opv, nZ, Value.cells, Array.toArray_toList] at hS ⊢
     refine x_nil ?_
     refine hK8 _ _ ?_
     refine x_ret ?_
     refine r_cell_agg rfl Tryz.underlying88 ti88 (hS := hS) (hfit := by (rw [zi_size (by omega)]; rfl)) (hR := ?_)
     exact ⟨by rw [hz], _, _, by rw [hz]; assumption, by rw [hz]; assumption, by rw [hz]; exact hS.sel (by repeat (first | exact Sel.nil | (refine Sel.cons (by repeat (exact Del.head)) ?_)))⟩
    ·
     try simp only [dZ, ne_eq, bne_iff_ne, beq_iff_eq] at hc2
     have hW : valP (kn (keyS e xs).1 0) (keyS e xs).2.1 (keyS e xs).2.2 = (mkV u1 nm0, (oneS (keyS e xs).2.1 (keyS e xs).2.2).2) := by rw [hV1]; congr 1; (rw [decide_eq_false (show ¬ ¬ ((u1 : Nat) : Int) = 2 by omega), Bool.and_false, failS_no])
     refine x_skip ?_
     refine hK3 _ _ ?_
     refine x_seq fun K9 hK9 => ?_
     refine x_seq fun K10 hK10 => ?_
     refine x_region ?_
     refine s_go (s_move) ?_
     try simp only [opv, nZ, Value.cells]
     refine s_go (s_nilCheck) ?_
     try simp only [opv, nZ, Value.cells]
     refine s_go (m_fieldAddr Tryz.underlying140 (hi := ti53)) ?_
     try simp only [opv, nZ, Value.cells, Nat.zero_add, Nat.add_zero, List.getElem_toArray, List.getElem_cons_zero, List.getElem_cons_succ]
     refine s_go (m_load_obj Tryz.underlying53 (hS := hS) (hv := by rfl)) ?_
     try simp only [opv, nZ, Value.cells, List.getElem_toArray, List.getElem_cons_zero, List.getElem_cons_succ]
     refine s_go (s_neq) ?_
     try simp only [opv, nZ, Value.cells]
     refine x_nil ?_
     refine hK10 _ _ ?_
     refine x_cond (ht := fun hc3 => ?_) (hf := fun hc3 => ?_)
     ·
      try simp only [dZ, ne_eq, bne_iff_ne, beq_iff_eq] at hc3
      (exfalso; omega)
     ·
      try simp only [dZ, ne_eq, bne_iff_ne, beq_iff_eq] at hc3
      have hz := in_ok hkE hW hc3
      refine x_skip ?_
      refine hK9 _ _ ?_
      refine x_seq fun K12 hK12 => ?_
      refine x_region ?_
      refine s_go (m_load_row Tryz.underlying88 (hi := ti88) (hS := hS) (hfit := by (rw [zi_size (by omega)]; rfl))) ?_
      try simp only [opv, nZ, Value.cells, List.getElem_toArray, List.getElem_cons_zero, List.getElem_cons_succ]
      refine m_store_obj ti88 (hS := hS) (hc := by exact zi_whole (by omega) (by omega)) (hv := by (show (zi _ _).toArray.size = _; rw [zi_size (by omega)]; rfl)) (hfit := by (rw [zi_size (by omega)]; decide)) (h1 := by exact zi_one _ _) (h := fun w10 hS => ?_)
      try simp only [opv, nZ, Value.cells, Array.toArray_toList] at hS ⊢
      refine x_nil ?_
      refine hK12 _ _ ?_
      refine x_ret ?_
      refine r_cell_agg rfl Tryz.underlying88 ti88 (hS := hS) (hfit := by (rw [zi_size (by omega)]; rfl)) (hR := ?_)
      exact ⟨by rw [hz], _, _, by rw [hz]; assumption, by rw [hz]; assumption, by rw [hz]; exact hS.sel (by repeat (first | exact Sel.nil | (refine Sel.cons (by repeat (exact Del.head)) ?_)))⟩
   ·
    try simp only [n3, n4]
    try simp only [dZ, ne_eq] at hp2
    refine s_go (s_pick_t) ?_
    try simp only [opv, nZ, Value.cells]
    refine s_go (s_move) ?_
    try simp only [opv, nZ, Value.cells]
    refine g_off (yi (t := 30) rfl rfl) ?_
    try simp only [opv, nZ, Value.cells]
    refine g_off (yi (t := 30) rfl rfl) ?_
    try simp only [opv, nZ, Value.cells]
    refine g_off (yi (t := 30) rfl rfl) ?_
    try simp only [opv, nZ, Value.cells]
    refine g_off (yi (t := 30) rfl rfl) ?_
    try simp only [opv, nZ, Value.cells]
    refine s_go (s_pick_f) ?_
    try simp only [opv, nZ, Value.cells]
    refine x_nil ?_
    refine hK7 _ _ ?_
    refine x_cond_f (h := ?_)
    have hW : valP (kn (keyS e xs).1 0) (keyS e xs).2.1 (keyS e xs).2.2 = (mkV u1 nm0, (oneS (keyS e xs).2.1 (keyS e xs).2.2).2) := by rw [hV1]; congr 1; (rw [decide_eq_false (show ¬ ¬ ((u1 : Nat) : Int) = 1 by omega), Bool.false_and, failS_no])
    refine x_skip ?_
    refine hK3 _ _ ?_
    refine x_seq fun K13 hK13 => ?_
    refine x_seq fun K14 hK14 => ?_
    refine x_region ?_
    refine s_go (s_move) ?_
    try simp only [opv, nZ, Value.cells]
    refine s_go (s_nilCheck) ?_
    try simp only [opv, nZ, Value.cells]
    refine s_go (m_fieldAddr Tryz.underlying140 (hi := ti53)) ?_
    try simp only [opv, nZ, Value.cells, Nat.zero_add, Nat.add_zero, List.getElem_toArray, List.getElem_cons_zero, List.getElem_cons_succ]
    refine s_go (m_load_obj Tryz.underlying53 (hS := hS) (hv := by rfl)) ?_
    try simp only [opv, nZ, Value.cells, List.getElem_toArray, List.getElem_cons_zero, List.getElem_cons_succ]
    refine s_go (s_neq) ?_
    try simp only [opv, nZ, Value.cells]
    refine x_nil ?_
    refine hK14 _ _ ?_
    refine x_cond (ht := fun hc5 => ?_) (hf := fun hc5 => ?_)
    ·
     try simp only [dZ, ne_eq, bne_iff_ne, beq_iff_eq] at hc5
     (exfalso; omega)
    ·
     try simp only [dZ, ne_eq, bne_iff_ne, beq_iff_eq] at hc5
     have hz := in_ok hkE hW hc5
     refine x_skip ?_
     refine hK13 _ _ ?_
     refine x_seq fun K16 hK16 => ?_
     refine x_region ?_
     refine s_go (m_load_row Tryz.underlying88 (hi := ti88) (hS := hS) (hfit := by (rw [zi_size (by omega)]; rfl))) ?_
     try simp only [opv, nZ, Value.cells, List.getElem_toArray, List.getElem_cons_zero, List.getElem_cons_succ]
     refine m_store_obj ti88 (hS := hS) (hc := by exact zi_whole (by omega) (by omega)) (hv := by (show (zi _ _).toArray.size = _; rw [zi_size (by omega)]; rfl)) (hfit := by (rw [zi_size (by omega)]; decide)) (h1 := by exact zi_one _ _) (h := fun w12 hS => ?_)
     try simp only [opv, nZ, Value.cells, Array.toArray_toList] at hS ⊢
     refine x_nil ?_
     refine hK16 _ _ ?_
     refine x_ret ?_
     refine r_cell_agg rfl Tryz.underlying88 ti88 (hS := hS) (hfit := by (rw [zi_size (by omega)]; rfl)) (hR := ?_)
     exact ⟨by rw [hz], _, _, by rw [hz]; assumption, by rw [hz]; assumption, by rw [hz]; exact hS.sel (by repeat (first | exact Sel.nil | (refine Sel.cons (by repeat (exact Del.head)) ?_)))⟩
  ·
   try simp only [n3, n4]
   try simp only [dZ, ne_eq] at hp1
   have hE1 : ¬ (oneS (keyS e xs).2.1 (keyS e xs).2.2).2.1 = 0 := hp1
   refine s_go (s_move) ?_
   try simp only [opv, nZ, Value.cells]
   refine g_off (yi (t := 24) rfl rfl) ?_
   try simp only [opv, nZ, Value.cells]
   refine g_off (yi (t := 24) rfl rfl) ?_
   try simp only [opv, nZ, Value.cells]
   refine g_off (yi (t := 24) rfl rfl) ?_
   try simp only [opv, nZ, Value.cells]
   refine g_off (yi (t := 24) rfl rfl) ?_
   try simp only [opv, nZ, Value.cells]
   refine s_go (s_pick_f) ?_
   try simp only [opv, nZ, Value.cells]
   refine s_go (s_move) ?_
   try simp only [opv, nZ, Value.cells]
   refine g_off (yi (t := 30) rfl rfl) ?_
   try simp only [opv, nZ, Value.cells]
   refine g_off (yi (t := 30) rfl rfl) ?_
   try simp only [opv, nZ, Value.cells]
   refine g_off (yi (t := 30) rfl rfl) ?_
   try simp only [opv, nZ, Value.cells]
   refine g_off (yi (t := 30) rfl rfl) ?_
   try simp only [opv, nZ, Value.cells]
   refine s_go (s_pick_f) ?_
   try simp only [opv, nZ, Value.cells]
   refine x_nil ?_
   refine hK7 _ _ ?_
   refine x_cond_f (h := ?_)
   have hW : valP (kn (keyS e xs).1 0) (keyS e xs).2.1 (keyS e xs).2.2 = (mkV u1 nm0, (oneS (keyS e xs).2.1 (keyS e xs).2.2).2) := by rw [hV1]; congr 1; exact failS_err hE1 (oneS_ok (fun h => absurd hkE h) hE1)
   refine x_skip ?_
   refine hK3 _ _ ?_
   refine x_seq fun K17 hK17 => ?_
   refine x_seq fun K18 hK18 => ?_
   refine x_region ?_
   refine s_go (s_move) ?_
   try simp only [opv, nZ, Value.cells]
   refine s_go (s_nilCheck) ?_
   try simp only [opv, nZ, Value.cells]
   refine s_go (m_fieldAddr Tryz.underlying140 (hi := ti53)) ?_
   try simp only [opv, nZ, Value.cells, Nat.zero_add, Nat.add_zero, List.getElem_toArray, List.getElem_cons_zero, List.getElem_cons_succ]
   refine s_go (m_load_obj Tryz.underlying53 (hS := hS) (hv := by rfl)) ?_
   try simp only [opv, nZ, Value.cells, List.getElem_toArray, List.getElem_cons_zero, List.getElem_cons_succ]
   refine s_go (s_neq) ?_
   try simp only [opv, nZ, Value.cells]
   refine x_nil ?_
   refine hK18 _ _ ?_
   refine x_cond (ht := fun hc7 => ?_) (hf := fun hc7 => ?_)
   ·
    try simp only [dZ, ne_eq, bne_iff_ne, beq_iff_eq] at hc7
    have hz := in_err hkE (by rw [hW]) hc7
    refine x_seq fun K19 hK19 => ?_
    refine x_region ?_
    refine s_go (s_build_struct (cells := #[.int .u8 0, .int .u16 0, .int .u8 0, .int .u8 0, .int .u8 0, .int .u8 0, .int .u8 0, .int .u8 0, .int .u8 0, .int .u8 0, .int .u8 0, .int .u32 0, .int .u64 0, .int .u8 0, .int .u8 0, .int .u8 0, .int .u8 0, .int .u8 0, .int .u8 0, .int .u8 0, .int .u8 0]) Tryz.underlying88 ti88 bp88 (hc := by simp only [List.map_toArray, List.map_cons, List.map_nil, opv, nZ, Value.cells, List.toList_toArray]; (repeat (refine fill_cons rfl rfl (Nat.le_of_ble_eq_true rfl) ?_)); rfl)) ?_
    try simp only [opv, nZ, Value.cells]
    rw [show (#[.int .u8 0, .int .u16 0, .int .u8 0, .int .u8 0, .int .u8 0, .int .u8 0, .int .u8 0, .int .u8 0, .int .u8 0, .int .u8 0, .int .u8 0, .int .u32 0, .int .u64 0, .int .u8 0, .int .u8 0, .int .u8 0, .int .u8 0, .int .u8 0, .int .u8 0, .int .u8 0, .int .u8 0] : Array Value) = AA atom0 from rfl]
    refine m_store_obj ti88 (hS := hS) (hc := by exact zi_whole (by omega) (by omega)) (hv := by rfl) (hfit := by (rw [zi_size (by omega)]; decide)) (h1 := by exact zi_one _ _) (h := fun w13 hS => ?_)
    try simp only [opv, nZ, Value.cells, Array.toArray_toList] at hS ⊢
    refine x_nil ?_
    refine hK19 _ _ ?_
    refine x_ret ?_
    refine r_cell_agg rfl Tryz.underlying88 ti88 (hS := hS) (hfit := by (rw [zi_size (by omega)]; rfl)) (hR := ?_)
    exact ⟨by rw [hz], _, _, by rw [hz]; assumption, by rw [hz]; assumption, by rw [hz]; exact hS.sel (by repeat (first | exact Sel.nil | (refine Sel.cons (by repeat (exact Del.head)) ?_)))⟩
   ·
    try simp only [dZ, ne_eq, bne_iff_ne, beq_iff_eq] at hc7
    (exfalso; omega)
 ·
  try simp only [dZ, ne_eq, bne_iff_ne, beq_iff_eq] at hc1
  refine x_seq fun K21 hK21 => ?_
  refine x_seq fun K22 hK22 => ?_
  refine x_region ?_
  refine s_go (s_eql) ?_
  try simp only [opv, nZ, Value.cells]
  refine s_go (s_assign) ?_
  try simp only [opv, nZ, Value.cells]
  refine x_nil ?_
  refine hK22 _ _ ?_
  refine x_cond (ht := fun hc8 => ?_) (hf := fun hc8 => ?_)
  ·
   try simp only [dZ, ne_eq, bne_iff_ne, beq_iff_eq] at hc8
   refine x_skip ?_
   refine hK21 _ _ ?_
   refine x_cond (ht := fun hc9 => ?_) (hf := fun hc9 => ?_)
   ·
    try simp only [dZ, ne_eq, bne_iff_ne, beq_iff_eq] at hc9
    refine x_seq fun K23 hK23 => ?_
    refine x_region ?_
    have hk23 : kn (keyS e xs).1 0 = 2 ∨ kn (keyS e xs).1 0 = 3 := by omega
    have hkE := keyS_e0 (e := e) (xs := xs) (by omega)
    have hnl := numS_le 4294967295 (keyS e xs).2.1 (keyS e xs).2.2
    have hV2 := valP_2 (e := (keyS e xs).2.1) (xs := (keyS e xs).2.2) hk23
    have hl3 : ((keyS e xs).1 ++ mkV (numS 4294967295 (keyS e xs).2.1 (keyS e xs).2.2).1 nm0).length = 21 := by rw [List.length_append, hk12, mkV_len (show nm0.length = 8 from rfl)]
    refine s_go (s_move) ?_
    try simp only [opv, nZ, Value.cells]
    refine s_go (s_build_struct (cells := #[.int .i64 0, _, .int .u8 0, .int .u8 0, .int .u8 0, .int .u8 0, .int .u8 0, .int .u8 0, .int .u8 0, .int .u8 0, .int .u8 0, .slice none 0 0, .int .i64 0]) Tryz.underlying142 ti142 bp142 (hc := by simp only [List.map_toArray, List.map_cons, List.map_nil, opv, nZ, Value.cells, List.toList_toArray]; (repeat (refine fill_cons rfl rfl (Nat.le_of_ble_eq_true rfl) ?_)); rfl)) ?_
    try simp only [opv, nZ, Value.cells]
    refine s_call en90 ?_
    try simp only [opv, nZ, Value.cells, List.map_toArray, List.map_cons, List.map_nil, List.append_toArray, List.cons_append, List.nil_append, Array.append_empty]
    refine CallR.mono (c_ref07Read _ g (keyS e xs).2.1 Aa ca (keyS e xs).2.2 hcpa hkb (by omega) ⟨0, 4294967295, 0, nm0, none, 0, [], 0⟩ (by decide) (by decide) (hS.owns (by repeat (first | exact Spl.nil | (apply Spl.cons (by repeat (first | exact Del.head | apply Del.tail))))))) ?_
    rintro _ w15 ⟨Bb, kb, rfl, hQb, Ab, cb, hcpb, hRb, hCb⟩
    have hYb := RdIn.trans hM hS (by repeat (first | exact Spl.nil | (apply Spl.cons (by repeat (first | exact Del.head | apply Del.tail))))) hRb (by intro s hs q hb; simp only [List.mem_cons, List.not_mem_nil, or_false] at hs; rcases hs with rfl | rfl <;> first | (simp [Res.reads] at hb; done) | exact hRa q hb)
    replace hS := hS.frame (by repeat (first | exact Spl.nil | (apply Spl.cons (by repeat (first | exact Del.head | apply Del.tail))))) hCb (by intro r hr b hb; simp only [List.mem_cons, List.not_mem_nil, or_false] at hr; rcases hr with rfl | rfl | rfl <;> first | (simp [Res.reads] at hb; done) | exact hRb b hb | exact hQb b hb)
    replace hRb := hYb
    simp only [List.cons_append, List.nil_append] at hS
    simp only [rdS_u] at hS hcpb hRb ⊢
    try simp only [opv, nZ, Value.cells]
    refine s_go (s_field_one Tryz.underlying142 (hu := Tryz.underlying84) (hv := by rfl)) ?_
    try simp only [opv, nZ, Value.cells, List.getElem_toArray, List.getElem_cons_zero, List.getElem_cons_succ]
    refine s_go (m_fieldAddr Tryz.underlying88 (hi := ti86)) ?_
    try simp only [opv, nZ, Value.cells, Nat.zero_add, Nat.add_zero, List.getElem_toArray, List.getElem_cons_zero, List.getElem_cons_succ]
    refine s_go (m_fieldAddr Tryz.underlying86 (hi := ti84)) ?_
    try simp only [opv, nZ, Value.cells, Nat.zero_add, Nat.add_zero, List.getElem_toArray, List.getElem_cons_zero, List.getElem_cons_succ]
    refine m_store_obj ti84 (hS := hS) (hc := by exact zi_set rfl (by omega)) (hv := by rfl) (hfit := by (rw [zi_size (by omega)]; decide)) (h1 := by simp [opv, Value.cells, Value.oneCell']) (h := fun w16 hS => ?_)
    try simp only [opv, nZ, Value.cells, Array.toArray_toList] at hS ⊢
    rw [at_set12 hk12] at hS
    refine x_nil ?_
    refine hK23 _ _ ?_
    refine x_seq fun K24 hK24 => ?_
    refine x_region ?_
    refine s_go (s_move) ?_
    try simp only [opv, nZ, Value.cells]
    refine s_go (s_nilCheck) ?_
    try simp only [opv, nZ, Value.cells]
    refine s_go (m_fieldAddr Tryz.underlying140 (hi := ti53)) ?_
    try simp only [opv, nZ, Value.cells, Nat.zero_add, Nat.add_zero, List.getElem_toArray, List.getElem_cons_zero, List.getElem_cons_succ]
    refine s_go (m_load_obj Tryz.underlying53 (hS := hS) (hv := by rfl)) ?_
    try simp only [opv, nZ, Value.cells, List.getElem_toArray, List.getElem_cons_zero, List.getElem_cons_succ]
    refine s_go (s_eql) ?_
    try simp only [opv, nZ, Value.cells]
    refine s_part 51 rfl (fun hp3 => ?_) (fun hp3 => ?_)
    ·
     try simp only [n3, n4]
     try simp only [dZ, ne_eq] at hp3
     have hE1 : (numS 4294967295 (keyS e xs).2.1 (keyS e xs).2.2).2.1 = 0 := hp3
     refine s_go (s_move) ?_
     try simp only [opv, nZ, Value.cells]
     refine g_on (yi (t := 52) rfl rfl) ?_
     refine s_go (m_fieldAddr Tryz.underlying88 (hi := ti86)) ?_
     try simp only [opv, nZ, Value.cells, Nat.zero_add, Nat.add_zero, List.getElem_toArray, List.getElem_cons_zero, List.getElem_cons_succ]
     refine g_on (yi (t := 52) rfl rfl) ?_
     refine s_go (m_fieldAddr Tryz.underlying86 (hi := ti84)) ?_
     try simp only [opv, nZ, Value.cells, Nat.zero_add, Nat.add_zero, List.getElem_toArray, List.getElem_cons_zero, List.getElem_cons_succ]
     refine g_on (yi (t := 52) rfl rfl) ?_
     refine s_go (m_load_obj Tryz.underlying84 (hS := hS) (hv := by exact zi_get rfl (by omega))) ?_
     try simp only [opv, nZ, Value.cells, List.getElem_toArray, List.getElem_cons_zero, List.getElem_cons_succ]
     rw [at_get12 hk12]
     refine g_on (yi (t := 52) rfl rfl) ?_
     refine s_go (s_eql) ?_
     try simp only [opv, nZ, Value.cells]
     refine s_go (s_pick_t) ?_
     try simp only [opv, nZ, Value.cells]
     refine x_nil ?_
     refine hK24 _ _ ?_
     refine x_cond (ht := fun hc10 => ?_) (hf := fun hc10 => ?_)
     ·
      try simp only [dZ, ne_eq, bne_iff_ne, beq_iff_eq] at hc10
      have hz := in_fail (st := (numS 4294967295 (keyS e xs).2.1 (keyS e xs).2.2).2) hkE (by rw [hV2, decide_eq_true (show (numS 4294967295 (keyS e xs).2.1 (keyS e xs).2.2).1 = 0 by omega)]) hE1 (by decide)
      rw [hE1] at hS
      refine x_seq fun K25 hK25 => ?_
      refine x_region ?_
      refine s_go (s_move) ?_
      try simp only [opv, nZ, Value.cells]
      refine s_call en159 ?_
      try simp only [opv, nZ, Value.cells, List.map_toArray, List.map_cons, List.map_nil, List.append_toArray, List.cons_append, List.nil_append, Array.append_empty]
      refine CallR.mono (c_ref09fail _ g Ab cb (numS 4294967295 (keyS e xs).2.1 (keyS e xs).2.2).2.2 hcpb 3 (hS.owns (by repeat (first | exact Spl.nil | (apply Spl.cons (by repeat (exact Del.head))))))) ?_
      rintro _ w17 ⟨rfl, Af, cf, hcpf, hRf, hCf⟩
      have hYf := RdIn.trans hM hS (by repeat (first | exact Spl.nil | (apply Spl.cons (by repeat (exact Del.head))))) hRf (by intro s hs q hb; simp only [List.mem_cons, List.not_mem_nil, or_false] at hs; rcases hs with rfl | rfl <;> first | (simp [Res.reads] at hb; done) | exact hRb q hb)
      replace hS := hS.frame (by repeat (first | exact Spl.nil | (apply Spl.cons (by repeat (exact Del.head))))) hCf (by intro r hr b hb; simp only [List.mem_cons, List.not_mem_nil, or_false] at hr; rcases hr with rfl | rfl <;> (simp [Res.reads] at hb; done))
      replace hRf := hYf
      simp only [List.cons_append, List.nil_append] at hS
      try simp only [opv, nZ, Value.cells]
      refine m_store_obj ti88 (hS := hS) (hc := by exact zi_whole (by omega) (by omega)) (hv := by rfl) (hfit := by (rw [zi_size (by omega)]; decide)) (h1 := by exact zi_one _ _) (h := fun w18 hS => ?_)
      try simp only [opv, nZ, Value.cells, Array.toArray_toList] at hS ⊢
      refine x_nil ?_
      refine hK25 _ _ ?_
      refine x_ret ?_
      refine r_cell_agg rfl Tryz.underlying88 ti88 (hS := hS) (hfit := by (rw [zi_size (by omega)]; rfl)) (hR := ?_)
      exact ⟨by rw [hz], _, _, by rw [hz]; assumption, by rw [hz]; assumption, by rw [hz]; exact hS.sel (by repeat (first | exact Sel.nil | (refine Sel.cons (by repeat (exact Del.head)) ?_)))⟩
     ·
      try simp only [dZ, ne_eq, bne_iff_ne, beq_iff_eq] at hc10
      have hW : valP (kn (keyS e xs).1 0) (keyS e xs).2.1 (keyS e xs).2.2 = (mkV (numS 4294967295 (keyS e xs).2.1 (keyS e xs).2.2).1 nm0, (numS 4294967295 (keyS e xs).2.1 (keyS e xs).2.2).2) := by rw [hV2]; congr 1; (rw [decide_eq_false (show ¬ (numS 4294967295 (keyS e xs).2.1 (keyS e xs).2.2).1 = 0 by omega), failS_no])
      refine x_skip ?_
      refine hK3 _ _ ?_
      refine x_seq fun K26 hK26 => ?_
      refine x_seq fun K27 hK27 => ?_
      refine x_region ?_
      refine s_go (s_move) ?_
      try simp only [opv, nZ, Value.cells]
      refine s_go (s_nilCheck) ?_
      try simp only [opv, nZ, Value.cells]
      refine s_go (m_fieldAddr Tryz.underlying140 (hi := ti53)) ?_
      try simp only [opv, nZ, Value.cells, Nat.zero_add, Nat.add_zero, List.getElem_toArray, List.getElem_cons_zero, List.getElem_cons_succ]
      refine s_go (m_load_obj Tryz.underlying53 (hS := hS) (hv := by rfl)) ?_
      try simp only [opv, nZ, Value.cells, List.getElem_toArray, List.getElem_cons_zero, List.getElem_cons_succ]
      refine s_go (s_neq) ?_
      try simp only [opv, nZ, Value.cells]
      refine x_nil ?_
      refine hK27 _ _ ?_
      refine x_cond (ht := fun hc11 => ?_) (hf := fun hc11 => ?_)
      ·
       try simp only [dZ, ne_eq, bne_iff_ne, beq_iff_eq] at hc11
       (exfalso; omega)
      ·
       try simp only [dZ, ne_eq, bne_iff_ne, beq_iff_eq] at hc11
       have hz := in_ok hkE hW hc11
       refine x_skip ?_
       refine hK26 _ _ ?_
       refine x_seq fun K29 hK29 => ?_
       refine x_region ?_
       refine s_go (m_load_row Tryz.underlying88 (hi := ti88) (hS := hS) (hfit := by (rw [zi_size (by omega)]; rfl))) ?_
       try simp only [opv, nZ, Value.cells, List.getElem_toArray, List.getElem_cons_zero, List.getElem_cons_succ]
       refine m_store_obj ti88 (hS := hS) (hc := by exact zi_whole (by omega) (by omega)) (hv := by (show (zi _ _).toArray.size = _; rw [zi_size (by omega)]; rfl)) (hfit := by (rw [zi_size (by omega)]; decide)) (h1 := by exact zi_one _ _) (h := fun w20 hS => ?_)
       try simp only [opv, nZ, Value.cells, Array.toArray_toList] at hS ⊢
       refine x_nil ?_
       refine hK29 _ _ ?_
       refine x_ret ?_
       refine r_cell_agg rfl Tryz.underlying88 ti88 (hS := hS) (hfit := by (rw [zi_size (by omega)]; rfl)) (hR := ?_)
       exact ⟨by rw [hz], _, _, by rw [hz]; assumption, by rw [hz]; assumption, by rw [hz]; exact hS.sel (by repeat (first | exact Sel.nil | (refine Sel.cons (by repeat (exact Del.head)) ?_)))⟩
    ·
     try simp only [n3, n4]
     try simp only [dZ, ne_eq] at hp3
     have hE1 : ¬ (numS 4294967295 (keyS e xs).2.1 (keyS e xs).2.2).2.1 = 0 := hp3
     refine s_go (s_move) ?_
     try simp only [opv, nZ, Value.cells]
     refine g_off (yi (t := 52) rfl rfl) ?_
     try simp only [opv, nZ, Value.cells]
     refine g_off (yi (t := 52) rfl rfl) ?_
     try simp only [opv, nZ, Value.cells]
     refine g_off (yi (t := 52) rfl rfl) ?_
     try simp only [opv, nZ, Value.cells]
     refine g_off (yi (t := 52) rfl rfl) ?_
     try simp only [opv, nZ, Value.cells]
     refine s_go (s_pick_f) ?_
     try simp only [opv, nZ, Value.cells]
     refine x_nil ?_
     refine hK24 _ _ ?_
     refine x_cond_f (h := ?_)
     have hW : valP (kn (keyS e xs).1 0) (keyS e xs).2.1 (keyS e xs).2.2 = (mkV (numS 4294967295 (keyS e xs).2.1 (keyS e xs).2.2).1 nm0, (numS 4294967295 (keyS e xs).2.1 (keyS e xs).2.2).2) := by rw [hV2]; congr 1; exact failS_err hE1 (numS_ok (fun h => absurd hkE h) hE1)
     refine x_skip ?_
     refine hK3 _ _ ?_
     refine x_seq fun K30 hK30 => ?_
     refine x_seq fun K31 hK31 => ?_
     refine x_region ?_
     refine s_go (s_move) ?_
     try simp only [opv, nZ, Value.cells]
     refine s_go (s_nilCheck) ?_
     try simp only [opv, nZ, Value.cells]
     refine s_go (m_fieldAddr Tryz.underlying140 (hi := ti53)) ?_
     try simp only [opv, nZ, Value.cells, Nat.zero_add, Nat.add_zero, List.getElem_toArray, List.getElem_cons_zero, List.getElem_cons_succ]
     refine s_go (m_load_obj Tryz.underlying53 (hS := hS) (hv := by rfl)) ?_
     try simp only [opv, nZ, Value.cells, List.getElem_toArray, List.getElem_cons_zero, List.getElem_cons_succ]
     refine s_go (s_neq) ?_
     try simp only [opv, nZ, Value.cells]
     refine x_nil ?_
     refine hK31 _ _ ?_
     refine x_cond (ht := fun hc13 => ?_) (hf := fun hc13 => ?_)
     ·
      try simp only [dZ, ne_eq, bne_iff_ne, beq_iff_eq] at hc13
      have hz := in_err hkE (by rw [hW]) hc13
      refine x_seq fun K32 hK32 => ?_
      refine x_region ?_
      refine s_go (s_build_struct (cells := #[.int .u8 0, .int .u16 0, .int .u8 0, .int .u8 0, .int .u8 0, .int .u8 0, .int .u8 0, .int .u8 0, .int .u8 0, .int .u8 0, .int .u8 0, .int .u32 0, .int .u64 0, .int .u8 0, .int .u8 0, .int .u8 0, .int .u8 0, .int .u8 0, .int .u8 0, .int .u8 0, .int .u8 0]) Tryz.underlying88 ti88 bp88 (hc := by simp only [List.map_toArray, List.map_cons, List.map_nil, opv, nZ, Value.cells, List.toList_toArray]; (repeat (refine fill_cons rfl rfl (Nat.le_of_ble_eq_true rfl) ?_)); rfl)) ?_
      try simp only [opv, nZ, Value.cells]
      rw [show (#[.int .u8 0, .int .u16 0, .int .u8 0, .int .u8 0, .int .u8 0, .int .u8 0, .int .u8 0, .int .u8 0, .int .u8 0, .int .u8 0, .int .u8 0, .int .u32 0, .int .u64 0, .int .u8 0, .int .u8 0, .int .u8 0, .int .u8 0, .int .u8 0, .int .u8 0, .int .u8 0, .int .u8 0] : Array Value) = AA atom0 from rfl]
      refine m_store_obj ti88 (hS := hS) (hc := by exact zi_whole (by omega) (by omega)) (hv := by rfl) (hfit := by (rw [zi_size (by omega)]; decide)) (h1 := by exact zi_one _ _) (h := fun w21 hS => ?_)
      try simp only [opv, nZ, Value.cells, Array.toArray_toList] at hS ⊢
      refine x_nil ?_
      refine hK32 _ _ ?_
      refine x_ret ?_
      refine r_cell_agg rfl Tryz.underlying88 ti88 (hS := hS) (hfit := by (rw [zi_size (by omega)]; rfl)) (hR := ?_)
      exact ⟨by rw [hz], _, _, by rw [hz]; assumption, by rw [hz]; assumption, by rw [hz]; exact hS.sel (by repeat (first | exact Sel.nil | (refine Sel.cons (by repeat (exact Del.head)) ?_)))⟩
     ·
      try simp only [dZ, ne_eq, bne_iff_ne, beq_iff_eq] at hc13
      (exfalso; omega)
   ·
    try simp only [dZ, ne_eq, bne_iff_ne, beq_iff_eq] at hc9
    (exfalso; omega)
  ·
   try simp only [dZ, ne_eq, bne_iff_ne, beq_iff_eq] at hc8
   refine x_region ?_
   refine s_go (s_eql) ?_
   try simp only [opv, nZ, Value.cells]
   refine s_go (s_assign) ?_
   try simp only [opv, nZ, Value.cells]
   refine x_nil ?_
   refine hK21 _ _ ?_
   refine x_cond (ht := fun hc26 => ?_) (hf := fun hc26 => ?_)
   ·
    try simp only [dZ, ne_eq, bne_iff_ne, beq_iff_eq] at hc26
    refine x_seq fun K65 hK65 => ?_
    refine x_region ?_
    have hk23 : kn (keyS e xs).1 0 = 2 ∨ kn (keyS e xs).1 0 = 3 := by omega
    have hkE := keyS_e0 (e := e) (xs := xs) (by omega)
    have hnl := numS_le 4294967295 (keyS e xs).2.1 (keyS e xs).2.2
    have hV2 := valP_2 (e := (keyS e xs).2.1) (xs := (keyS e xs).2.2) hk23
    have hl3 : ((keyS e xs).1 ++ mkV (numS 4294967295 (keyS e xs).2.1 (keyS e xs).2.2).1 nm0).length = 21 := by rw [List.length_append, hk12, mkV_len (show nm0.length = 8 from rfl)]
    refine s_go (s_move) ?_
    try simp only [opv, nZ, Value.cells]
    refine s_go (s_build_struct (cells := #[.int .i64 0, _, .int .u8 0, .int .u8 0, .int .u8 0, .int .u8 0, .int .u8 0, .int .u8 0, .int .u8 0, .int .u8 0, .int .u8 0, .slice none 0 0, .int .i64 0]) Tryz.underlying142 ti142 bp142 (hc := by simp only [List.map_toArray, List.map_cons, List.map_nil, opv, nZ, Value.cells, List.toList_toArray]; (repeat (refine fill_cons rfl rfl (Nat.le_of_ble_eq_true rfl) ?_)); rfl)) ?_
    try simp only [opv, nZ, Value.cells]
    refine s_call en90 ?_
    try simp only [opv, nZ, Value.cells, List.map_toArray, List.map_cons, List.map_nil, List.append_toArray, List.cons_append, List.nil_append, Array.append_empty]
    refine CallR.mono (c_ref07Read _ g (keyS e xs).2.1 Aa ca (keyS e xs).2.2 hcpa hkb (by omega) ⟨0, 4294967295, 0, nm0, none, 0, [], 0⟩ (by decide) (by decide) (hS.owns (by repeat (first | exact Spl.nil | (apply Spl.cons (by repeat (first | exact Del.head | apply Del.tail))))))) ?_
    rintro _ w49 ⟨Bb, kb, rfl, hQb, Ab, cb, hcpb, hRb, hCb⟩
    have hYb := RdIn.trans hM hS (by repeat (first | exact Spl.nil | (apply Spl.cons (by repeat (first | exact Del.head | apply Del.tail))))) hRb (by intro s hs q hb; simp only [List.mem_cons, List.not_mem_nil, or_false] at hs; rcases hs with rfl | rfl <;> first | (simp [Res.reads] at hb; done) | exact hRa q hb)
    replace hS := hS.frame (by repeat (first | exact Spl.nil | (apply Spl.cons (by repeat (first | exact Del.head | apply Del.tail))))) hCb (by intro r hr b hb; simp only [List.mem_cons, List.not_mem_nil, or_false] at hr; rcases hr with rfl | rfl | rfl <;> first | (simp [Res.reads] at hb; done) | exact hRb b hb | exact hQb b hb)
    replace hRb := hYb
    simp only [List.cons_append, List.nil_append] at hS
    simp only [rdS_u] at hS hcpb hRb ⊢
    try simp only [opv, nZ, Value.cells]
    refine s_go (s_field_one Tryz.underlying142 (hu := Tryz.underlying84) (hv := by rfl)) ?_
    try simp only [opv, nZ, Value.cells, List.getElem_toArray, List.getElem_cons_zero, List.getElem_cons_succ]
    refine s_go (m_fieldAddr Tryz.underlying88 (hi := ti86)) ?_
    try simp only [opv, nZ, Value.cells, Nat.zero_add, Nat.add_zero, List.getElem_toArray, List.getElem_cons_zero, List.getElem_cons_succ]
    refine s_go (m_fieldAddr Tryz.underlying86 (hi := ti84)) ?_
    try simp only [opv, nZ, Value.cells, Nat.zero_add, Nat.add_zero, List.getElem_toArray, List.getElem_cons_zero, List.getElem_cons_succ]
    refine m_store_obj ti84 (hS := hS) (hc := by exact zi_set rfl (by omega)) (hv := by rfl) (hfit := by (rw [zi_size (by omega)]; decide)) (h1 := by simp [opv, Value.cells, Value.oneCell']) (h := fun w50 hS => ?_)
    try simp only [opv, nZ, Value.cells, Array.toArray_toList] at hS ⊢
    rw [at_set12 hk12] at hS
    refine x_nil ?_
    refine hK65 _ _ ?_
    refine x_seq fun K66 hK66 => ?_
    refine x_region ?_
    refine s_go (s_move) ?_
    try simp only [opv, nZ, Value.cells]
    refine s_go (s_nilCheck) ?_
    try simp only [opv, nZ, Value.cells]
    refine s_go (m_fieldAddr Tryz.underlying140 (hi := ti53)) ?_
    try simp only [opv, nZ, Value.cells, Nat.zero_add, Nat.add_zero, List.getElem_toArray, List.getElem_cons_zero, List.getElem_cons_succ]
    refine s_go (m_load_obj Tryz.underlying53 (hS := hS) (hv := by rfl)) ?_
    try simp only [opv, nZ, Value.cells, List.getElem_toArray, List.getElem_cons_zero, List.getElem_cons_succ]
    refine s_go (s_eql) ?_
    try simp only [opv, nZ, Value.cells]
    refine s_part 51 rfl (fun hp7 => ?_) (fun hp7 => ?_)
    ·
     try simp only [n3, n4]
     try simp only [dZ, ne_eq] at hp7
     have hE1 : (numS 4294967295 (keyS e xs).2.1 (keyS e xs).2.2).2.1 = 0 := hp7
     refine s_go (s_move) ?_
     try simp only [opv, nZ, Value.cells]
     refine g_on (yi (t := 52) rfl rfl) ?_
     refine s_go (m_fieldAddr Tryz.underlying88 (hi := ti86)) ?_
     try simp only [opv, nZ, Value.cells, Nat.zero_add, Nat.add_zero, List.getElem_toArray, List.getElem_cons_zero, List.getElem_cons_succ]
     refine g_on (yi (t := 52) rfl rfl) ?_
     refine s_go (m_fieldAddr Tryz.underlying86 (hi := ti84)) ?_
     try simp only [opv, nZ, Value.cells, Nat.zero_add, Nat.add_zero, List.getElem_toArray, List.getElem_cons_zero, List.getElem_cons_succ]
     refine g_on (yi (t := 52) rfl rfl) ?_
     refine s_go (m_load_obj Tryz.underlying84 (hS := hS) (hv := by exact zi_get rfl (by omega))) ?_
     try simp only [opv, nZ, Value.cells, List.getElem_toArray, List.getElem_cons_zero, List.getElem_cons_succ]
     rw [at_get12 hk12]
     refine g_on (yi (t := 52) rfl rfl) ?_
     refine s_go (s_eql) ?_
     try simp only [opv, nZ, Value.cells]
     refine s_go (s_pick_t) ?_
     try simp only [opv, nZ, Value.cells]
     refine x_nil ?_
     refine hK66 _ _ ?_
     refine x_cond (ht := fun hc27 => ?_) (hf := fun hc27 => ?_)
     ·
      try simp only [dZ, ne_eq, bne_iff_ne, beq_iff_eq] at hc27
      have hz := in_fail (st := (numS 4294967295 (keyS e xs).2.1 (keyS e xs).2.2).2) hkE (by rw [hV2, decide_eq_true (show (numS 4294967295 (keyS e xs).2.1 (keyS e xs).2.2).1 = 0 by omega)]) hE1 (by decide)
      rw [hE1] at hS
      refine x_seq fun K67 hK67 => ?_
      refine x_region ?_
      refine s_go (s_move) ?_
      try simp only [opv, nZ, Value.cells]
      refine s_call en159 ?_
      try simp only [opv, nZ, Value.cells, List.map_toArray, List.map_cons, List.map_nil, List.append_toArray, List.cons_append, List.nil_append, Array.append_empty]
      refine CallR.mono (c_ref09fail _ g Ab cb (numS 4294967295 (keyS e xs).2.1 (keyS e xs).2.2).2.2 hcpb 3 (hS.owns (by repeat (first | exact Spl.nil | (apply Spl.cons (by repeat (exact Del.head))))))) ?_
      rintro _ w51 ⟨rfl, Af, cf, hcpf, hRf, hCf⟩
      have hYf := RdIn.trans hM hS (by repeat (first | exact Spl.nil | (apply Spl.cons (by repeat (exact Del.head))))) hRf (by intro s hs q hb; simp only [List.mem_cons, List.not_mem_nil, or_false] at hs; rcases hs with rfl | rfl <;> first | (simp [Res.reads] at hb; done) | exact hRb q hb)
      replace hS := hS.frame (by repeat (first | exact Spl.nil | (apply Spl.cons (by repeat (exact Del.head))))) hCf (by intro r hr b hb; simp only [List.mem_cons, List.not_mem_nil, or_false] at hr; rcases hr with rfl | rfl <;> (simp [Res.reads] at hb; done))
      replace hRf := hYf
      simp only [List.cons_append, List.nil_append] at hS
      try simp only [opv, nZ, Value.cells]
      refine m_store_obj ti88 (hS := hS) (hc := by exact zi_whole (by omega) (by omega)) (hv := by rfl) (hfit := by (rw [zi_size (by omega)]; decide)) (h1 := by exact zi_one _ _) (h := fun w52 hS => ?_)
      try simp only [opv, nZ, Value.cells, Array.toArray_toList] at hS ⊢
      refine x_nil ?_
      refine hK67 _ _ ?_
      refine x_ret ?_
      refine r_cell_agg rfl Tryz.underlying88 ti88 (hS := hS) (hfit := by (rw [zi_size (by omega)]; rfl)) (hR := ?_)
      exact ⟨by rw [hz], _, _, by rw [hz]; assumption, by rw [hz]; assumption, by rw [hz]; exact hS.sel (by repeat (first | exact Sel.nil | (refine Sel.cons (by repeat (exact Del.head)) ?_)))⟩
     ·
      try simp only [dZ, ne_eq, bne_iff_ne, beq_iff_eq] at hc27
      have hW : valP (kn (keyS e xs).1 0) (keyS e xs).2.1 (keyS e xs).2.2 = (mkV (numS 4294967295 (keyS e xs).2.1 (keyS e xs).2.2).1 nm0, (numS 4294967295 (keyS e xs).2.1 (keyS e xs).2.2).2) := by rw [hV2]; congr 1; (rw [decide_eq_false (show ¬ (numS 4294967295 (keyS e xs).2.1 (keyS e xs).2.2).1 = 0 by omega), failS_no])
      refine x_skip ?_
      refine hK3 _ _ ?_
      refine x_seq fun K68 hK68 => ?_
      refine x_seq fun K69 hK69 => ?_
      refine x_region ?_
      refine s_go (s_move) ?_
      try simp only [opv, nZ, Value.cells]
      refine s_go (s_nilCheck) ?_
      try simp only [opv, nZ, Value.cells]
      refine s_go (m_fieldAddr Tryz.underlying140 (hi := ti53)) ?_
      try simp only [opv, nZ, Value.cells, Nat.zero_add, Nat.add_zero, List.getElem_toArray, List.getElem_cons_zero, List.getElem_cons_succ]
      refine s_go (m_load_obj Tryz.underlying53 (hS := hS) (hv := by rfl)) ?_
      try simp only [opv, nZ, Value.cells, List.getElem_toArray, List.getElem_cons_zero, List.getElem_cons_succ]
      refine s_go (s_neq) ?_
      try simp only [opv, nZ, Value.cells]
      refine x_nil ?_
      refine hK69 _ _ ?_
      refine x_cond (ht := fun hc28 => ?_) (hf := fun hc28 => ?_)
      ·
       try simp only [dZ, ne_eq, bne_iff_ne, beq_iff_eq] at hc28
       (exfalso; omega)
      ·
       try simp only [dZ, ne_eq, bne_iff_ne, beq_iff_eq] at hc28
       have hz := in_ok hkE hW hc28
       refine x_skip ?_
       refine hK68 _ _ ?_
       refine x_seq fun K71 hK71 => ?_
       refine x_region ?_
       refine s_go (m_load_row Tryz.underlying88 (hi := ti88) (hS := hS) (hfit := by (rw [zi_size (by omega)]; rfl))) ?_
       try simp only [opv, nZ, Value.cells, List.getElem_toArray, List.getElem_cons_zero, List.getElem_cons_succ]
       refine m_store_obj ti88 (hS := hS) (hc := by exact zi_whole (by omega) (by omega)) (hv := by (show (zi _ _).toArray.size = _; rw [zi_size (by omega)]; rfl)) (hfit := by (rw [zi_size (by omega)]; decide)) (h1 := by exact zi_one _ _) (h := fun w54 hS => ?_)
       try simp only [opv, nZ, Value.cells, Array.toArray_toList] at hS ⊢
       refine x_nil ?_
       refine hK71 _ _ ?_
       refine x_ret ?_
       refine r_cell_agg rfl Tryz.underlying88 ti88 (hS := hS) (hfit := by (rw [zi_size (by omega)]; rfl)) (hR := ?_)
       exact ⟨by rw [hz], _, _, by rw [hz]; assumption, by rw [hz]; assumption, by rw [hz]; exact hS.sel (by repeat (first | exact Sel.nil | (refine Sel.cons (by repeat (exact Del.head)) ?_)))⟩
    ·
     try simp only [n3, n4]
     try simp only [dZ, ne_eq] at hp7
     have hE1 : ¬ (numS 4294967295 (keyS e xs).2.1 (keyS e xs).2.2).2.1 = 0 := hp7
     refine s_go (s_move) ?_
     try simp only [opv, nZ, Value.cells]
     refine g_off (yi (t := 52) rfl rfl) ?_
     try simp only [opv, nZ, Value.cells]
     refine g_off (yi (t := 52) rfl rfl) ?_
     try simp only [opv, nZ, Value.cells]
     refine g_off (yi (t := 52) rfl rfl) ?_
     try simp only [opv, nZ, Value.cells]
     refine g_off (yi (t := 52) rfl rfl) ?_
     try simp only [opv, nZ, Value.cells]
     refine s_go (s_pick_f) ?_
     try simp only [opv, nZ, Value.cells]
     refine x_nil ?_
     refine hK66 _ _ ?_
     refine x_cond_f (h := ?_)
     have hW : valP (kn (keyS e xs).1 0) (keyS e xs).2.1 (keyS e xs).2.2 = (mkV (numS 4294967295 (keyS e xs).2.1 (keyS e xs).2.2).1 nm0, (numS 4294967295 (keyS e xs).2.1 (keyS e xs).2.2).2) := by rw [hV2]; congr 1; exact failS_err hE1 (numS_ok (fun h => absurd hkE h) hE1)
     refine x_skip ?_
     refine hK3 _ _ ?_
     refine x_seq fun K72 hK72 => ?_
     refine x_seq fun K73 hK73 => ?_
     refine x_region ?_
     refine s_go (s_move) ?_
     try simp only [opv, nZ, Value.cells]
     refine s_go (s_nilCheck) ?_
     try simp only [opv, nZ, Value.cells]
     refine s_go (m_fieldAddr Tryz.underlying140 (hi := ti53)) ?_
     try simp only [opv, nZ, Value.cells, Nat.zero_add, Nat.add_zero, List.getElem_toArray, List.getElem_cons_zero, List.getElem_cons_succ]
     refine s_go (m_load_obj Tryz.underlying53 (hS := hS) (hv := by rfl)) ?_
     try simp only [opv, nZ, Value.cells, List.getElem_toArray, List.getElem_cons_zero, List.getElem_cons_succ]
     refine s_go (s_neq) ?_
     try simp only [opv, nZ, Value.cells]
     refine x_nil ?_
     refine hK73 _ _ ?_
     refine x_cond (ht := fun hc30 => ?_) (hf := fun hc30 => ?_)
     ·
      try simp only [dZ, ne_eq, bne_iff_ne, beq_iff_eq] at hc30
      have hz := in_err hkE (by rw [hW]) hc30
      refine x_seq fun K74 hK74 => ?_
      refine x_region ?_
      refine s_go (s_build_struct (cells := #[.int .u8 0, .int .u16 0, .int .u8 0, .int .u8 0, .int .u8 0, .int .u8 0, .int .u8 0, .int .u8 0, .int .u8 0, .int .u8 0, .int .u8 0, .int .u32 0, .int .u64 0, .int .u8 0, .int .u8 0, .int .u8 0, .int .u8 0, .int .u8 0, .int .u8 0, .int .u8 0, .int .u8 0]) Tryz.underlying88 ti88 bp88 (hc := by simp only [List.map_toArray, List.map_cons, List.map_nil, opv, nZ, Value.cells, List.toList_toArray]; (repeat (refine fill_cons rfl rfl (Nat.le_of_ble_eq_true rfl) ?_)); rfl)) ?_
      try simp only [opv, nZ, Value.cells]
      rw [show (#[.int .u8 0, .int .u16 0, .int .u8 0, .int .u8 0, .int .u8 0, .int .u8 0, .int .u8 0, .int .u8 0, .int .u8 0, .int .u8 0, .int .u8 0, .int .u32 0, .int .u64 0, .int .u8 0, .int .u8 0, .int .u8 0, .int .u8 0, .int .u8 0, .int .u8 0, .int .u8 0, .int .u8 0] : Array Value) = AA atom0 from rfl]
      refine m_store_obj ti88 (hS := hS) (hc := by exact zi_whole (by omega) (by omega)) (hv := by rfl) (hfit := by (rw [zi_size (by omega)]; decide)) (h1 := by exact zi_one _ _) (h := fun w55 hS => ?_)
      try simp only [opv, nZ, Value.cells, Array.toArray_toList] at hS ⊢
      refine x_nil ?_
      refine hK74 _ _ ?_
      refine x_ret ?_
      refine r_cell_agg rfl Tryz.underlying88 ti88 (hS := hS) (hfit := by (rw [zi_size (by omega)]; rfl)) (hR := ?_)
      exact ⟨by rw [hz], _, _, by rw [hz]; assumption, by rw [hz]; assumption, by rw [hz]; exact hS.sel (by repeat (first | exact Sel.nil | (refine Sel.cons (by repeat (exact Del.head)) ?_)))⟩
     ·
      try simp only [dZ, ne_eq, bne_iff_ne, beq_iff_eq] at hc30
      (exfalso; omega)
   ·
    try simp only [dZ, ne_eq, bne_iff_ne, beq_iff_eq] at hc26
    refine x_seq fun K76 hK76 => ?_
    refine x_region ?_
    refine s_go (s_eql) ?_
    try simp only [opv, nZ, Value.cells]
    refine s_go (s_assign) ?_
    try simp only [opv, nZ, Value.cells]
    refine x_nil ?_
    refine hK76 _ _ ?_
    refine x_cond (ht := fun hc31 => ?_) (hf := fun hc31 => ?_)
    ·
     try simp only [dZ, ne_eq, bne_iff_ne, beq_iff_eq] at hc31
     refine x_seq fun K77 hK77 => ?_
     refine x_region ?_
     have hk4 : kn (keyS e xs).1 0 = 4 := by omega
     have hkE := keyS_e0 (e := e) (xs := xs) (by omega)
     have hnl := numS_le 1099511627775 (keyS e xs).2.1 (keyS e xs).2.2
     have hV4 := valP_4 (e := (keyS e xs).2.1) (xs := (keyS e xs).2.2) hk4
     have hl3 : ((keyS e xs).1 ++ mkV (numS 1099511627775 (keyS e xs).2.1 (keyS e xs).2.2).1 nm0).length = 21 := by rw [List.length_append, hk12, mkV_len (show nm0.length = 8 from rfl)]
     refine s_go (s_move) ?_
     try simp only [opv, nZ, Value.cells]
     refine s_go (s_build_struct (cells := #[.int .i64 0, _, .int .u8 0, .int .u8 0, .int .u8 0, .int .u8 0, .int .u8 0, .int .u8 0, .int .u8 0, .int .u8 0, .int .u8 0, .slice none 0 0, .int .i64 0]) Tryz.underlying142 ti142 bp142 (hc := by simp only [List.map_toArray, List.map_cons, List.map_nil, opv, nZ, Value.cells, List.toList_toArray]; (repeat (refine fill_cons rfl rfl (Nat.le_of_ble_eq_true rfl) ?_)); rfl)) ?_
     try simp only [opv, nZ, Value.cells]
     refine s_call en90 ?_
     try simp only [opv, nZ, Value.cells, List.map_toArray, List.map_cons, List.map_nil, List.append_toArray, List.cons_append, List.nil_append, Array.append_empty]
     refine CallR.mono (c_ref07Read _ g (keyS e xs).2.1 Aa ca (keyS e xs).2.2 hcpa hkb (by omega) ⟨0, 1099511627775, 0, nm0, none, 0, [], 0⟩ (by decide) (by decide) (hS.owns (by repeat (first | exact Spl.nil | (apply Spl.cons (by repeat (first | exact Del.head | apply Del.tail))))))) ?_
     rintro _ w57 ⟨Bb, kb, rfl, hQb, Ab, cb, hcpb, hRb, hCb⟩
     have hYb := RdIn.trans hM hS (by repeat (first | exact Spl.nil | (apply Spl.cons (by repeat (first | exact Del.head | apply Del.tail))))) hRb (by intro s hs q hb; simp only [List.mem_cons, List.not_mem_nil, or_false] at hs; rcases hs with rfl | rfl <;> first | (simp [Res.reads] at hb; done) | exact hRa q hb)
     replace hS := hS.frame (by repeat (first | exact Spl.nil | (apply Spl.cons (by repeat (first | exact Del.head | apply Del.tail))))) hCb (by intro r hr b hb; simp only [List.mem_cons, List.not_mem_nil, or_false] at hr; rcases hr with rfl | rfl | rfl <;> first | (simp [Res.reads] at hb; done) | exact hRb b hb | exact hQb b hb)
     replace hRb := hYb
     simp only [List.cons_append, List.nil_append] at hS
     simp only [rdS_u] at hS hcpb hRb ⊢
     try simp only [opv, nZ, Value.cells]
     refine s_go (s_field_one Tryz.underlying142 (hu := Tryz.underlying84) (hv := by rfl)) ?_
     try simp only [opv, nZ, Value.cells, List.getElem_toArray, List.getElem_cons_zero, List.getElem_cons_succ]
     refine s_go (m_fieldAddr Tryz.underlying88 (hi := ti86)) ?_
     try simp only [opv, nZ, Value.cells, Nat.zero_add, Nat.add_zero, List.getElem_toArray, List.getElem_cons_zero, List.getElem_cons_succ]
     refine s_go (m_fieldAddr Tryz.underlying86 (hi := ti84)) ?_
     try simp only [opv, nZ, Value.cells, Nat.zero_add, Nat.add_zero, List.getElem_toArray, List.getElem_cons_zero, List.getElem_cons_succ]
     refine m_store_obj ti84 (hS := hS) (hc := by exact zi_set rfl (by omega)) (hv := by rfl) (hfit := by (rw [zi_size (by omega)]; decide)) (h1 := by simp [opv, Value.cells, Value.oneCell']) (h := fun w58 hS => ?_)
     try simp only [opv, nZ, Value.cells, Array.toArray_toList] at hS ⊢
     rw [at_set12 hk12] at hS
     refine x_nil ?_
     refine hK77 _ _ ?_
     refine x_seq fun K78 hK78 => ?_
     refine x_seq fun K79 hK79 => ?_
     refine x_region ?_
     refine s_go (s_move) ?_
     try simp only [opv, nZ, Value.cells]
     refine s_go (s_nilCheck) ?_
     try simp only [opv, nZ, Value.cells]
     refine s_go (m_fieldAddr Tryz.underlying140 (hi := ti53)) ?_
     try simp only [opv, nZ, Value.cells, Nat.zero_add, Nat.add_zero, List.getElem_toArray, List.getElem_cons_zero, List.getElem_cons_succ]
     refine s_go (m_load_obj Tryz.underlying53 (hS := hS) (hv := by rfl)) ?_
     try simp only [opv, nZ, Value.cells, List.getElem_toArray, List.getElem_cons_zero, List.getElem_cons_succ]
     refine s_go (s_eql) ?_
     try simp only [opv, nZ, Value.cells]
     refine s_part 72 rfl (fun hp8 => ?_) (fun hp8 => ?_)
     ·
      try simp only [n3, n4]
      try simp only [dZ, ne_eq] at hp8
      have hE1 : (numS 1099511627775 (keyS e xs).2.1 (keyS e xs).2.2).2.1 = 0 := hp8
      refine s_go (s_move) ?_
      try simp only [opv, nZ, Value.cells]
      refine g_on (yi (t := 73) rfl rfl) ?_
      refine s_go (m_fieldAddr Tryz.underlying88 (hi := ti86)) ?_
      try simp only [opv, nZ, Value.cells, Nat.zero_add, Nat.add_zero, List.getElem_toArray, List.getElem_cons_zero, List.getElem_cons_succ]
      refine g_on (yi (t := 73) rfl rfl) ?_
      refine s_go (m_fieldAddr Tryz.underlying86 (hi := ti84)) ?_
      try simp only [opv, nZ, Value.cells, Nat.zero_add, Nat.add_zero, List.getElem_toArray, List.getElem_cons_zero, List.getElem_cons_succ]
      refine g_on (yi (t := 73) rfl rfl) ?_
      refine s_go (m_load_obj Tryz.underlying84 (hS := hS) (hv := by exact zi_get rfl (by omega))) ?_
      try simp only [opv, nZ, Value.cells, List.getElem_toArray, List.getElem_cons_zero, List.getElem_cons_succ]
      rw [at_get12 hk12]
      refine g_on (yi (t := 73) rfl rfl) ?_
      refine s_go (s_rem (hc := rem_nat (p := 256))) ?_
      try simp only [opv, nZ, Value.cells]
      refine g_on (yi (t := 73) rfl rfl) ?_
      refine s_go (s_geq) ?_
      try simp only [opv, nZ, Value.cells]
      refine s_go (s_pick_t) ?_
      try simp only [opv, nZ, Value.cells]
      refine x_nil ?_
      refine hK79 _ _ ?_
      refine x_cond (ht := fun hc32 => ?_) (hf := fun hc32 => ?_)
      ·
       try simp only [dZ, ne_eq, bne_iff_ne, beq_iff_eq] at hc32
       have hse : stampE (numS 1099511627775 (keyS e xs).2.1 (keyS e xs).2.2).1 = 2 := if_pos (.inl (by omega))
       have hz := in_fail (e2 := 2) (st := (numS 1099511627775 (keyS e xs).2.1 (keyS e xs).2.2).2) hkE (by rw [hV4, hse, show decide (¬ (2 : Int) = 0) = true from rfl, failS_new hE1 (by decide)]; rfl) hE1 (by decide)
       rw [hE1] at hS
       refine x_seq fun K80 hK80 => ?_
       refine x_region ?_
       refine s_go (s_move) ?_
       try simp only [opv, nZ, Value.cells]
       refine s_call en159 ?_
       try simp only [opv, nZ, Value.cells, List.map_toArray, List.map_cons, List.map_nil, List.append_toArray, List.cons_append, List.nil_append, Array.append_empty]
       refine CallR.mono (c_ref09fail _ g Ab cb (numS 1099511627775 (keyS e xs).2.1 (keyS e xs).2.2).2.2 hcpb 2 (hS.owns (by repeat (first | exact Spl.nil | (apply Spl.cons (by repeat (exact Del.head))))))) ?_
       rintro _ w59 ⟨rfl, Af, cf, hcpf, hRf, hCf⟩
       have hYf := RdIn.trans hM hS (by repeat (first | exact Spl.nil | (apply Spl.cons (by repeat (exact Del.head))))) hRf (by intro s hs q hb; simp only [List.mem_cons, List.not_mem_nil, or_false] at hs; rcases hs with rfl | rfl <;> first | (simp [Res.reads] at hb; done) | exact hRb q hb)
       replace hS := hS.frame (by repeat (first | exact Spl.nil | (apply Spl.cons (by repeat (exact Del.head))))) hCf (by intro r hr b hb; simp only [List.mem_cons, List.not_mem_nil, or_false] at hr; rcases hr with rfl | rfl <;> (simp [Res.reads] at hb; done))
       replace hRf := hYf
       simp only [List.cons_append, List.nil_append] at hS
       try simp only [opv, nZ, Value.cells]
       refine m_store_obj ti88 (hS := hS) (hc := by exact zi_whole (by omega) (by omega)) (hv := by rfl) (hfit := by (rw [zi_size (by omega)]; decide)) (h1 := by exact zi_one _ _) (h := fun w60 hS => ?_)
       try simp only [opv, nZ, Value.cells, Array.toArray_toList] at hS ⊢
       refine x_nil ?_
       refine hK80 _ _ ?_
       refine x_ret ?_
       refine r_cell_agg rfl Tryz.underlying88 ti88 (hS := hS) (hfit := by (rw [zi_size (by omega)]; rfl)) (hR := ?_)
       exact ⟨by rw [hz], _, _, by rw [hz]; assumption, by rw [hz]; assumption, by rw [hz]; exact hS.sel (by repeat (first | exact Sel.nil | (refine Sel.cons (by repeat (exact Del.head)) ?_)))⟩
      ·
       try simp only [dZ, ne_eq, bne_iff_ne, beq_iff_eq] at hc32
       refine x_skip ?_
       refine hK78 _ _ ?_
       refine x_seq fun K81 hK81 => ?_
       refine x_seq fun K82 hK82 => ?_
       refine x_region ?_
       refine s_go (s_move) ?_
       try simp only [opv, nZ, Value.cells]
       refine s_go (s_nilCheck) ?_
       try simp only [opv, nZ, Value.cells]
       refine s_go (m_fieldAddr Tryz.underlying140 (hi := ti53)) ?_
       try simp only [opv, nZ, Value.cells, Nat.zero_add, Nat.add_zero, List.getElem_toArray, List.getElem_cons_zero, List.getElem_cons_succ]
       refine s_go (m_load_obj Tryz.underlying53 (hS := hS) (hv := by rfl)) ?_
       try simp only [opv, nZ, Value.cells, List.getElem_toArray, List.getElem_cons_zero, List.getElem_cons_succ]
       refine s_go (s_eql) ?_
       try simp only [opv, nZ, Value.cells]
       refine s_part 86 rfl (fun hp9 => ?_) (fun hp9 => ?_)
       ·
        try simp only [n3, n4]
        try simp only [dZ, ne_eq] at hp9
        refine s_go (s_move) ?_
        try simp only [opv, nZ, Value.cells]
        refine g_on (yi (t := 87) rfl rfl) ?_
        refine s_go (m_fieldAddr Tryz.underlying88 (hi := ti86)) ?_
        try simp only [opv, nZ, Value.cells, Nat.zero_add, Nat.add_zero, List.getElem_toArray, List.getElem_cons_zero, List.getElem_cons_succ]
        refine g_on (yi (t := 87) rfl rfl) ?_
        refine s_go (m_fieldAddr Tryz.underlying86 (hi := ti84)) ?_
        try simp only [opv, nZ, Value.cells, Nat.zero_add, Nat.add_zero, List.getElem_toArray, List.getElem_cons_zero, List.getElem_cons_succ]
        refine g_on (yi (t := 87) rfl rfl) ?_
        refine s_go (m_load_obj Tryz.underlying84 (hS := hS) (hv := by exact zi_get rfl (by omega))) ?_
        try simp only [opv, nZ, Value.cells, List.getElem_toArray, List.getElem_cons_zero, List.getElem_cons_succ]
        rw [at_get12 hk12]
        refine g_on (yi (t := 87) rfl rfl) ?_
        refine s_go (s_quo (hc := quo_u64 (r := (numS 1099511627775 (keyS e xs).2.1 (keyS e xs).2.2).1) (p := 256) (by omega))) ?_
        try simp only [opv, nZ, Value.cells]
        refine g_on (yi (t := 87) rfl rfl) ?_
        refine s_go (s_eql) ?_
        try simp only [opv, nZ, Value.cells]
        refine s_go (s_pick_t) ?_
        try simp only [opv, nZ, Value.cells]
        refine x_nil ?_
        refine hK82 _ _ ?_
        refine x_cond (ht := fun hc33 => ?_) (hf := fun hc33 => ?_)
        ·
         try simp only [dZ, ne_eq, bne_iff_ne, beq_iff_eq] at hc33
         have hse : stampE (numS 1099511627775 (keyS e xs).2.1 (keyS e xs).2.2).1 = 3 := by rw [stampE, if_neg (by omega), if_pos (by omega)]
         have hz := in_fail (e2 := 3) (st := (numS 1099511627775 (keyS e xs).2.1 (keyS e xs).2.2).2) hkE (by rw [hV4, hse, show decide (¬ (3 : Int) = 0) = true from rfl, failS_new hE1 (by decide)]; rfl) hE1 (by decide)
         rw [hE1] at hS
         refine x_seq fun K83 hK83 => ?_
         refine x_region ?_
         refine s_go (s_move) ?_
         try simp only [opv, nZ, Value.cells]
         refine s_call en159 ?_
         try simp only [opv, nZ, Value.cells, List.map_toArray, List.map_cons, List.map_nil, List.append_toArray, List.cons_append, List.nil_append, Array.append_empty]
         refine CallR.mono (c_ref09fail _ g Ab cb (numS 1099511627775 (keyS e xs).2.1 (keyS e xs).2.2).2.2 hcpb 3 (hS.owns (by repeat (first | exact Spl.nil | (apply Spl.cons (by repeat (exact Del.head))))))) ?_
         rintro _ w61 ⟨rfl, Af, cf, hcpf, hRf, hCf⟩
         have hYf := RdIn.trans hM hS (by repeat (first | exact Spl.nil | (apply Spl.cons (by repeat (exact Del.head))))) hRf (by intro s hs q hb; simp only [List.mem_cons, List.not_mem_nil, or_false] at hs; rcases hs with rfl | rfl <;> first | (simp [Res.reads] at hb; done) | exact hRb q hb)
         replace hS := hS.frame (by repeat (first | exact Spl.nil | (apply Spl.cons (by repeat (exact Del.head))))) hCf (by intro r hr b hb; simp only [List.mem_cons, List.not_mem_nil, or_false] at hr; rcases hr with rfl | rfl <;> (simp [Res.reads] at hb; done))
         replace hRf := hYf
         simp only [List.cons_append, List.nil_append] at hS
         try simp only [opv, nZ, Value.cells]
         refine m_store_obj ti88 (hS := hS) (hc := by exact zi_whole (by omega) (by omega)) (hv := by rfl) (hfit := by (rw [zi_size (by omega)]; decide)) (h1 := by exact zi_one _ _) (h := fun w62 hS => ?_)
         try simp only [opv, nZ, Value.cells, Array.toArray_toList] at hS ⊢
         refine x_nil ?_
         refine hK83 _ _ ?_
         refine x_ret ?_
         refine r_cell_agg rfl Tryz.underlying88 ti88 (hS := hS) (hfit := by (rw [zi_size (by omega)]; rfl)) (hR := ?_)
         exact ⟨by rw [hz], _, _, by rw [hz]; assumption, by rw [hz]; assumption, by rw [hz]; exact hS.sel (by repeat (first | exact Sel.nil | (refine Sel.cons (by repeat (exact Del.head)) ?_)))⟩
        ·
         try simp only [dZ, ne_eq, bne_iff_ne, beq_iff_eq] at hc33
         refine x_skip ?_
         refine hK81 _ _ ?_
         refine x_region ?_
         have hF : failS (decide (¬ stampE (numS 1099511627775 (keyS e xs).2.1 (keyS e xs).2.2).1 = 0)) (stampE (numS 1099511627775 (keyS e xs).2.1 (keyS e xs).2.2).1) (numS 1099511627775 (keyS e xs).2.1 (keyS e xs).2.2).2 = (numS 1099511627775 (keyS e xs).2.1 (keyS e xs).2.2).2 := by (rw [decide_eq_false (fun h => h (stampE_0.2 (by omega))), failS_no])
         rw [hF] at hV4
         have hW := hV4
         have hn8 := namS_len (numS 1099511627775 (keyS e xs).2.1 (keyS e xs).2.2).2.1 (numS 1099511627775 (keyS e xs).2.1 (keyS e xs).2.2).2.2
         have hbl := numS_len 1099511627775 (keyS e xs).2.1 (keyS e xs).2.2
         have hl4 : ((keyS e xs).1 ++ mkV (numS 1099511627775 (keyS e xs).2.1 (keyS e xs).2.2).1 (namS (numS 1099511627775 (keyS e xs).2.1 (keyS e xs).2.2).2.1 (numS 1099511627775 (keyS e xs).2.1 (keyS e xs).2.2).2.2).1).length = 21 := by rw [List.length_append, hk12, mkV_len hn8]
         refine s_go (s_move) ?_
         try simp only [opv, nZ, Value.cells]
         refine s_go (s_build_struct (cells := #[_, .int .u64 0, .int .u8 0, .int .u8 0, .int .u8 0, .int .u8 0, .int .u8 0, .int .u8 0, .int .u8 0, .int .u8 0, .int .u8 0, .slice none 0 0, .int .i64 0]) Tryz.underlying142 ti142 bp142 (hc := by simp only [List.map_toArray, List.map_cons, List.map_nil, opv, nZ, Value.cells, List.toList_toArray]; (repeat (refine fill_cons rfl rfl (Nat.le_of_ble_eq_true rfl) ?_)); rfl)) ?_
         try simp only [opv, nZ, Value.cells]
         refine s_call en90 ?_
         try simp only [opv, nZ, Value.cells, List.map_toArray, List.map_cons, List.map_nil, List.append_toArray, List.cons_append, List.nil_append, Array.append_empty]
         refine CallR.mono (c_ref07Read _ g (numS 1099511627775 (keyS e xs).2.1 (keyS e xs).2.2).2.1 Ab cb (numS 1099511627775 (keyS e xs).2.1 (keyS e xs).2.2).2.2 hcpb (numS_byt hkb) (by omega) ⟨2, 0, 0, nm0, none, 0, [], 0⟩ (by decide) (by decide) (hS.owns (by repeat (first | exact Spl.nil | (apply Spl.cons (by repeat (exact Del.head))))))) ?_
         rintro _ w63 ⟨Bc, kc, rfl, hQc, Ac, cc, hcpc, hRc, hCc⟩
         have hYc := RdIn.trans hM hS (by repeat (first | exact Spl.nil | (apply Spl.cons (by repeat (exact Del.head))))) hRc (by intro s hs q hb; simp only [List.mem_cons, List.not_mem_nil, or_false] at hs; rcases hs with rfl | rfl <;> first | (simp [Res.reads] at hb; done) | exact hRb q hb)
         replace hS := hS.frame (by repeat (first | exact Spl.nil | (apply Spl.cons (by repeat (exact Del.head))))) hCc (by intro r hr b hb; simp only [List.mem_cons, List.not_mem_nil, or_false] at hr; rcases hr with rfl | rfl | rfl <;> first | (simp [Res.reads] at hb; done) | exact hRc b hb | exact hQc b hb)
         replace hRc := hYc
         simp only [List.cons_append, List.nil_append] at hS
         simp only [rdS_n] at hS hcpc hRc ⊢
         try simp only [opv, nZ, Value.cells]
         refine s_go (s_field_agg Tryz.underlying142 (hu := Tryz.underlying41) (hi := ti41)) ?_
         try simp only [opv, nZ, Value.cells, List.getElem_toArray, List.getElem_cons_zero, List.getElem_cons_succ]
         rw [pA_x hn8]
         refine s_go (m_fieldAddr Tryz.underlying88 (hi := ti86)) ?_
         try simp only [opv, nZ, Value.cells, Nat.zero_add, Nat.add_zero, List.getElem_toArray, List.getElem_cons_zero, List.getElem_cons_succ]
         refine s_go (m_fieldAddr Tryz.underlying86 (hi := ti41)) ?_
         try simp only [opv, nZ, Value.cells, Nat.zero_add, Nat.add_zero, List.getElem_toArray, List.getElem_cons_zero, List.getElem_cons_succ]
         refine m_store_obj ti41 (hS := hS) (hc := at_text hk12 rfl hn8) (hv := by (show (ic .u8 _).size = 8; rw [ic_size]; exact hn8)) (hfit := by (rw [zi_size (by omega)]; decide)) (h1 := by exact ic_one _ _) (h := fun w64 hS => ?_)
         try simp only [opv, nZ, Value.cells, Array.toArray_toList] at hS ⊢
         refine x_nil ?_
         refine hK3 _ _ ?_
         refine x_seq fun K84 hK84 => ?_
         refine x_seq fun K85 hK85 => ?_
         refine x_region ?_
         refine s_go (s_move) ?_
         try simp only [opv, nZ, Value.cells]
         refine s_go (s_nilCheck) ?_
         try simp only [opv, nZ, Value.cells]
         refine s_go (m_fieldAddr Tryz.underlying140 (hi := ti53)) ?_
         try simp only [opv, nZ, Value.cells, Nat.zero_add, Nat.add_zero, List.getElem_toArray, List.getElem_cons_zero, List.getElem_cons_succ]
         refine s_go (m_load_obj Tryz.underlying53 (hS := hS) (hv := by rfl)) ?_
         try simp only [opv, nZ, Value.cells, List.getElem_toArray, List.getElem_cons_zero, List.getElem_cons_succ]
         refine s_go (s_neq) ?_
         try simp only [opv, nZ, Value.cells]
         refine x_nil ?_
         refine hK85 _ _ ?_
         refine x_cond (ht := fun hc34 => ?_) (hf := fun hc34 => ?_)
         ·
          try simp only [dZ, ne_eq, bne_iff_ne, beq_iff_eq] at hc34
          have hz := in_err hkE (by rw [hW]) hc34
          refine x_seq fun K86 hK86 => ?_
          refine x_region ?_
          refine s_go (s_build_struct (cells := #[.int .u8 0, .int .u16 0, .int .u8 0, .int .u8 0, .int .u8 0, .int .u8 0, .int .u8 0, .int .u8 0, .int .u8 0, .int .u8 0, .int .u8 0, .int .u32 0, .int .u64 0, .int .u8 0, .int .u8 0, .int .u8 0, .int .u8 0, .int .u8 0, .int .u8 0, .int .u8 0, .int .u8 0]) Tryz.underlying88 ti88 bp88 (hc := by simp only [List.map_toArray, List.map_cons, List.map_nil, opv, nZ, Value.cells, List.toList_toArray]; (repeat (refine fill_cons rfl rfl (Nat.le_of_ble_eq_true rfl) ?_)); rfl)) ?_
          try simp only [opv, nZ, Value.cells]
          rw [show (#[.int .u8 0, .int .u16 0, .int .u8 0, .int .u8 0, .int .u8 0, .int .u8 0, .int .u8 0, .int .u8 0, .int .u8 0, .int .u8 0, .int .u8 0, .int .u32 0, .int .u64 0, .int .u8 0, .int .u8 0, .int .u8 0, .int .u8 0, .int .u8 0, .int .u8 0, .int .u8 0, .int .u8 0] : Array Value) = AA atom0 from rfl]
          refine m_store_obj ti88 (hS := hS) (hc := by exact zi_whole (by omega) (by omega)) (hv := by rfl) (hfit := by (rw [zi_size (by omega)]; decide)) (h1 := by exact zi_one _ _) (h := fun w65 hS => ?_)
          try simp only [opv, nZ, Value.cells, Array.toArray_toList] at hS ⊢
          refine x_nil ?_
          refine hK86 _ _ ?_
          refine x_ret ?_
          refine r_cell_agg rfl Tryz.underlying88 ti88 (hS := hS) (hfit := by (rw [zi_size (by omega)]; rfl)) (hR := ?_)
          exact ⟨by rw [hz], _, _, by rw [hz]; assumption, by rw [hz]; assumption, by rw [hz]; exact hS.sel (by repeat (first | exact Sel.nil | (refine Sel.cons (by repeat (exact Del.head)) ?_)))⟩
         ·
          try simp only [dZ, ne_eq, bne_iff_ne, beq_iff_eq] at hc34
          have hz := in_ok hkE hW hc34
          refine x_skip ?_
          refine hK84 _ _ ?_
          refine x_seq fun K87 hK87 => ?_
          refine x_region ?_
          refine s_go (m_load_row Tryz.underlying88 (hi := ti88) (hS := hS) (hfit := by (rw [zi_size (by omega)]; rfl))) ?_
          try simp only [opv, nZ, Value.cells, List.getElem_toArray, List.getElem_cons_zero, List.getElem_cons_succ]
          refine m_store_obj ti88 (hS := hS) (hc := by exact zi_whole (by omega) (by omega)) (hv := by (show (zi _ _).toArray.size = _; rw [zi_size (by omega)]; rfl)) (hfit := by (rw [zi_size (by omega)]; decide)) (h1 := by exact zi_one _ _) (h := fun w66 hS => ?_)
          try simp only [opv, nZ, Value.cells, Array.toArray_toList] at hS ⊢
          refine x_nil ?_
          refine hK87 _ _ ?_
          refine x_ret ?_
          refine r_cell_agg rfl Tryz.underlying88 ti88 (hS := hS) (hfit := by (rw [zi_size (by omega)]; rfl)) (hR := ?_)
          exact ⟨by rw [hz], _, _, by rw [hz]; assumption, by rw [hz]; assumption, by rw [hz]; exact hS.sel (by repeat (first | exact Sel.nil | (refine Sel.cons (by repeat (exact Del.head)) ?_)))⟩
       ·
        try simp only [n3, n4]
        try simp only [dZ, ne_eq] at hp9
        (exfalso; omega)
     ·
      try simp only [n3, n4]
      try simp only [dZ, ne_eq] at hp8
      have hE1 : ¬ (numS 1099511627775 (keyS e xs).2.1 (keyS e xs).2.2).2.1 = 0 := hp8
      refine s_go (s_move) ?_
      try simp only [opv, nZ, Value.cells]
      refine g_off (yi (t := 73) rfl rfl) ?_
      try simp only [opv, nZ, Value.cells]
      refine g_off (yi (t := 73) rfl rfl) ?_
      try simp only [opv, nZ, Value.cells]
      refine g_off (yi (t := 73) rfl rfl) ?_
      try simp only [opv, nZ, Value.cells]
      refine g_off (yi (t := 73) rfl rfl) ?_
      try simp only [opv, nZ, Value.cells]
      refine g_off (yi (t := 73) rfl rfl) ?_
      try simp only [opv, nZ, Value.cells]
      refine s_go (s_pick_f) ?_
      try simp only [opv, nZ, Value.cells]
      refine x_nil ?_
      refine hK79 _ _ ?_
      refine x_cond_f (h := ?_)
      refine x_skip ?_
      refine hK78 _ _ ?_
      refine x_seq fun K92 hK92 => ?_
      refine x_seq fun K93 hK93 => ?_
      refine x_region ?_
      refine s_go (s_move) ?_
      try simp only [opv, nZ, Value.cells]
      refine s_go (s_nilCheck) ?_
      try simp only [opv, nZ, Value.cells]
      refine s_go (m_fieldAddr Tryz.underlying140 (hi := ti53)) ?_
      try simp only [opv, nZ, Value.cells, Nat.zero_add, Nat.add_zero, List.getElem_toArray, List.getElem_cons_zero, List.getElem_cons_succ]
      refine s_go (m_load_obj Tryz.underlying53 (hS := hS) (hv := by rfl)) ?_
      try simp only [opv, nZ, Value.cells, List.getElem_toArray, List.getElem_cons_zero, List.getElem_cons_succ]
      refine s_go (s_eql) ?_
      try simp only [opv, nZ, Value.cells]
      refine s_part 86 rfl (fun hp10 => ?_) (fun hp10 => ?_)
      ·
       try simp only [n3, n4]
       try simp only [dZ, ne_eq] at hp10
       (exfalso; omega)
      ·
       try simp only [n3, n4]
       try simp only [dZ, ne_eq] at hp10
       refine s_go (s_move) ?_
       try simp only [opv, nZ, Value.cells]
       refine g_off (yi (t := 87) rfl rfl) ?_
       try simp only [opv, nZ, Value.cells]
       refine g_off (yi (t := 87) rfl rfl) ?_
       try simp only [opv, nZ, Value.cells]
       refine g_off (yi (t := 87) rfl rfl) ?_
       try simp only [opv, nZ, Value.cells]
       refine g_off (yi (t := 87) rfl rfl) ?_
       try simp only [opv, nZ, Value.cells]
       refine g_off (yi (t := 87) rfl rfl) ?_
       try simp only [opv, nZ, Value.cells]
       refine s_go (s_pick_f) ?_
       try simp only [opv, nZ, Value.cells]
       refine x_nil ?_
       refine hK93 _ _ ?_
       refine x_cond_f (h := ?_)
       refine x_skip ?_
       refine hK92 _ _ ?_
       refine x_region ?_
       have hF : failS (decide (¬ stampE (numS 1099511627775 (keyS e xs).2.1 (keyS e xs).2.2).1 = 0)) (stampE (numS 1099511627775 (keyS e xs).2.1 (keyS e xs).2.2).1) (numS 1099511627775 (keyS e xs).2.1 (keyS e xs).2.2).2 = (numS 1099511627775 (keyS e xs).2.1 (keyS e xs).2.2).2 := by exact failS_err hE1 (numS_ok (fun h => absurd hkE h) hE1)
       rw [hF] at hV4
       have hW := hV4
       have hn8 := namS_len (numS 1099511627775 (keyS e xs).2.1 (keyS e xs).2.2).2.1 (numS 1099511627775 (keyS e xs).2.1 (keyS e xs).2.2).2.2
       have hbl := numS_len 1099511627775 (keyS e xs).2.1 (keyS e xs).2.2
       have hl4 : ((keyS e xs).1 ++ mkV (numS 1099511627775 (keyS e xs).2.1 (keyS e xs).2.2).1 (namS (numS 1099511627775 (keyS e xs).2.1 (keyS e xs).2.2).2.1 (numS 1099511627775 (keyS e xs).2.1 (keyS e xs).2.2).2.2).1).length = 21 := by rw [List.length_append, hk12, mkV_len hn8]
       refine s_go (s_move) ?_
       try simp only [opv, nZ, Value.cells]
       refine s_go (s_build_struct (cells := #[_, .int .u64 0, .int .u8 0, .int .u8 0, .int .u8 0, .int .u8 0, .int .u8 0, .int .u8 0, .int .u8 0, .int .u8 0, .int .u8 0, .slice none 0 0, .int .i64 0]) Tryz.underlying142 ti142 bp142 (hc := by simp only [List.map_toArray, List.map_cons, List.map_nil, opv, nZ, Value.cells, List.toList_toArray]; (repeat (refine fill_cons rfl rfl (Nat.le_of_ble_eq_true rfl) ?_)); rfl)) ?_
       try simp only [opv, nZ, Value.cells]
       refine s_call en90 ?_
       try simp only [opv, nZ, Value.cells, List.map_toArray, List.map_cons, List.map_nil, List.append_toArray, List.cons_append, List.nil_append, Array.append_empty]
       refine CallR.mono (c_ref07Read _ g (numS 1099511627775 (keyS e xs).2.1 (keyS e xs).2.2).2.1 Ab cb (numS 1099511627775 (keyS e xs).2.1 (keyS e xs).2.2).2.2 hcpb (numS_byt hkb) (by omega) ⟨2, 0, 0, nm0, none, 0, [], 0⟩ (by decide) (by decide) (hS.owns (by repeat (first | exact Spl.nil | (apply Spl.cons (by repeat (exact Del.head))))))) ?_
       rintro _ w77 ⟨Bc, kc, rfl, hQc, Ac, cc, hcpc, hRc, hCc⟩
       have hYc := RdIn.trans hM hS (by repeat (first | exact Spl.nil | (apply Spl.cons (by repeat (exact Del.head))))) hRc (by intro s hs q hb; simp only [List.mem_cons, List.not_mem_nil, or_false] at hs; rcases hs with rfl | rfl <;> first | (simp [Res.reads] at hb; done) | exact hRb q hb)
       replace hS := hS.frame (by repeat (first | exact Spl.nil | (apply Spl.cons (by repeat (exact Del.head))))) hCc (by intro r hr b hb; simp only [List.mem_cons, List.not_mem_nil, or_false] at hr; rcases hr with rfl | rfl | rfl <;> first | (simp [Res.reads] at hb; done) | exact hRc b hb | exact hQc b hb)
       replace hRc := hYc
       simp only [List.cons_append, List.nil_append] at hS
       simp only [rdS_n] at hS hcpc hRc ⊢
       try simp only [opv, nZ, Value.cells]
       refine s_go (s_field_agg Tryz.underlying142 (hu := Tryz.underlying41) (hi := ti41)) ?_
       try simp only [opv, nZ, Value.cells, List.getElem_toArray, List.getElem_cons_zero, List.getElem_cons_succ]
       rw [pA_x hn8]
       refine s_go (m_fieldAddr Tryz.underlying88 (hi := ti86)) ?_
       try simp only [opv, nZ, Value.cells, Nat.zero_add, Nat.add_zero, List.getElem_toArray, List.getElem_cons_zero, List.getElem_cons_succ]
       refine s_go (m_fieldAddr Tryz.underlying86 (hi := ti41)) ?_
       try simp only [opv, nZ, Value.cells, Nat.zero_add, Nat.add_zero, List.getElem_toArray, List.getElem_cons_zero, List.getElem_cons_succ]
       refine m_store_obj ti41 (hS := hS) (hc := at_text hk12 rfl hn8) (hv := by (show (ic .u8 _).size = 8; rw [ic_size]; exact hn8)) (hfit := by (rw [zi_size (by omega)]; decide)) (h1 := by exact ic_one _ _) (h := fun w78 hS => ?_)
       try simp only [opv, nZ, Value.cells, Array.toArray_toList] at hS ⊢
       refine x_nil ?_
       refine hK3 _ _ ?_
       refine x_seq fun K99 hK99 => ?_
       refine x_seq fun K100 hK100 => ?_
       refine x_region ?_
       refine s_go (s_move) ?_
       try simp only [opv, nZ, Value.cells]
       refine s_go (s_nilCheck) ?_
       try simp only [opv, nZ, Value.cells]
       refine s_go (m_fieldAddr Tryz.underlying140 (hi := ti53)) ?_
       try simp only [opv, nZ, Value.cells, Nat.zero_add, Nat.add_zero, List.getElem_toArray, List.getElem_cons_zero, List.getElem_cons_succ]
       refine s_go (m_load_obj Tryz.underlying53 (hS := hS) (hv := by rfl)) ?_
       try simp only [opv, nZ, Value.cells, List.getElem_toArray, List.getElem_cons_zero, List.getElem_cons_succ]
       refine s_go (s_neq) ?_
       try simp only [opv, nZ, Value.cells]
       refine x_nil ?_
       refine hK100 _ _ ?_
       refine x_cond (ht := fun hc41 => ?_) (hf := fun hc41 => ?_)
       ·
        try simp only [dZ, ne_eq, bne_iff_ne, beq_iff_eq] at hc41
        have hz := in_err hkE (by rw [hW]) hc41
        refine x_seq fun K101 hK101 => ?_
        refine x_region ?_
        refine s_go (s_build_struct (cells := #[.int .u8 0, .int .u16 0, .int .u8 0, .int .u8 0, .int .u8 0, .int .u8 0, .int .u8 0, .int .u8 0, .int .u8 0, .int .u8 0, .int .u8 0, .int .u32 0, .int .u64 0, .int .u8 0, .int .u8 0, .int .u8 0, .int .u8 0, .int .u8 0, .int .u8 0, .int .u8 0, .int .u8 0]) Tryz.underlying88 ti88 bp88 (hc := by simp only [List.map_toArray, List.map_cons, List.map_nil, opv, nZ, Value.cells, List.toList_toArray]; (repeat (refine fill_cons rfl rfl (Nat.le_of_ble_eq_true rfl) ?_)); rfl)) ?_
        try simp only [opv, nZ, Value.cells]
        rw [show (#[.int .u8 0, .int .u16 0, .int .u8 0, .int .u8 0, .int .u8 0, .int .u8 0, .int .u8 0, .int .u8 0, .int .u8 0, .int .u8 0, .int .u8 0, .int .u32 0, .int .u64 0, .int .u8 0, .int .u8 0, .int .u8 0, .int .u8 0, .int .u8 0, .int .u8 0, .int .u8 0, .int .u8 0] : Array Value) = AA atom0 from rfl]
        refine m_store_obj ti88 (hS := hS) (hc := by exact zi_whole (by omega) (by omega)) (hv := by rfl) (hfit := by (rw [zi_size (by omega)]; decide)) (h1 := by exact zi_one _ _) (h := fun w79 hS => ?_)
        try simp only [opv, nZ, Value.cells, Array.toArray_toList] at hS ⊢
        refine x_nil ?_
        refine hK101 _ _ ?_
        refine x_ret ?_
        refine r_cell_agg rfl Tryz.underlying88 ti88 (hS := hS) (hfit := by (rw [zi_size (by omega)]; rfl)) (hR := ?_)
        exact ⟨by rw [hz], _, _, by rw [hz]; assumption, by rw [hz]; assumption, by rw [hz]; exact hS.sel (by repeat (first | exact Sel.nil | (refine Sel.cons (by repeat (exact Del.head)) ?_)))⟩
       ·
        try simp only [dZ, ne_eq, bne_iff_ne, beq_iff_eq] at hc41
        have hz := in_ok hkE hW hc41
        refine x_skip ?_
        refine hK99 _ _ ?_
        refine x_seq fun K102 hK102 => ?_
        refine x_region ?_
        refine s_go (m_load_row Tryz.underlying88 (hi := ti88) (hS := hS) (hfit := by (rw [zi_size (by omega)]; rfl))) ?_
        try simp only [opv, nZ, Value.cells, List.getElem_toArray, List.getElem_cons_zero, List.getElem_cons_succ]
        refine m_store_obj ti88 (hS := hS) (hc := by exact zi_whole (by omega) (by omega)) (hv := by (show (zi _ _).toArray.size = _; rw [zi_size (by omega)]; rfl)) (hfit := by (rw [zi_size (by omega)]; decide)) (h1 := by exact zi_one _ _) (h := fun w80 hS => ?_)
        try simp only [opv, nZ, Value.cells, Array.toArray_toList] at hS ⊢
        refine x_nil ?_
        refine hK102 _ _ ?_
        refine x_ret ?_
        refine r_cell_agg rfl Tryz.underlying88 ti88 (hS := hS) (hfit := by (rw [zi_size (by omega)]; rfl)) (hR := ?_)
        exact ⟨by rw [hz], _, _, by rw [hz]; assumption, by rw [hz]; assumption, by rw [hz]; exact hS.sel (by repeat (first | exact Sel.nil | (refine Sel.cons (by repeat (exact Del.head)) ?_)))⟩
    ·
     try simp only [dZ, ne_eq, bne_iff_ne, beq_iff_eq] at hc31
     have hW := valP_0 (s := kn (keyS e xs).1 0) (e := (keyS e xs).2.1) (xs := (keyS e xs).2.2) (by omega) (by omega) (by omega) (by omega)
     refine x_skip ?_
     refine hK3 _ _ ?_
     refine x_seq fun K103 hK103 => ?_
     refine x_seq fun K104 hK104 => ?_
     refine x_region ?_
     refine s_go (s_move) ?_
     try simp only [opv, nZ, Value.cells]
     refine s_go (s_nilCheck) ?_
     try simp only [opv, nZ, Value.cells]
     refine s_go (m_fieldAddr Tryz.underlying140 (hi := ti53)) ?_
     try simp only [opv, nZ, Value.cells, Nat.zero_add, Nat.add_zero, List.getElem_toArray, List.getElem_cons_zero, List.getElem_cons_succ]
     refine s_go (m_load_obj Tryz.underlying53 (hS := hS) (hv := by rfl)) ?_
     try simp only [opv, nZ, Value.cells, List.getElem_toArray, List.getElem_cons_zero, List.getElem_cons_succ]
     refine s_go (s_neq) ?_
     try simp only [opv, nZ, Value.cells]
     refine x_nil ?_
     refine hK104 _ _ ?_
     refine x_cond (ht := fun hc42 => ?_) (hf := fun hc42 => ?_)
     ·
      try simp only [dZ, ne_eq, bne_iff_ne, beq_iff_eq] at hc42
      have hz := atmS_key hc42
      refine x_seq fun K105 hK105 => ?_
      refine x_region ?_
      refine s_go (s_build_struct (cells := #[.int .u8 0, .int .u16 0, .int .u8 0, .int .u8 0, .int .u8 0, .int .u8 0, .int .u8 0, .int .u8 0, .int .u8 0, .int .u8 0, .int .u8 0, .int .u32 0, .int .u64 0, .int .u8 0, .int .u8 0, .int .u8 0, .int .u8 0, .int .u8 0, .int .u8 0, .int .u8 0, .int .u8 0]) Tryz.underlying88 ti88 bp88 (hc := by simp only [List.map_toArray, List.map_cons, List.map_nil, opv, nZ, Value.cells, List.toList_toArray]; (repeat (refine fill_cons rfl rfl (Nat.le_of_ble_eq_true rfl) ?_)); rfl)) ?_
      try simp only [opv, nZ, Value.cells]
      rw [show (#[.int .u8 0, .int .u16 0, .int .u8 0, .int .u8 0, .int .u8 0, .int .u8 0, .int .u8 0, .int .u8 0, .int .u8 0, .int .u8 0, .int .u8 0, .int .u32 0, .int .u64 0, .int .u8 0, .int .u8 0, .int .u8 0, .int .u8 0, .int .u8 0, .int .u8 0, .int .u8 0, .int .u8 0] : Array Value) = AA atom0 from rfl]
      refine m_store_obj ti88 (hS := hS) (hc := by exact zi_whole (by omega) (by omega)) (hv := by rfl) (hfit := by (rw [zi_size (by omega)]; decide)) (h1 := by exact zi_one _ _) (h := fun w81 hS => ?_)
      try simp only [opv, nZ, Value.cells, Array.toArray_toList] at hS ⊢
      refine x_nil ?_
      refine hK105 _ _ ?_
      refine x_ret ?_
      refine r_cell_agg rfl Tryz.underlying88 ti88 (hS := hS) (hfit := by (rw [zi_size (by omega)]; rfl)) (hR := ?_)
      exact ⟨by rw [hz], _, _, by rw [hz]; assumption, by rw [hz]; assumption, by rw [hz]; exact hS.selA⟩
     ·
      try simp only [dZ, ne_eq, bne_iff_ne, beq_iff_eq] at hc42
      have hz := in_ok hc42 hW hc42
      refine x_skip ?_
      refine hK103 _ _ ?_
      refine x_seq fun K106 hK106 => ?_
      refine x_region ?_
      refine s_go (m_load_row Tryz.underlying88 (hi := ti88) (hS := hS) (hfit := by (rw [zi_size (by omega)]; rfl))) ?_
      try simp only [opv, nZ, Value.cells, List.getElem_toArray, List.getElem_cons_zero, List.getElem_cons_succ]
      refine m_store_obj ti88 (hS := hS) (hc := by exact zi_whole (by omega) (by omega)) (hv := by (show (zi _ _).toArray.size = _; rw [zi_size (by omega)]; rfl)) (hfit := by (rw [zi_size (by omega)]; decide)) (h1 := by exact zi_one _ _) (h := fun w82 hS => ?_)
      try simp only [opv, nZ, Value.cells, Array.toArray_toList] at hS ⊢
      refine x_nil ?_
      refine hK106 _ _ ?_
      refine x_ret ?_
      refine r_cell_agg rfl Tryz.underlying88 ti88 (hS := hS) (hfit := by (rw [zi_size (by omega)]; rfl)) (hR := ?_)
      exact ⟨by rw [hz], _, _, by rw [hz]; assumption, by rw [hz]; assumption, by rw [hz]; exact hS.selA⟩
end Go.Proofs.YtffmanidnlbjjaaGreat
set_option linter.unusedSimpArgs false
set_option linter.unusedVariables false
set_option maxHeartbeats 3000000
set_option maxRecDepth 100000
namespace Go.Proofs.YtffmanidnlbjjaaGreat
open Go.RowKit

theorem RdsI.tk {n k : Nat} {e0 e : Int} {xs0 xs : List Int} {pre : List (List Int)} (h : RdsI n e0 xs0 k pre e xs) : (rdA n e0 xs0).1.take k = pre := by
  rw [h.a]; dsimp only; rw [← h.l, List.take_left']; rfl
theorem RdsI.fol {n k : Nat} {e0 e : Int} {xs0 xs : List Int} {pre : List (List Int)} (h : RdsI n e0 xs0 k pre e xs) (hk : k < n) (h0 : (atmS e xs).2.1 = 0) : folS pre (atmS e xs).1 = ordAt (rdA n e0 xs0).1 k := by
  have h1 := h.at hk h0
  rw [← h.tk]; exact fol_at h1.2 h1.1
theorem RdsI.aok {n k : Nat} {e0 e : Int} {xs0 xs : List Int} {pre : List (List Int)} (h : RdsI n e0 xs0 k pre e xs) (hb : Byt xs0) : AOks pre := by
  rw [← h.tk]; exact (rdA_aok hb).take k
theorem finE_done {e : Int} {xs : List Int} (h : ErrOk e xs) : (if e = 0 ∧ 0 < xs.length then (3 : Int) else e) = finE (e, xs) := by
  unfold finE
  by_cases h0 : e = 0
  · simp [h0]
  · simp [h0, h h0]
theorem finE_err {s : Int × List Int} (h : ErrOk s.1 s.2) (h0 : ¬ s.1 = 0) : finE s = s.1 := by
  unfold finE
  rw [h h0]; rfl

theorem c_ref22Decode (w0 : World) (A : Option Addr) (c : Nat) (bs : List Int) (hb : Rd w0 A 1 bs.length (bs.map (Value.int .u8))) (hw : Byt bs) (hn : bs.length ≤ 1000000000) (hcb : bs.length ≤ c)  :
    CallR Tryz.prog 41 #[.slice A bs.length c] w0 fun v w' => ∃ B d, v = .tuple #[.slice B (decP bs).1.length d, .int .i64 (decP bs).2] ∧ St NoB w0 w' [.vec B d 88 21 ((decP bs).1).length (arows ((decP bs).1))] := by
 have hS := St.rd1 (S := NoB) hb
 have hml := numS_le 4096 0 bs
 have hm3 := numS_len 4096 0 bs
 have hmb := numS_byt (m := 4096) (e := 0) hw
 have heo : ErrOk (numS 4096 0 bs).2.1 (numS 4096 0 bs).2.2 := numS_ok (fun h => absurd rfl h)
 have hdl := decR_len (bs := bs)
 have hno := decR_ok hw
 refine c_enter (l := [.slice A bs.length c, undef, undef, undef, undef, undef, undef, undef, undef, undef, undef, undef, undef, undef, undef, undef, undef, undef, undef, undef, undef, undef, undef, undef, undef, undef, undef, undef, undef, undef, undef, undef, undef, undef, undef, undef, undef, undef, undef, undef, undef, undef, undef, undef, undef, undef, undef, undef, undef, undef, undef, undef, undef, undef, undef, undef, undef, undef]) Tryz.func41 rfl (by simp only [Tryz.ntmps41, List.size_toArray, List.length_cons, List.length_nil, Nat.reduceAdd, Nat.reduceSub, Array.replicate_succ, Array.replicate_zero, List.push_toArray, List.append_toArray, List.nil_append, List.cons_append]) ?_
 refine x_seq fun K1 hK1 => ?_
 refine x_region ?_
 refine s_go (s_assign) ?_
 try simp only [opv, nZ, Value.cells]
 refine s_go (s_assign) ?_
 try simp only [opv, nZ, Value.cells]
 refine x_nil ?_
 refine hK1 _ _ ?_
 refine x_seq fun K2 hK2 => ?_
 refine x_region ?_
 refine s_go (s_move) ?_
 try simp only [opv, nZ, Value.cells]
 refine s_go (s_build_struct (cells := #[_, .int .i64 0]) Tryz.underlying140 ti140 bp140 (hc := by simp only [List.map_toArray, List.map_cons, List.map_nil, opv, nZ, Value.cells, List.toList_toArray]; (repeat (refine fill_cons rfl rfl (Nat.le_of_ble_eq_true rfl) ?_)); rfl)) ?_
 try simp only [opv, nZ, Value.cells]
 refine m_box hS (fun w1 g1 hS => ?_)
 try simp only [opv, nZ, Value.cells, Array.toArray_toList] at hS ⊢
 refine s_go (s_assign) ?_
 try simp only [opv, nZ, Value.cells]
 obtain ⟨g, hg⟩ : ∃ z, z = g1 := ⟨_, rfl⟩
 rw [← hg] at hS ⊢
 refine x_nil ?_
 refine hK2 _ _ ?_
 refine x_seq fun K3 hK3 => ?_
 refine x_region ?_
 refine s_go (s_move) ?_
 try simp only [opv, nZ, Value.cells]
 refine s_go (s_build_struct (cells := #[.int .i64 0, _, .int .u8 0, .int .u8 0, .int .u8 0, .int .u8 0, .int .u8 0, .int .u8 0, .int .u8 0, .int .u8 0, .int .u8 0, .slice none 0 0, .int .i64 0]) Tryz.underlying142 ti142 bp142 (hc := by simp only [List.map_toArray, List.map_cons, List.map_nil, opv, nZ, Value.cells, List.toList_toArray]; (repeat (refine fill_cons rfl rfl (Nat.le_of_ble_eq_true rfl) ?_)); rfl)) ?_
 try simp only [opv, nZ, Value.cells]
 refine s_call en90 ?_
 try simp only [opv, nZ, Value.cells, List.map_toArray, List.map_cons, List.map_nil, List.append_toArray, List.cons_append, List.nil_append, Array.append_empty]
 refine CallR.mono (c_ref07Read _ g 0 A c bs hcb hw hn ⟨0, 4096, 0, nm0, none, 0, [], 0⟩ (by decide) (by decide) (hS.owns (by repeat (first | exact Spl.nil | (apply Spl.cons (by repeat (exact Del.head))))))) ?_
 rintro _ w2 ⟨B0, k0, rfl, hQr, Aa, ca, hca, hRr, hC2⟩
 replace hS := hS.frame (by repeat (first | exact Spl.nil | (apply Spl.cons (by repeat (exact Del.head))))) hC2 (by intro r hr b hb; simp only [List.mem_cons, List.not_mem_nil, or_false] at hr; rcases hr with rfl | rfl | rfl <;> first | (simp [Res.reads] at hb; done) | exact hRr b hb | exact hQr b hb)
 simp only [List.cons_append, List.nil_append] at hS
 simp only [rdS_u] at hS hca ⊢
 try simp only [opv, nZ, Value.cells]
 refine s_go (s_field_one Tryz.underlying142 (hu := Tryz.underlying84) (hv := by rfl)) ?_
 try simp only [opv, nZ, Value.cells, List.getElem_toArray, List.getElem_cons_zero, List.getElem_cons_succ]
 refine s_go (s_conv Tryz.underlying84 Tryz.underlying3 (hc := (wr_i64 (by omega) (by omega)))) ?_
 try simp only [opv, nZ, Value.cells]
 refine s_go (s_assign) ?_
 try simp only [opv, nZ, Value.cells]
 refine x_nil ?_
 refine hK3 _ _ ?_
 refine x_seq fun K4 hK4 => ?_
 refine x_region ?_
 replace hS := hS.nil_vec 88 21
 refine s_go (s_assign) ?_
 try simp only [opv, nZ, Value.cells]
 refine x_nil ?_
 refine hK4 _ _ ?_
 refine x_seq fun K5 hK5 => ?_
 refine x_seq fun K6 hK6 => ?_
 refine x_region ?_
 refine s_go (s_assign) ?_
 try simp only [opv, nZ, Value.cells]
 refine x_nil ?_
 refine hK6 _ _ ?_
 refine x_block ?_
 refine x_loop [2, 3, 6, 7, 8, 18, 19, 20, 21, 22, 23, 24, 25, 26, 27, 28, 29, 30, 31, 32, 33, 34, 35, 36, 37, 38, 39, 40, 41, 42, 43, 44, 45, 46, 47, 48, 49, 50, 51] (fun m f w => ∃ (i : Nat) (pre : List (List Int)) (e1 : Int) (A1 : Option Addr) (ce : Nat) (xs1 : List Int) (D : Option Addr) (de : Nat), i ≤ (numS 4096 0 bs).1 ∧ m = (numS 4096 0 bs).1 - i ∧ f 7 = .int .i64 (i : Int) ∧ f 6 = .slice D pre.length de ∧ xs1.length ≤ ce ∧ RdsI (numS 4096 0 bs).1 (numS 4096 0 bs).2.1 (numS 4096 0 bs).2.2 i pre e1 xs1 ∧ ordN (decR bs).1 i = true ∧ St NoB w0 w [.obj g (.cells #[.slice A1 xs1.length ce, .int .i64 e1] 140 (0, 0)), .rd A1 1 xs1.length (xs1.map (Value.int .u8)), .vec D de 88 21 (pre).length (arows (pre))]) ((numS 4096 0 bs).1) ?init1 (fun m1 f1 wl1 hI => ?_)
 case init1 =>
  try simp only [opv, nZ, Value.cells]
  exact ⟨0, [], _, Aa, ca, _, none, 0, by omega, rfl, rfl, rfl, hca, RdsI.start hmb heo, rfl, hS.selA⟩
 obtain ⟨i, pre, e1, A1, ce, xs1, D, de, hi, hm, h7, h6, hce, hri, hor, hS⟩ := hI
 simp only [clob, List.foldl, n3, n4, h7, h6]
 have hpl := hri.l
 have hle := hri.le
 have hpo := hri.aok hmb
 refine x_seq fun K7 hK7 => ?_
 refine x_seq fun K8 hK8 => ?_
 refine x_region ?_
 refine s_go (s_move) ?_
 try simp only [opv, nZ, Value.cells]
 refine s_go (s_move) ?_
 try simp only [opv, nZ, Value.cells]
 refine s_go (s_lss) ?_
 try simp only [opv, nZ, Value.cells]
 refine x_nil ?_
 refine hK8 _ _ ?_
 refine x_cond (ht := fun hc1 => ?_) (hf := fun hc1 => ?_)
 ·
  try simp only [dZ, ne_eq, bne_iff_ne, beq_iff_eq] at hc1
  have hiN : i < (numS 4096 0 bs).1 := by omega
  obtain ⟨x, hxe⟩ : ∃ x, (atmS e1 xs1).1 = x := ⟨_, rfl⟩
  have hal : x.length = 21 := by rw [← hxe]; exact atmS_l21 e1 hri.byt
  refine x_skip ?_
  refine hK7 _ _ ?_
  refine x_seq fun K9 hK9 => ?_
  refine x_block ?_
  refine x_seq fun K10 hK10 => ?_
  refine x_region ?_
  refine s_go (s_move) ?_
  try simp only [opv, nZ, Value.cells]
  refine s_call en91 ?_
  try simp only [opv, nZ, Value.cells, List.map_toArray, List.map_cons, List.map_nil, List.append_toArray, List.cons_append, List.nil_append, Array.append_empty]
  refine CallR.mono (c_ref09In _ g e1 A1 ce xs1 hce hri.byt (by omega) (hS.owns (by repeat (first | exact Spl.nil | (apply Spl.cons (by repeat (exact Del.head))))))) ?_
  rintro _ w3 ⟨rfl, A2, c2, hcc2, hRr, hC3⟩
  replace hS := hS.frame (by repeat (first | exact Spl.nil | (apply Spl.cons (by repeat (exact Del.head))))) hC3 (by intro r hr b hb; simp only [List.mem_cons, List.not_mem_nil, or_false] at hr; rcases hr with rfl | rfl <;> first | (simp [Res.reads] at hb; done) | exact hRr b hb)
  simp only [List.cons_append, List.nil_append] at hS
  rw [hxe]
  try simp only [opv, nZ, Value.cells]
  refine m_alloc ti88 hS (fun w4 g4 hS => ?_)
  try simp only [opv, nZ, Value.cells, Array.toArray_toList] at hS ⊢
  have h0l : (List.replicate 21 (0 : Int)).length = 21 := rfl
  replace hS : St _ _ w4 (.obj g4 (.cells (AA (List.replicate 21 0)) 88 (0, 0)) :: _) := hS
  refine m_store_obj ti88 (hS := hS) (hc := by exact zi_whole (by omega) (by omega)) (hv := by (show (zi _ _).toArray.size = _; rw [zi_size (by omega)]; rfl)) (hfit := by (rw [zi_size (by omega)]; decide)) (h1 := by exact zi_one _ _) (h := fun w5 hS => ?_)
  try simp only [opv, nZ, Value.cells, Array.toArray_toList] at hS ⊢
  refine x_nil ?_
  refine hK10 _ _ ?_
  refine x_seq fun K11 hK11 => ?_
  refine x_seq fun K12 hK12 => ?_
  refine x_region ?_
  refine s_go (s_move) ?_
  try simp only [opv, nZ, Value.cells]
  refine s_go (s_nilCheck) ?_
  try simp only [opv, nZ, Value.cells]
  refine s_go (m_fieldAddr Tryz.underlying140 (hi := ti53)) ?_
  try simp only [opv, nZ, Value.cells, Nat.zero_add, Nat.add_zero, List.getElem_toArray, List.getElem_cons_zero, List.getElem_cons_succ]
  refine s_go (m_load_obj Tryz.underlying53 (hS := hS) (hv := by rfl)) ?_
  try simp only [opv, nZ, Value.cells, List.getElem_toArray, List.getElem_cons_zero, List.getElem_cons_succ]
  refine s_go (s_neq) ?_
  try simp only [opv, nZ, Value.cells]
  refine x_nil ?_
  refine hK12 _ _ ?_
  refine x_cond (ht := fun hc2 => ?_) (hf := fun hc2 => ?_)
  ·
   try simp only [dZ, ne_eq, bne_iff_ne, beq_iff_eq] at hc2
   have hbad : ¬ (atmS e1 xs1).2.1 = 0 := by simpa using hc2
   have hst : decR bs = (pre, (atmS e1 xs1).2) := hri.stop hiN hbad
   have hE : decP bs = ([], (atmS e1 xs1).2.1) := by rw [decP, if_neg (by rw [ordL, hst]; rw [hst] at hor; rw [show (pre, (atmS e1 xs1).2).1.length = i from hpl, hor]; decide), hst, show (pre, (atmS e1 xs1).2).2 = (atmS e1 xs1).2 from rfl, finE_err (atmS_ok3 hri.eo) hbad, if_neg hbad]
   refine x_seq fun K13 hK13 => ?_
   refine x_quiet (by kernel_rfl) (by kernel_rfl) hS ?_
   refine q_go (fun w hS => s_move) ?_
   try simp only [opv, nZ, Value.cells]
   refine q_go (fun w hS => s_nilCheck) ?_
   try simp only [opv, nZ, Value.cells]
   refine q_go (fun w hS => m_fieldAddr Tryz.underlying140 (hi := ti53)) ?_
   try simp only [opv, nZ, Value.cells, Nat.zero_add, Nat.add_zero, List.getElem_toArray, List.getElem_cons_zero, List.getElem_cons_succ]
   refine q_go (fun w hS => m_load_obj Tryz.underlying53 (hS := hS) (hv := by rfl)) ?_
   try simp only [opv, nZ, Value.cells, List.getElem_toArray, List.getElem_cons_zero, List.getElem_cons_succ]
   refine q_go (fun w hS => s_assign) ?_
   try simp only [opv, nZ, Value.cells]
   refine q_go (fun w hS => s_assign) ?_
   try simp only [opv, nZ, Value.cells]
   clear hS
   refine q_nil fun w6 hS => ?_
   refine hK13 _ _ ?_
   refine x_ret ?_
   refine r_tmp2 rfl ?_
   exact ⟨none, 0, by rw [hE]; rfl, by rw [hE]; exact (hS.nil_vec 88 21).sel (by repeat (first | exact Sel.nil | (refine Sel.cons (by repeat (exact Del.head)) ?_)))⟩
  ·
   try simp only [dZ, ne_eq, bne_iff_ne, beq_iff_eq] at hc2
   have hok : (atmS e1 xs1).2.1 = 0 := by simpa using hc2
   have ha : AtomOk x := by rw [← hxe]; exact atmS_atom hri.byt hok
   have hkx := ha.key
   have hfa : folS pre x = ordAt (decR bs).1 i := by rw [← hxe]; exact hri.fol hiN hok
   have hat : i < (decR bs).1.length := (hri.at hiN hok).2
   refine x_skip ?_
   refine hK11 _ _ ?_
   refine x_seq fun K14 hK14 => ?_
   refine x_seq fun K15 hK15 => ?_
   refine x_quiet (by kernel_rfl) (by kernel_rfl) hS ?_
   refine q_go (fun w hS => s_move) ?_
   try simp only [opv, nZ, Value.cells]
   refine q_go (fun w hS => s_gtr) ?_
   try simp only [opv, nZ, Value.cells]
   refine q_go (fun w hS => s_move) ?_
   try simp only [opv, nZ, Value.cells]
   refine q_part 36 rfl (fun hp1 => ?_) (fun hp1 => ?_)
   ·
    try simp only [n3, n4]
    try simp only [dZ, ne_eq] at hp1
    obtain ⟨y, hyx⟩ : ∃ y, pre.getD (i - 1) [] = y := ⟨_, rfl⟩
    have hyo : AtomOk y := by rw [← hyx]; exact hpo.get (by omega)
    have hky := hyo.key
    have hV : folS pre x = keyLt (akey y) (akey x) := by rw [folS, decide_eq_false (by omega), Bool.false_or, hpl, hyx]
    refine q_on (yi (t := 36) rfl rfl) ?_
    refine q_go (fun w hS => s_move) ?_
    try simp only [opv, nZ, Value.cells]
    refine q_on (yi (t := 36) rfl rfl) ?_
    refine q_go (fun w hS => s_move) ?_
    try simp only [opv, nZ, Value.cells]
    refine q_on (yi (t := 36) rfl rfl) ?_
    refine q_go (fun w hS => s_sub (hc := by exact wr_i64 (by omega) (by omega))) ?_
    try simp only [opv, nZ, Value.cells]
    rw [show ((i : Int) - 1) = ((i - 1 : Nat) : Int) by omega]
    refine q_on (yi (t := 36) rfl rfl) ?_
    refine q_go (fun w hS => m_indexAddr_vec Tryz.underlying22 ti88 (hS := hS)) ?_
    try simp only [opv, nZ, Value.cells, Nat.mul_one, Nat.zero_add, Int.toNat_natCast, Int.reduceToNat]
    refine q_on (yi (t := 36) rfl rfl) ?_
    refine q_go (fun w hS => m_fieldAddr_vec Tryz.underlying88 (hi := ti83) (hS := hS)) ?_
    try simp only [opv, nZ, Value.cells, Nat.zero_add, Nat.add_zero, List.getElem_toArray, List.getElem_cons_zero, List.getElem_cons_succ]
    refine q_on (yi (t := 36) rfl rfl) ?_
    refine q_go (fun w hS => m_loada_vec Tryz.underlying83 (hi := ti83) (hS := hS) (hfit := by rw [arows_len]; omega)) ?_
    try simp only [opv, nZ, Value.cells, List.getElem_toArray, List.getElem_cons_zero, List.getElem_cons_succ]
    rw [arow_key (by omega) hpo, hyx]
    refine q_on (yi (t := 36) rfl rfl) ?_
    refine q_go (fun w hS => m_fieldAddr Tryz.underlying88 (hi := ti83)) ?_
    try simp only [opv, nZ, Value.cells, Nat.zero_add, Nat.add_zero, List.getElem_toArray, List.getElem_cons_zero, List.getElem_cons_succ]
    refine q_on (yi (t := 36) rfl rfl) ?_
    refine q_go (fun w hS => m_loada_obj Tryz.underlying83 (hi := ti83) (hS := hS) (hfit := by (rw [zi_size (by omega)]; decide))) ?_
    try simp only [opv, nZ, Value.cells, List.getElem_toArray, List.getElem_cons_zero, List.getElem_cons_succ]
    rw [atom_key hal]
    refine q_on (yi (t := 36) rfl rfl) ?_
    apply q_call en69
    case H =>
      intro w hS
      try simp only [opv, nZ, List.map_toArray, List.map_cons, List.map_nil, List.append_toArray, List.cons_append, List.nil_append, Array.append_empty]
      refine CallR.mono (c_ref08Less (akey y) (akey x) hky hkx _) ?_
      rintro _ w1 ⟨rfl, hE⟩; exact ⟨rfl, hS.ext hE⟩
    try simp only [opv, nZ, Value.cells]
    refine q_on (yi (t := 36) rfl rfl) ?_
    refine q_go (fun w hS => s_not) ?_
    try simp only [opv, nZ, Value.cells]
    refine q_go (fun w hS => s_pick_t) ?_
    try simp only [opv, nZ, Value.cells]
    clear hS
    refine q_nil fun w7 hS => ?_
    refine hK15 _ _ ?_
    refine x_cond (ht := fun hc3 => ?_) (hf := fun hc3 => ?_)
    ·
     try simp only [dZ, ne_eq, bne_iff_ne, beq_iff_eq] at hc3
     try have hol : ordL (decR bs).1 = false := ord_false (k := i) (by rw [← hfa, hV]; simpa using hc3) hat
     try have hE : decP bs = ([], 3) := by rw [decP, if_pos hol]
     refine x_seq fun K16 hK16 => ?_
     refine x_region ?_
     refine s_go (s_assign) ?_
     try simp only [opv, nZ, Value.cells]
     refine s_go (s_assign) ?_
     try simp only [opv, nZ, Value.cells]
     refine x_nil ?_
     refine hK16 _ _ ?_
     refine x_ret ?_
     refine r_tmp2 rfl ?_
     exact ⟨none, 0, by rw [hE]; rfl, by rw [hE]; exact (hS.nil_vec 88 21).sel (by repeat (first | exact Sel.nil | (refine Sel.cons (by repeat (exact Del.head)) ?_)))⟩
    ·
     try simp only [dZ, ne_eq, bne_iff_ne, beq_iff_eq] at hc3
     have hor2 : ordN (decR bs).1 (i + 1) = true := by rw [ordN, hor, ← hfa, hV]; simpa using hc3
     refine x_skip ?_
     refine hK14 _ _ ?_
     refine x_region ?_
     refine s_go (s_move) ?_
     try simp only [opv, nZ, Value.cells]
     refine s_go (m_load_row Tryz.underlying88 (hi := ti88) (hS := hS) (hfit := by (rw [zi_size (by omega)]; rfl))) ?_
     try simp only [opv, nZ, Value.cells, List.getElem_toArray, List.getElem_cons_zero, List.getElem_cons_succ]
     refine m_buildRow (cells := (AA x)) Tryz.underlying22 ti88 (hc := by simp only [List.map_toArray, List.map_cons, List.map_nil, opv, nZ, Value.cells, List.toList_toArray]; exact fill_one (by rfl) (zi_size21 hal) (by rfl)) (hS := hS) (h := fun w8 g8 hS => ?_)
     try simp only [opv, nZ, Value.cells, Array.toArray_toList] at hS ⊢
     replace hS := hS.obj_rd (sz := 21) (n := 1) (by exact zi_size21 hal) .head
     rw [arow_one hal] at hS
     refine m_append Tryz.underlying22 ti88 (hS := hS) (h1 := rowsZ_cells _ _) (h := fun w9 A9 C9 hS => ?_)
     try simp only [← List.map_append, ← List.map_drop, ← List.map_take, Nat.mul_one, Nat.zero_mul, Nat.sub_zero, List.drop_zero, List.nil_append, Nat.zero_add] at hS ⊢
     try simp only [opv, nZ, Value.cells, Array.toArray_toList] at hS ⊢
     rw [← rowsZ_app] at hS
     refine s_go (s_assign) ?_
     try simp only [opv, nZ, Value.cells]
     refine x_nil ?_
     refine hK9 _ _ ?_
     refine x_region ?_
     refine s_go (s_move) ?_
     try simp only [opv, nZ, Value.cells]
     refine s_go (s_add (hc := by exact wr_i64 (by omega) (by omega))) ?_
     try simp only [opv, nZ, Value.cells]
     refine s_go (s_assign) ?_
     try simp only [opv, nZ, Value.cells]
     refine x_nil ?_
     refine loop_back (m' := (numS 4096 0 bs).1 - (i + 1)) (by simp only [clob, List.foldl, nZ]) ?_ ?_
     · try simp only [opv, nZ, Value.cells]
       rw [show pre.length + 1 = (pre ++ [x]).length by simp] at hS ⊢
       exact ⟨i + 1, pre ++ [x], (atmS e1 xs1).2.1, A2, c2, (atmS e1 xs1).2.2, _, _, by omega, by omega, by rfl, by rfl, hcc2, by rw [← hxe]; exact hri.next (by omega) hok, hor2, hS.selA⟩
     · omega
   ·
    try simp only [n3, n4]
    try simp only [dZ, ne_eq] at hp1
    have hV : folS pre x = true := by rw [folS, decide_eq_true (by omega), Bool.true_or]
    refine q_off (yi (t := 36) rfl rfl) ?_
    try simp only [opv, nZ, Value.cells]
    refine q_off (yi (t := 36) rfl rfl) ?_
    try simp only [opv, nZ, Value.cells]
    refine q_off (yi (t := 36) rfl rfl) ?_
    try simp only [opv, nZ, Value.cells]
    refine q_off (yi (t := 36) rfl rfl) ?_
    try simp only [opv, nZ, Value.cells]
    refine q_off (yi (t := 36) rfl rfl) ?_
    try simp only [opv, nZ, Value.cells]
    refine q_off (yi (t := 36) rfl rfl) ?_
    try simp only [opv, nZ, Value.cells]
    refine q_off (yi (t := 36) rfl rfl) ?_
    try simp only [opv, nZ, Value.cells]
    refine q_off (yi (t := 36) rfl rfl) ?_
    try simp only [opv, nZ, Value.cells]
    refine q_off (yi (t := 36) rfl rfl) ?_
    try simp only [opv, nZ, Value.cells]
    refine q_off (yi (t := 36) rfl rfl) ?_
    try simp only [opv, nZ, Value.cells]
    refine q_go (fun w hS => s_pick_f) ?_
    try simp only [opv, nZ, Value.cells]
    clear hS
    refine q_nil fun w10 hS => ?_
    refine hK15 _ _ ?_
    refine x_cond_f (h := ?_)
    have hor2 : ordN (decR bs).1 (i + 1) = true := by rw [ordN, hor, ← hfa, hV]; rfl
    refine x_skip ?_
    refine hK14 _ _ ?_
    refine x_region ?_
    refine s_go (s_move) ?_
    try simp only [opv, nZ, Value.cells]
    refine s_go (m_load_row Tryz.underlying88 (hi := ti88) (hS := hS) (hfit := by (rw [zi_size (by omega)]; rfl))) ?_
    try simp only [opv, nZ, Value.cells, List.getElem_toArray, List.getElem_cons_zero, List.getElem_cons_succ]
    refine m_buildRow (cells := (AA x)) Tryz.underlying22 ti88 (hc := by simp only [List.map_toArray, List.map_cons, List.map_nil, opv, nZ, Value.cells, List.toList_toArray]; exact fill_one (by rfl) (zi_size21 hal) (by rfl)) (hS := hS) (h := fun w11 g11 hS => ?_)
    try simp only [opv, nZ, Value.cells, Array.toArray_toList] at hS ⊢
    replace hS := hS.obj_rd (sz := 21) (n := 1) (by exact zi_size21 hal) .head
    rw [arow_one hal] at hS
    refine m_append Tryz.underlying22 ti88 (hS := hS) (h1 := rowsZ_cells _ _) (h := fun w12 A12 C12 hS => ?_)
    try simp only [← List.map_append, ← List.map_drop, ← List.map_take, Nat.mul_one, Nat.zero_mul, Nat.sub_zero, List.drop_zero, List.nil_append, Nat.zero_add] at hS ⊢
    try simp only [opv, nZ, Value.cells, Array.toArray_toList] at hS ⊢
    rw [← rowsZ_app] at hS
    refine s_go (s_assign) ?_
    try simp only [opv, nZ, Value.cells]
    refine x_nil ?_
    refine hK9 _ _ ?_
    refine x_region ?_
    refine s_go (s_move) ?_
    try simp only [opv, nZ, Value.cells]
    refine s_go (s_add (hc := by exact wr_i64 (by omega) (by omega))) ?_
    try simp only [opv, nZ, Value.cells]
    refine s_go (s_assign) ?_
    try simp only [opv, nZ, Value.cells]
    refine x_nil ?_
    refine loop_back (m' := (numS 4096 0 bs).1 - (i + 1)) (by simp only [clob, List.foldl, nZ]) ?_ ?_
    · try simp only [opv, nZ, Value.cells]
      rw [show pre.length + 1 = (pre ++ [x]).length by simp] at hS ⊢
      exact ⟨i + 1, pre ++ [x], (atmS e1 xs1).2.1, A2, c2, (atmS e1 xs1).2.2, _, _, by omega, by omega, by rfl, by rfl, hcc2, by rw [← hxe]; exact hri.next (by omega) hok, hor2, hS.selA⟩
    · omega
 ·
  try simp only [dZ, ne_eq, bne_iff_ne, beq_iff_eq] at hc1
  have hdn : decR bs = (pre, e1, xs1) := hri.done (by omega)
  have hfd := finE_done hri.eo
  have hoL : ¬ ordL (decR bs).1 = false := by rw [ordL, hdn]; rw [hdn] at hor; rw [show (pre, e1, xs1).1.length = i from hpl, hor]; decide
  refine x_exit (look_here ?_)
  refine hK5 _ _ ?_
  refine x_seq fun K17 hK17 => ?_
  refine x_seq fun K18 hK18 => ?_
  refine x_region ?_
  refine s_go (s_move) ?_
  try simp only [opv, nZ, Value.cells]
  refine s_call en92 ?_
  try simp only [opv, nZ, Value.cells, List.map_toArray, List.map_cons, List.map_nil, List.append_toArray, List.cons_append, List.nil_append, Array.append_empty]
  refine CallR.mono (c_ref07Done _ g e1 A1 ce xs1 hce (hS.owns (by repeat (first | exact Spl.nil | (apply Spl.cons (by repeat (exact Del.head))))))) ?_
  rintro _ w13 ⟨rfl, hC13⟩
  replace hS := hS.frame (by repeat (first | exact Spl.nil | (apply Spl.cons (by repeat (exact Del.head))))) hC13 (by intro r hr g hg; simp only [List.mem_cons, List.not_mem_nil, or_false] at hr; rcases hr with rfl | rfl | rfl <;> first | (simp [Res.reads] at hg; done) | exact .inr ⟨_, by simp, .inr hg⟩)
  simp only [List.cons_append, List.nil_append] at hS
  try simp only [opv, nZ, Value.cells]
  rw [hfd]
  refine s_go (s_assign) ?_
  try simp only [opv, nZ, Value.cells]
  refine x_nil ?_
  refine hK18 _ _ ?_
  refine x_seq fun K19 hK19 => ?_
  refine x_region ?_
  refine s_go (s_move) ?_
  try simp only [opv, nZ, Value.cells]
  refine s_go (s_neq) ?_
  try simp only [opv, nZ, Value.cells]
  refine x_nil ?_
  refine hK19 _ _ ?_
  refine x_cond (ht := fun hc5 => ?_) (hf := fun hc5 => ?_)
  ·
   try simp only [dZ, ne_eq, bne_iff_ne, beq_iff_eq] at hc5
   have hE : decP bs = ([], finE (e1, xs1)) := by rw [decP, if_neg hoL, hdn, if_neg hc5]
   refine x_seq fun K20 hK20 => ?_
   refine x_region ?_
   refine s_go (s_move) ?_
   try simp only [opv, nZ, Value.cells]
   refine s_go (s_assign) ?_
   try simp only [opv, nZ, Value.cells]
   refine s_go (s_assign) ?_
   try simp only [opv, nZ, Value.cells]
   refine x_nil ?_
   refine hK20 _ _ ?_
   refine x_ret ?_
   refine r_tmp2 rfl ?_
   exact ⟨none, 0, by rw [hE]; rfl, by rw [hE]; exact (hS.nil_vec 88 21).sel (by repeat (first | exact Sel.nil | (refine Sel.cons (by repeat (exact Del.head)) ?_)))⟩
  ·
   try simp only [dZ, ne_eq, bne_iff_ne, beq_iff_eq] at hc5
   have hE : decP bs = (pre, 0) := by rw [decP, if_neg hoL, hdn, if_pos hc5]
   refine x_skip ?_
   refine hK17 _ _ ?_
   refine x_seq fun K21 hK21 => ?_
   refine x_region ?_
   refine s_go (s_move) ?_
   try simp only [opv, nZ, Value.cells]
   refine s_go (s_assign) ?_
   try simp only [opv, nZ, Value.cells]
   refine s_go (s_assign) ?_
   try simp only [opv, nZ, Value.cells]
   refine x_nil ?_
   refine hK21 _ _ ?_
   refine x_ret ?_
   refine r_tmp2 rfl ?_
   rw [hE]
   exact ⟨_, _, rfl, hS.selA⟩
end Go.Proofs.YtffmanidnlbjjaaGreat
