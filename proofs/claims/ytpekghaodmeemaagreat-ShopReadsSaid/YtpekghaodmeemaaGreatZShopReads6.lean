/- Rules, plain words and walks that the claim leans on: Sd, Se, Sf, Vpz, Vv, Ot, Sp, Sq, Sr, Pt, Ss, Sv. -/
import Derived.Test.YtpekghaodmeemaaGreatZShopReads5
set_option linter.unusedSimpArgs false
set_option linter.unusedVariables false
set_option linter.unusedSimpArgs false
set_option linter.unusedVariables false
set_option maxHeartbeats 2000000
set_option maxRecDepth 100000
namespace Go.Proofs.YtpekghaodmeemaaGreat
open Go.RowKit

theorem qty_yes {l : List (List Int)} {c : Nat} {it : List Int} (h : qtyB l c it = true) : qtyN l c it = max (totL (normP l) c it) 0 := by rw [qtyN, if_pos h]
theorem qty_no {l : List (List Int)} {c : Nat} {it : List Int} (h : qtyB l c it = false) : qtyN l c it = 0 := by rw [qtyN, if_neg (by rw [h]; decide)]

theorem c_cartQuantity (w0 : World) (A : Option Addr) (c : Nat) (l : List (List Int)) (hr : Rd w0 A 21 l.length (arows l)) (hv : AOks l) (hn : l.length ≤ 1000000000) (ct : Nat) (hct : ct < 65536) (it : List Int) (h8 : it.length = 8)  :
    CallR Tryz.prog 42 #[.slice A l.length c, .int .u16 (ct : Int), .agg (ic .u8 it)] w0 fun v w' => v = .tuple #[.int .i64 (qtyN l ct it), .bool (qtyB l ct it)] ∧ Ext w0 w' := by
 have hS := St.rd1 (S := NoB) hr
 have htb := tot_b hv hn ct it
 refine c_enter (l := [.slice A l.length c, .int .u16 (ct : Int), .agg (ic .u8 it), undef, undef, undef, undef, undef, undef, undef, undef, undef, undef, undef, undef, undef, undef, undef]) Tryz.func42 rfl (by simp only [Tryz.ntmps42, List.size_toArray, List.length_cons, List.length_nil, Nat.reduceAdd, Nat.reduceSub, Array.replicate_succ, Array.replicate_zero, List.push_toArray, List.append_toArray, List.nil_append, List.cons_append]) ?_
 refine x_seq fun K1 hK1 => x_region ?_
 refine m_box hS (fun w1 g1 hS => ?_)
 try simp only [nY, aY] at hS ⊢
 refine s_go s_assign ?_
 try simp only [nY]
 refine s_go s_assign ?_
 try simp only [nY]
 refine x_nil (hK1 _ _ ?_)
 refine x_seq fun K2 hK2 => ?_
 refine x_seq fun K3 hK3 => x_region ?_
 refine s_go s_move ?_
 try simp only [nY]
 refine s_go s_move ?_
 try simp only [nY]
 refine s_go (m_load_row U25 (hi := ti25) (hS := hS) (hfit := by (simp only [ic_size, List.length_map, List.size_toArray]; omega))) ?_
 try simp only [nY, gY]
 refine s_call en34 ?_
 try simp only [nY, mY]
 refine CallR.mono (c_tagsPresent _ A c l (hS.hasA) hv hn ct hct it h8) ?_
 rintro _ w2 ⟨rfl, hE2⟩
 replace hS := hS.ext hE2
 try simp only [nY]
 rw [show decide (0 < (((tagS (normP l) ct it 1).map akey).length : Int)) = qtyB l ct it by rw [qtyB]; exact decide_eq_decide.2 (by omega)]
 refine s_go s_not ?_
 try simp only [nY]
 refine x_nil (hK3 _ _ ?_)
 refine x_cond (ht := fun hc1 => ?_) (hf := fun hc1 => ?_)
 ·
  try simp only [dY] at hc1
  have hQ : qtyB l ct it = false := by simpa using hc1
  refine x_seq fun K4 hK4 => x_region ?_
  refine s_go s_assign ?_
  try simp only [nY]
  refine s_go s_assign ?_
  try simp only [nY]
  refine x_nil (hK4 _ _ ?_)
  refine x_ret (r_tmp2 rfl ?_)
  exact ⟨by rw [hQ, qty_no hQ]; rfl, hS.ext_of⟩
 try simp only [dY] at hc1
 have hQ : qtyB l ct it = true := by simpa using hc1
 refine x_skip ?_
 refine hK2 _ _ ?_
 refine x_seq fun K5 hK5 => x_region ?_
 refine s_go s_move ?_
 try simp only [nY]
 refine s_go s_move ?_
 try simp only [nY]
 refine s_go (m_load_row U25 (hi := ti25) (hS := hS) (hfit := by (simp only [ic_size, List.length_map, List.size_toArray]; omega))) ?_
 try simp only [nY, gY]
 refine s_call en43 ?_
 try simp only [nY, mY]
 refine CallR.mono (c_countTotal _ A c l (hS.hasA) hv hn ct hct it h8) ?_
 rintro _ w3 ⟨rfl, hE3⟩
 replace hS := hS.ext hE3
 try simp only [nY]
 refine s_go s_max ?_
 try simp only [nY]
 refine s_go s_assign ?_
 try simp only [nY]
 refine s_go s_assign ?_
 try simp only [nY]
 refine x_nil (hK5 _ _ ?_)
 refine x_ret (r_tmp2 rfl ?_)
 exact ⟨by rw [hQ, qty_yes hQ]; rfl, hS.ext_of⟩
theorem c_ref17Quantity (w0 : World) (A : Option Addr) (c : Nat) (l : List (List Int)) (hr : Rd w0 A 21 l.length (arows l)) (hv : AOks l) (hn : l.length ≤ 1000000000) (ct : Nat) (hct : ct < 65536) (it : List Int) (h8 : it.length = 8) (hbt : Byt it)  :
    CallR Tryz.prog 22 #[.slice A l.length c, .int .u16 (ct : Int), .agg (ic .u8 it)] w0 fun v w' => v = .tuple #[.int .i64 (qtyN l ct it), .bool (qtyB l ct it)] ∧ Ext w0 w' := by
 have hS := St.rd1 (S := NoB) hr
 have htb := tot_b hv hn ct it
 refine c_enter (l := [.slice A l.length c, .int .u16 (ct : Int), .agg (ic .u8 it), undef, undef, undef, undef, undef, undef, undef, undef, undef, undef, undef, undef, undef, undef, undef, undef]) Tryz.func22 rfl (by simp only [Tryz.ntmps22, List.size_toArray, List.length_cons, List.length_nil, Nat.reduceAdd, Nat.reduceSub, Array.replicate_succ, Array.replicate_zero, List.push_toArray, List.append_toArray, List.nil_append, List.cons_append]) ?_
 refine x_seq fun K1 hK1 => x_region ?_
 refine m_box hS (fun w1 g1 hS => ?_)
 try simp only [nY, aY] at hS ⊢
 refine s_go s_assign ?_
 try simp only [nY]
 refine s_go s_assign ?_
 try simp only [nY]
 refine x_nil (hK1 _ _ ?_)
 refine x_seq fun K2 hK2 => ?_
 refine x_seq fun K3 hK3 => x_region ?_
 refine s_go s_move ?_
 try simp only [nY]
 refine s_go s_move ?_
 try simp only [nY]
 refine s_go (m_load_row U25 (hi := ti25) (hS := hS) (hfit := by (simp only [ic_size, List.length_map, List.size_toArray]; omega))) ?_
 try simp only [nY, gY]
 refine s_call en21 ?_
 try simp only [nY, mY]
 refine CallR.mono (c_ref14Live _ A c l (hS.hasA) hv hn ct hct it h8) ?_
 rintro _ w2 ⟨Ol, ol, rfl, hC2⟩
 replace hS := hS.call hC2
 simp only [List.cons_append, List.nil_append] at hS
 try simp only [nY]
 refine s_go (s_len_sl U47) ?_
 try simp only [nY]
 refine s_go s_eql ?_
 try simp only [nY]
 refine x_nil (hK3 _ _ ?_)
 refine x_cond (ht := fun hc1 => ?_) (hf := fun hc1 => ?_)
 ·
  try simp only [dY] at hc1
  have hQ : qtyB l ct it = false := decide_eq_false (by omega)
  refine x_seq fun K4 hK4 => x_region ?_
  refine s_go s_assign ?_
  try simp only [nY]
  refine s_go s_assign ?_
  try simp only [nY]
  refine x_nil (hK4 _ _ ?_)
  refine x_ret (r_tmp2 rfl ?_)
  exact ⟨by rw [hQ, qty_no hQ]; rfl, hS.ext_of⟩
 try simp only [dY] at hc1
 have hQ : qtyB l ct it = true := decide_eq_true (by omega)
 refine x_skip ?_
 refine hK2 _ _ ?_
 refine x_seq fun K5 hK5 => x_region ?_
 refine s_go s_move ?_
 try simp only [nY]
 refine s_go s_move ?_
 try simp only [nY]
 refine s_go (m_load_row U25 (hi := ti25) (hS := hS) (hfit := by (simp only [ic_size, List.length_map, List.size_toArray]; omega))) ?_
 try simp only [nY, gY]
 refine s_call en20 ?_
 try simp only [nY, mY]
 refine CallR.mono (c_ref15Total _ A c l (hS.hasA) hv hn ct hct it h8 hbt) ?_
 rintro _ w3 ⟨rfl, hE3⟩
 replace hS := hS.ext hE3
 try simp only [nY]
 refine s_go s_max ?_
 try simp only [nY]
 refine s_go s_assign ?_
 try simp only [nY]
 refine s_go s_assign ?_
 try simp only [nY]
 refine x_nil (hK5 _ _ ?_)
 refine x_ret (r_tmp2 rfl ?_)
 exact ⟨by rw [hQ, qty_yes hQ]; rfl, hS.ext_of⟩
end Go.Proofs.YtpekghaodmeemaaGreat
set_option linter.unusedSimpArgs false
set_option linter.unusedVariables false
set_option maxHeartbeats 2000000
set_option maxRecDepth 100000
namespace Go.Proofs.YtpekghaodmeemaaGreat
open Go.RowKit

abbrev opKs : List IntKind := [.i64, .u16, .u8, .u8, .u8, .u8, .u8, .u8, .u8, .u8, .i64, .u8, .u8, .u8, .u8, .u8, .u8, .u8, .u8]
abbrev OA (x : List Int) : Array Value := (zi opKs x).toArray
def opK (x : List Int) : Int := x.getD 0 0
def opN (x : List Int) : Int := x.getD 10 0
def opT (x : List Int) : List Int := (x.drop 11).take 8
structure OpOk (x : List Int) : Prop where
  len : x.length = 19
  k1 : -9223372036854775808 ≤ opK x
  k2 : opK x ≤ 9223372036854775807
  e1 : x.getD 1 0 = (kn x 1 : Int)
  b1 : kn x 1 < 65536
  item : Byt (kitem x)
  m1 : -9223372036854775808 ≤ opN x
  m2 : opN x ≤ 9223372036854775807
  text : Byt (opT x)
theorem op_il {x : List Int} (h : x.length = 19) : (kitem x).length = 8 := by simp [kitem, h]
theorem op_tl {x : List Int} (h : x.length = 19) : (opT x).length = 8 := by simp [opT, h]
theorem op_size {x : List Int} (h : x.length = 19) : (OA x).size = 19 := by simpa using zi_len (ks := opKs) (by simpa using h)
theorem op_llen {x : List Int} (h : x.length = 19) : (zi opKs x).length = 19 := by simpa using zi_len (ks := opKs) (by simpa using h)
theorem op_item {x : List Int} (h : x.length = 19) : (((OA x).toList.drop 2).take 8).toArray = ic .u8 (kitem x) := by
  match x, h with
  | [_, _, _, _, _, _, _, _, _, _, _, _, _, _, _, _, _, _, _], _ => rfl
theorem op_text {x : List Int} (h : x.length = 19) : (((OA x).toList.drop 11).take 8).toArray = ic .u8 (opT x) := by
  match x, h with
  | [_, _, _, _, _, _, _, _, _, _, _, _, _, _, _, _, _, _, _], _ => rfl
def opE (x : List Int) : Int :=
  if opK x < 1 ∨ 5 < opK x then 14 else
  if opK x ≤ 3 ∧ nright (kitem x) = false then 1 else
  if (opK x = 1 ∨ opK x = 3) ∧ (opN x < 0 ∨ 4294967295 < opN x) then 1 else
  if opK x = 4 ∧ ¬ opT x = nm0 ∧ nright (opT x) = false then 1 else 0
section
variable {x : List Int}
theorem opE_14 (h : opK x < 1 ∨ 5 < opK x) : opE x = 14 := by rw [opE, if_pos h]
theorem opE_a (h : 1 ≤ opK x ∧ opK x ≤ 5) (h2 : (opK x ≤ 3 ∧ nright (kitem x) = false) ∨ ((opK x = 1 ∨ opK x = 3) ∧ (opN x < 0 ∨ 4294967295 < opN x)) ∨ (opK x = 4 ∧ ¬ opT x = nm0 ∧ nright (opT x) = false)) : opE x = 1 := by
  rw [opE, if_neg (by omega)]
  by_cases h3 : opK x ≤ 3 ∧ nright (kitem x) = false
  · rw [if_pos h3]
  · rw [if_neg h3]
    by_cases h4 : (opK x = 1 ∨ opK x = 3) ∧ (opN x < 0 ∨ 4294967295 < opN x)
    · rw [if_pos h4]
    · rw [if_neg h4, if_pos (h2.resolve_left h3 |>.resolve_left h4)]
theorem opE_0 (h : 1 ≤ opK x ∧ opK x ≤ 5) (h1 : opK x ≤ 3 → nright (kitem x) = true) (h2 : ¬ ((opK x = 1 ∨ opK x = 3) ∧ (opN x < 0 ∨ 4294967295 < opN x))) (h3 : opK x = 4 → opT x = nm0 ∨ nright (opT x) = true) : opE x = 0 := by
  rw [opE, if_neg (by omega), if_neg (fun q => by have := h1 q.1; rw [q.2] at this; cases this), if_neg h2, if_neg (fun q => by
    rcases h3 q.1 with h | h
    · exact q.2.1 h
    · rw [q.2.2] at h; cases h)]
theorem opE_ok (h : opE x = 0) : (1 ≤ opK x ∧ opK x ≤ 5) ∧ (opK x ≤ 3 → nright (kitem x) = true) ∧ ((opK x = 1 ∨ opK x = 3) → 0 ≤ opN x ∧ opN x ≤ 4294967295) ∧ (opK x = 4 → opT x = nm0 ∨ nright (opT x) = true) := by
  unfold opE at h
  split at h
  · cases h
  · next h1 =>
    split at h
    · cases h
    · next h2 =>
      split at h
      · cases h
      · next h3 =>
        split at h
        · cases h
        · next h4 =>
          refine ⟨by omega, fun q => ?_, fun q => by omega, fun q => ?_⟩
          · cases e : nright (kitem x)
            · exact absurd ⟨q, e⟩ h2
            · rfl
          · by_cases e1 : opT x = nm0
            · exact .inl e1
            · right
              cases e : nright (opT x)
              · exact absurd ⟨q, e1, e⟩ h4
              · rfl
end
def amtN (l : List (List Int)) (x : List Int) : Int :=
  if ¬ opE x = 0 then 0 else
  if opK x = 1 then opN x else
  if qtyB l (kn x 1) (kitem x) = true ∧ opK x = 2 then -(qtyN l (kn x 1) (kitem x)) else
  if qtyB l (kn x 1) (kitem x) = true ∧ opK x = 3 then opN x - totL (normP l) (kn x 1) (kitem x) else 0

theorem c_shopRight (x : List Int) (hx : OpOk x)  (w0 : World) :
    CallR Tryz.prog 16 #[.agg (OA x)] w0 fun v w' => v = .int .i64 (opE x) ∧ Ext w0 w' := by
 have hS : St NoB w0 w0 [] := St.start w0
 have hxl := hx.len
 have hil := op_il hxl
 have htl := op_tl hxl
 have hk1 := hx.k1
 have hk2 := hx.k2
 have hm1 := hx.m1
 have hm2 := hx.m2
 have hbi := hx.item
 have hbt := hx.text
 have hcx := hx.b1
 refine c_enter (l := [.agg (OA x), undef, undef, undef, undef, undef, undef, undef, undef, undef, undef, undef, undef, undef, undef, undef, undef, undef, undef, undef, undef, undef, undef, undef, undef, undef, undef, undef, undef, undef, undef, undef, undef, undef, undef, undef, undef, undef, undef, undef, undef, undef, undef, undef, undef, undef, undef, undef, undef, undef, undef, undef, undef, undef, undef, undef, undef, undef, undef, undef, undef, undef, undef]) Tryz.func16 rfl (by simp only [Tryz.ntmps16, List.size_toArray, List.length_cons, List.length_nil, Nat.reduceAdd, Nat.reduceSub, Array.replicate_succ, Array.replicate_zero, List.push_toArray, List.append_toArray, List.nil_append, List.cons_append]) ?_
 refine x_seq fun K1 hK1 => x_region ?_
 refine m_box hS (fun w1 g1 hS => ?_)
 try simp only [nY, aY] at hS ⊢
 refine s_go s_assign ?_
 try simp only [nY]
 refine x_nil (hK1 _ _ ?_)
 refine x_seq fun K2 hK2 => x_region ?_
 refine s_go (m_fieldAddr U27 (hi := ti3)) ?_
 try simp only [nY, fY, gY]
 refine s_go (m_load_obj U3 (hS := hS) (hv := by exact zi_get rfl (by omega))) ?_
 try simp only [nY, gY]
 rw [show x.getD 0 0 = opK x from rfl]
 refine s_go s_geq ?_
 try simp only [nY]
 refine s_go s_move ?_
 try simp only [nY]
 refine s_part 8 rfl (fun hp1 => ?_) (fun hp1 => ?_)
 ·
  try simp only [n3, n4]
  try simp only [dZ, ne_eq] at hp1
  refine g_on (yi (t := 8) rfl rfl) ?_
  refine s_go (m_fieldAddr U27 (hi := ti3)) ?_
  try simp only [nY, fY, gY]
  refine g_on (yi (t := 8) rfl rfl) ?_
  refine s_go (m_load_obj U3 (hS := hS) (hv := by exact zi_get rfl (by omega))) ?_
  try simp only [nY, gY]
  rw [show x.getD 0 0 = opK x from rfl]
  refine g_on (yi (t := 8) rfl rfl) ?_
  refine s_go s_leq ?_
  try simp only [nY]
  refine s_go s_pick_t ?_
  try simp only [nY]
  refine s_go s_assign ?_
  try simp only [nY]
  refine x_nil (hK2 _ _ ?_)
  refine x_seq fun K3 hK3 => x_region ?_
  refine s_go (m_fieldAddr U27 (hi := ti3)) ?_
  try simp only [nY, fY, gY]
  refine s_go (m_load_obj U3 (hS := hS) (hv := by exact zi_get rfl (by omega))) ?_
  try simp only [nY, gY]
  rw [show x.getD 0 0 = opK x from rfl]
  refine s_go s_eql ?_
  try simp only [nY]
  refine s_go s_move ?_
  try simp only [nY]
  refine s_part 16 rfl (fun hp2 => ?_) (fun hp2 => ?_)
  ·
   try simp only [n3, n4]
   try simp only [dZ, ne_eq] at hp2
   refine g_off (yi (t := 16) rfl rfl) ?_
   try simp only [nY]
   refine g_off (yi (t := 16) rfl rfl) ?_
   try simp only [nY]
   refine g_off (yi (t := 16) rfl rfl) ?_
   try simp only [nY]
   refine s_go s_pick_t ?_
   try simp only [nY]
   refine s_go s_assign ?_
   try simp only [nY]
   refine x_nil (hK3 _ _ ?_)
   refine x_seq fun K4 hK4 => ?_
   refine x_block ?_
   refine x_seq fun K5 hK5 => x_region ?_
   refine s_go (m_fieldAddr U27 (hi := ti3)) ?_
   try simp only [nY, fY, gY]
   refine s_go (m_load_obj U3 (hS := hS) (hv := by exact zi_get rfl (by omega))) ?_
   try simp only [nY, gY]
   rw [show x.getD 0 0 = opK x from rfl]
   refine s_go s_lss ?_
   try simp only [nY]
   refine s_go s_move ?_
   try simp only [nY]
   refine s_part 25 rfl (fun hp3 => ?_) (fun hp3 => ?_)
   ·
    try simp only [n3, n4]
    try simp only [dZ, ne_eq] at hp3
    (exfalso; omega)
   try simp only [n3, n4]
   try simp only [dZ, ne_eq] at hp3
   refine g_on (yi (t := 25) rfl rfl) ?_
   refine s_go (m_fieldAddr U27 (hi := ti3)) ?_
   try simp only [nY, fY, gY]
   refine g_on (yi (t := 25) rfl rfl) ?_
   refine s_go (m_load_obj U3 (hS := hS) (hv := by exact zi_get rfl (by omega))) ?_
   try simp only [nY, gY]
   rw [show x.getD 0 0 = opK x from rfl]
   refine g_on (yi (t := 25) rfl rfl) ?_
   refine s_go s_gtr ?_
   try simp only [nY]
   refine s_go s_pick_f ?_
   try simp only [nY]
   refine s_go s_assign ?_
   try simp only [nY]
   refine x_nil (hK5 _ _ ?_)
   refine x_cond (ht := fun hc2 => ?_) (hf := fun hc2 => ?_)
   ·
    try simp only [dY] at hc2
    (exfalso; omega)
   try simp only [dY] at hc2
   refine x_seq fun K8 hK8 => ?_
   refine x_seq fun K9 hK9 => x_region ?_
   refine s_go s_move ?_
   try simp only [nY]
   refine s_go s_move ?_
   try simp only [nY]
   refine s_part 32 rfl (fun hp4 => ?_) (fun hp4 => ?_)
   ·
    try simp only [n3, n4]
    try simp only [dZ, ne_eq] at hp4
    refine g_on (yi (t := 32) rfl rfl) ?_
    refine s_go (m_fieldAddr U27 (hi := ti25)) ?_
    try simp only [nY, fY, gY]
    refine g_on (yi (t := 32) rfl rfl) ?_
    refine s_go (m_loada_obj U25 (hi := ti25) (hS := hS) (hfit := by (rw [zi_size (by omega)]; decide))) ?_
    try simp only [nY, gY]
    rw [op_item hxl]
    refine g_on (yi (t := 32) rfl rfl) ?_
    refine s_call en39 ?_
    try simp only [nY, mY]
    refine CallR.mono (c_nameRight (kitem x) hil hbi _) ?_
    rintro _ w2 ⟨rfl, hE2⟩
    replace hS := hS.ext hE2
    try simp only [nY]
    refine g_on (yi (t := 32) rfl rfl) ?_
    refine s_go s_not ?_
    try simp only [nY]
    refine s_go s_pick_t ?_
    try simp only [nY]
    refine s_go s_assign ?_
    try simp only [nY]
    refine x_nil (hK9 _ _ ?_)
    refine x_cond (ht := fun hc3 => ?_) (hf := fun hc3 => ?_)
    ·
     try simp only [dY] at hc3
     try have hRb : nright (kitem x) = false := by simpa using hc3
     try have hTb : nright (opT x) = false := by simpa using hc3
     refine x_skip ?_
     refine hK8 _ _ ?_
     refine x_cond (ht := fun hc4 => ?_) (hf := fun hc4 => ?_)
     ·
      try simp only [dY] at hc4
      try have hRb : nright (kitem x) = false := by simpa using hc4
      try have hTb : nright (opT x) = false := by simpa using hc4
      refine x_seq fun K10 hK10 => x_region ?_
      refine s_go s_assign ?_
      try simp only [nY]
      refine x_nil (hK10 _ _ ?_)
      refine x_ret (r_tmp rfl ?_)
      exact ⟨congrArg (Value.int .i64) (opE_a (by omega) (by exact .inl ⟨by omega, hRb⟩)).symm, hS.ext_of⟩
     try simp only [dY] at hc4
     try have hRa : nright (kitem x) = true := by simpa using hc4
     try have hTa : nright (opT x) = true := by simpa using hc4
     refine x_skip ?_
     refine hK4 _ _ ?_
     refine x_seq fun K11 hK11 => x_region ?_
     refine s_go s_assign ?_
     try simp only [nY]
     refine x_nil (hK11 _ _ ?_)
     refine x_ret (r_tmp rfl ?_)
     (exfalso; simp_all; done)
    try simp only [dY] at hc3
    try have hRa : nright (kitem x) = true := by simpa using hc3
    try have hTa : nright (opT x) = true := by simpa using hc3
    refine x_seq fun K12 hK12 => x_region ?_
    refine s_go s_move ?_
    try simp only [nY]
    refine s_go s_move ?_
    try simp only [nY]
    refine g_on (yi (t := 39) rfl rfl) ?_
    refine s_go (m_fieldAddr U27 (hi := ti3)) ?_
    try simp only [nY, fY, gY]
    refine g_on (yi (t := 39) rfl rfl) ?_
    refine s_go (m_load_obj U3 (hS := hS) (hv := by exact zi_get rfl (by omega))) ?_
    try simp only [nY, gY]
    rw [show x.getD 10 0 = opN x from rfl]
    refine g_on (yi (t := 39) rfl rfl) ?_
    refine s_go s_lss ?_
    try simp only [nY]
    refine g_on (yi (t := 39) rfl rfl) ?_
    refine s_go s_move ?_
    try simp only [nY]
    refine s_part 43 rfl (fun hp5 => ?_) (fun hp5 => ?_)
    ·
     try simp only [n3, n4]
     try simp only [dZ, ne_eq] at hp5
     refine g_off (yi (t := 43) rfl rfl) ?_
     try simp only [nY]
     refine g_off (yi (t := 43) rfl rfl) ?_
     try simp only [nY]
     refine g_off (yi (t := 43) rfl rfl) ?_
     try simp only [nY]
     refine g_on (yi (t := 39) rfl rfl) ?_
     refine s_go s_pick_t ?_
     try simp only [nY]
     refine s_go s_pick_t ?_
     try simp only [nY]
     refine s_go s_assign ?_
     try simp only [nY]
     refine x_nil (hK12 _ _ ?_)
     refine x_cond_t (h := ?_)
     try have hRb : nright (kitem x) = false := by simpa using @c
     try have hTb : nright (opT x) = false := by simpa using @c
     refine x_skip ?_
     refine hK8 _ _ ?_
     refine x_cond_t (h := ?_)
     try have hRb : nright (kitem x) = false := by simpa using @c
     try have hTb : nright (opT x) = false := by simpa using @c
     refine x_seq fun K13 hK13 => x_region ?_
     refine s_go s_assign ?_
     try simp only [nY]
     refine x_nil (hK13 _ _ ?_)
     refine x_ret (r_tmp rfl ?_)
     exact ⟨congrArg (Value.int .i64) (opE_a (by omega) (by exact .inr (.inl ⟨by omega, by omega⟩))).symm, hS.ext_of⟩
    try simp only [n3, n4]
    try simp only [dZ, ne_eq] at hp5
    refine g_on (yi (t := 43) rfl rfl) ?_
    refine s_go (m_fieldAddr U27 (hi := ti3)) ?_
    try simp only [nY, fY, gY]
    refine g_on (yi (t := 43) rfl rfl) ?_
    refine s_go (m_load_obj U3 (hS := hS) (hv := by exact zi_get rfl (by omega))) ?_
    try simp only [nY, gY]
    rw [show x.getD 10 0 = opN x from rfl]
    refine g_on (yi (t := 43) rfl rfl) ?_
    refine s_go s_gtr ?_
    try simp only [nY]
    refine g_on (yi (t := 39) rfl rfl) ?_
    refine s_go s_pick_f ?_
    try simp only [nY]
    refine s_go s_pick_t ?_
    try simp only [nY]
    refine s_go s_assign ?_
    try simp only [nY]
    refine x_nil (hK12 _ _ ?_)
    refine x_cond (ht := fun hc7 => ?_) (hf := fun hc7 => ?_)
    ·
     try simp only [dY] at hc7
     try have hRb : nright (kitem x) = false := by simpa using hc7
     try have hTb : nright (opT x) = false := by simpa using hc7
     refine x_skip ?_
     refine hK8 _ _ ?_
     refine x_cond (ht := fun hc8 => ?_) (hf := fun hc8 => ?_)
     ·
      try simp only [dY] at hc8
      try have hRb : nright (kitem x) = false := by simpa using hc8
      try have hTb : nright (opT x) = false := by simpa using hc8
      refine x_seq fun K14 hK14 => x_region ?_
      refine s_go s_assign ?_
      try simp only [nY]
      refine x_nil (hK14 _ _ ?_)
      refine x_ret (r_tmp rfl ?_)
      exact ⟨congrArg (Value.int .i64) (opE_a (by omega) (by exact .inr (.inl ⟨by omega, by omega⟩))).symm, hS.ext_of⟩
     try simp only [dY] at hc8
     (exfalso; omega)
    try simp only [dY] at hc7
    try have hRa : nright (kitem x) = true := by simpa using hc7
    try have hTa : nright (opT x) = true := by simpa using hc7
    refine x_region ?_
    refine s_go (m_fieldAddr U27 (hi := ti3)) ?_
    try simp only [nY, fY, gY]
    refine s_go (m_load_obj U3 (hS := hS) (hv := by exact zi_get rfl (by omega))) ?_
    try simp only [nY, gY]
    rw [show x.getD 0 0 = opK x from rfl]
    refine s_go s_eql ?_
    try simp only [nY]
    refine s_go s_move ?_
    try simp only [nY]
    refine s_part 52 rfl (fun hp6 => ?_) (fun hp6 => ?_)
    ·
     try simp only [n3, n4]
     try simp only [dZ, ne_eq] at hp6
     (exfalso; omega)
    try simp only [n3, n4]
    try simp only [dZ, ne_eq] at hp6
    refine g_off (yi (t := 52) rfl rfl) ?_
    try simp only [nY]
    refine g_off (yi (t := 52) rfl rfl) ?_
    try simp only [nY]
    refine g_off (yi (t := 52) rfl rfl) ?_
    try simp only [nY]
    refine s_go s_pick_f ?_
    try simp only [nY]
    refine s_go s_move ?_
    try simp only [nY]
    refine g_off (yi (t := 57) rfl rfl) ?_
    try simp only [nY]
    refine g_off (yi (t := 57) rfl rfl) ?_
    try simp only [nY]
    refine g_off (yi (t := 57) rfl rfl) ?_
    try simp only [nY]
    refine g_off (yi (t := 57) rfl rfl) ?_
    try simp only [nY]
    refine s_go s_pick_f ?_
    try simp only [nY]
    refine s_go s_assign ?_
    try simp only [nY]
    refine x_nil (hK8 _ _ ?_)
    refine x_cond_f (h := ?_)
    try have hRa : nright (kitem x) = true := by simpa using @c
    try have hTa : nright (opT x) = true := by simpa using @c
    refine x_skip ?_
    refine hK4 _ _ ?_
    refine x_seq fun K19 hK19 => x_region ?_
    refine s_go s_assign ?_
    try simp only [nY]
    refine x_nil (hK19 _ _ ?_)
    refine x_ret (r_tmp rfl ?_)
    exact ⟨congrArg (Value.int .i64) (opE_0 (by omega) (fun q => by exact hRa) (by omega) (fun q => by (exfalso; omega))).symm, hS.ext_of⟩
   try simp only [n3, n4]
   try simp only [dZ, ne_eq] at hp4
   (exfalso; omega)
  try simp only [n3, n4]
  try simp only [dZ, ne_eq] at hp2
  refine g_on (yi (t := 16) rfl rfl) ?_
  refine s_go (m_fieldAddr U27 (hi := ti3)) ?_
  try simp only [nY, fY, gY]
  refine g_on (yi (t := 16) rfl rfl) ?_
  refine s_go (m_load_obj U3 (hS := hS) (hv := by exact zi_get rfl (by omega))) ?_
  try simp only [nY, gY]
  rw [show x.getD 0 0 = opK x from rfl]
  refine g_on (yi (t := 16) rfl rfl) ?_
  refine s_go s_eql ?_
  try simp only [nY]
  refine s_go s_pick_f ?_
  try simp only [nY]
  refine s_go s_assign ?_
  try simp only [nY]
  refine x_nil (hK3 _ _ ?_)
  refine x_seq fun K28 hK28 => ?_
  refine x_block ?_
  refine x_seq fun K29 hK29 => x_region ?_
  refine s_go (m_fieldAddr U27 (hi := ti3)) ?_
  try simp only [nY, fY, gY]
  refine s_go (m_load_obj U3 (hS := hS) (hv := by exact zi_get rfl (by omega))) ?_
  try simp only [nY, gY]
  rw [show x.getD 0 0 = opK x from rfl]
  refine s_go s_lss ?_
  try simp only [nY]
  refine s_go s_move ?_
  try simp only [nY]
  refine s_part 25 rfl (fun hp11 => ?_) (fun hp11 => ?_)
  ·
   try simp only [n3, n4]
   try simp only [dZ, ne_eq] at hp11
   (exfalso; omega)
  try simp only [n3, n4]
  try simp only [dZ, ne_eq] at hp11
  refine g_on (yi (t := 25) rfl rfl) ?_
  refine s_go (m_fieldAddr U27 (hi := ti3)) ?_
  try simp only [nY, fY, gY]
  refine g_on (yi (t := 25) rfl rfl) ?_
  refine s_go (m_load_obj U3 (hS := hS) (hv := by exact zi_get rfl (by omega))) ?_
  try simp only [nY, gY]
  rw [show x.getD 0 0 = opK x from rfl]
  refine g_on (yi (t := 25) rfl rfl) ?_
  refine s_go s_gtr ?_
  try simp only [nY]
  refine s_go s_pick_f ?_
  try simp only [nY]
  refine s_go s_assign ?_
  try simp only [nY]
  refine x_nil (hK29 _ _ ?_)
  refine x_cond (ht := fun hc21 => ?_) (hf := fun hc21 => ?_)
  ·
   try simp only [dY] at hc21
   refine x_seq fun K31 hK31 => x_region ?_
   refine s_go s_assign ?_
   try simp only [nY]
   refine x_nil (hK31 _ _ ?_)
   refine x_ret (r_tmp rfl ?_)
   exact ⟨congrArg (Value.int .i64) (opE_14 (by omega)).symm, hS.ext_of⟩
  try simp only [dY] at hc21
  refine x_seq fun K32 hK32 => ?_
  refine x_seq fun K33 hK33 => x_region ?_
  refine s_go s_move ?_
  try simp only [nY]
  refine s_go s_move ?_
  try simp only [nY]
  refine s_part 32 rfl (fun hp12 => ?_) (fun hp12 => ?_)
  ·
   try simp only [n3, n4]
   try simp only [dZ, ne_eq] at hp12
   refine g_on (yi (t := 32) rfl rfl) ?_
   refine s_go (m_fieldAddr U27 (hi := ti25)) ?_
   try simp only [nY, fY, gY]
   refine g_on (yi (t := 32) rfl rfl) ?_
   refine s_go (m_loada_obj U25 (hi := ti25) (hS := hS) (hfit := by (rw [zi_size (by omega)]; decide))) ?_
   try simp only [nY, gY]
   rw [op_item hxl]
   refine g_on (yi (t := 32) rfl rfl) ?_
   refine s_call en39 ?_
   try simp only [nY, mY]
   refine CallR.mono (c_nameRight (kitem x) hil hbi _) ?_
   rintro _ w7 ⟨rfl, hE7⟩
   replace hS := hS.ext hE7
   try simp only [nY]
   refine g_on (yi (t := 32) rfl rfl) ?_
   refine s_go s_not ?_
   try simp only [nY]
   refine s_go s_pick_t ?_
   try simp only [nY]
   refine s_go s_assign ?_
   try simp only [nY]
   refine x_nil (hK33 _ _ ?_)
   refine x_cond (ht := fun hc22 => ?_) (hf := fun hc22 => ?_)
   ·
    try simp only [dY] at hc22
    try have hRb : nright (kitem x) = false := by simpa using hc22
    try have hTb : nright (opT x) = false := by simpa using hc22
    refine x_skip ?_
    refine hK32 _ _ ?_
    refine x_cond (ht := fun hc23 => ?_) (hf := fun hc23 => ?_)
    ·
     try simp only [dY] at hc23
     try have hRb : nright (kitem x) = false := by simpa using hc23
     try have hTb : nright (opT x) = false := by simpa using hc23
     refine x_seq fun K34 hK34 => x_region ?_
     refine s_go s_assign ?_
     try simp only [nY]
     refine x_nil (hK34 _ _ ?_)
     refine x_ret (r_tmp rfl ?_)
     exact ⟨congrArg (Value.int .i64) (opE_a (by omega) (by exact .inl ⟨by omega, hRb⟩)).symm, hS.ext_of⟩
    try simp only [dY] at hc23
    try have hRa : nright (kitem x) = true := by simpa using hc23
    try have hTa : nright (opT x) = true := by simpa using hc23
    refine x_skip ?_
    refine hK28 _ _ ?_
    refine x_seq fun K35 hK35 => x_region ?_
    refine s_go s_assign ?_
    try simp only [nY]
    refine x_nil (hK35 _ _ ?_)
    refine x_ret (r_tmp rfl ?_)
    (exfalso; simp_all; done)
   try simp only [dY] at hc22
   try have hRa : nright (kitem x) = true := by simpa using hc22
   try have hTa : nright (opT x) = true := by simpa using hc22
   refine x_seq fun K36 hK36 => x_region ?_
   refine s_go s_move ?_
   try simp only [nY]
   refine s_go s_move ?_
   try simp only [nY]
   refine s_part 39 rfl (fun hp13 => ?_) (fun hp13 => ?_)
   ·
    try simp only [n3, n4]
    try simp only [dZ, ne_eq] at hp13
    refine g_on (yi (t := 39) rfl rfl) ?_
    refine s_go (m_fieldAddr U27 (hi := ti3)) ?_
    try simp only [nY, fY, gY]
    refine g_on (yi (t := 39) rfl rfl) ?_
    refine s_go (m_load_obj U3 (hS := hS) (hv := by exact zi_get rfl (by omega))) ?_
    try simp only [nY, gY]
    rw [show x.getD 10 0 = opN x from rfl]
    refine g_on (yi (t := 39) rfl rfl) ?_
    refine s_go s_lss ?_
    try simp only [nY]
    refine g_on (yi (t := 39) rfl rfl) ?_
    refine s_go s_move ?_
    try simp only [nY]
    refine s_part 43 rfl (fun hp14 => ?_) (fun hp14 => ?_)
    ·
     try simp only [n3, n4]
     try simp only [dZ, ne_eq] at hp14
     refine g_off (yi (t := 43) rfl rfl) ?_
     try simp only [nY]
     refine g_off (yi (t := 43) rfl rfl) ?_
     try simp only [nY]
     refine g_off (yi (t := 43) rfl rfl) ?_
     try simp only [nY]
     refine g_on (yi (t := 39) rfl rfl) ?_
     refine s_go s_pick_t ?_
     try simp only [nY]
     refine s_go s_pick_t ?_
     try simp only [nY]
     refine s_go s_assign ?_
     try simp only [nY]
     refine x_nil (hK36 _ _ ?_)
     refine x_cond_t (h := ?_)
     try have hRb : nright (kitem x) = false := by simpa using @c
     try have hTb : nright (opT x) = false := by simpa using @c
     refine x_skip ?_
     refine hK32 _ _ ?_
     refine x_cond_t (h := ?_)
     try have hRb : nright (kitem x) = false := by simpa using @c
     try have hTb : nright (opT x) = false := by simpa using @c
     refine x_seq fun K37 hK37 => x_region ?_
     refine s_go s_assign ?_
     try simp only [nY]
     refine x_nil (hK37 _ _ ?_)
     refine x_ret (r_tmp rfl ?_)
     exact ⟨congrArg (Value.int .i64) (opE_a (by omega) (by exact .inr (.inl ⟨by omega, by omega⟩))).symm, hS.ext_of⟩
    try simp only [n3, n4]
    try simp only [dZ, ne_eq] at hp14
    refine g_on (yi (t := 43) rfl rfl) ?_
    refine s_go (m_fieldAddr U27 (hi := ti3)) ?_
    try simp only [nY, fY, gY]
    refine g_on (yi (t := 43) rfl rfl) ?_
    refine s_go (m_load_obj U3 (hS := hS) (hv := by exact zi_get rfl (by omega))) ?_
    try simp only [nY, gY]
    rw [show x.getD 10 0 = opN x from rfl]
    refine g_on (yi (t := 43) rfl rfl) ?_
    refine s_go s_gtr ?_
    try simp only [nY]
    refine g_on (yi (t := 39) rfl rfl) ?_
    refine s_go s_pick_f ?_
    try simp only [nY]
    refine s_go s_pick_t ?_
    try simp only [nY]
    refine s_go s_assign ?_
    try simp only [nY]
    refine x_nil (hK36 _ _ ?_)
    refine x_cond (ht := fun hc26 => ?_) (hf := fun hc26 => ?_)
    ·
     try simp only [dY] at hc26
     try have hRb : nright (kitem x) = false := by simpa using hc26
     try have hTb : nright (opT x) = false := by simpa using hc26
     refine x_skip ?_
     refine hK32 _ _ ?_
     refine x_cond (ht := fun hc27 => ?_) (hf := fun hc27 => ?_)
     ·
      try simp only [dY] at hc27
      try have hRb : nright (kitem x) = false := by simpa using hc27
      try have hTb : nright (opT x) = false := by simpa using hc27
      refine x_seq fun K38 hK38 => x_region ?_
      refine s_go s_assign ?_
      try simp only [nY]
      refine x_nil (hK38 _ _ ?_)
      refine x_ret (r_tmp rfl ?_)
      exact ⟨congrArg (Value.int .i64) (opE_a (by omega) (by exact .inr (.inl ⟨by omega, by omega⟩))).symm, hS.ext_of⟩
     try simp only [dY] at hc27
     (exfalso; omega)
    try simp only [dY] at hc26
    try have hRa : nright (kitem x) = true := by simpa using hc26
    try have hTa : nright (opT x) = true := by simpa using hc26
    refine x_region ?_
    refine s_go (m_fieldAddr U27 (hi := ti3)) ?_
    try simp only [nY, fY, gY]
    refine s_go (m_load_obj U3 (hS := hS) (hv := by exact zi_get rfl (by omega))) ?_
    try simp only [nY, gY]
    rw [show x.getD 0 0 = opK x from rfl]
    refine s_go s_eql ?_
    try simp only [nY]
    refine s_go s_move ?_
    try simp only [nY]
    refine s_part 52 rfl (fun hp15 => ?_) (fun hp15 => ?_)
    ·
     try simp only [n3, n4]
     try simp only [dZ, ne_eq] at hp15
     (exfalso; omega)
    try simp only [n3, n4]
    try simp only [dZ, ne_eq] at hp15
    refine g_off (yi (t := 52) rfl rfl) ?_
    try simp only [nY]
    refine g_off (yi (t := 52) rfl rfl) ?_
    try simp only [nY]
    refine g_off (yi (t := 52) rfl rfl) ?_
    try simp only [nY]
    refine s_go s_pick_f ?_
    try simp only [nY]
    refine s_go s_move ?_
    try simp only [nY]
    refine g_off (yi (t := 57) rfl rfl) ?_
    try simp only [nY]
    refine g_off (yi (t := 57) rfl rfl) ?_
    try simp only [nY]
    refine g_off (yi (t := 57) rfl rfl) ?_
    try simp only [nY]
    refine g_off (yi (t := 57) rfl rfl) ?_
    try simp only [nY]
    refine s_go s_pick_f ?_
    try simp only [nY]
    refine s_go s_assign ?_
    try simp only [nY]
    refine x_nil (hK32 _ _ ?_)
    refine x_cond_f (h := ?_)
    try have hRa : nright (kitem x) = true := by simpa using @c
    try have hTa : nright (opT x) = true := by simpa using @c
    refine x_skip ?_
    refine hK28 _ _ ?_
    refine x_seq fun K43 hK43 => x_region ?_
    refine s_go s_assign ?_
    try simp only [nY]
    refine x_nil (hK43 _ _ ?_)
    refine x_ret (r_tmp rfl ?_)
    exact ⟨congrArg (Value.int .i64) (opE_0 (by omega) (fun q => by exact hRa) (by omega) (fun q => by (exfalso; omega))).symm, hS.ext_of⟩
   try simp only [n3, n4]
   try simp only [dZ, ne_eq] at hp13
   refine g_off (yi (t := 39) rfl rfl) ?_
   try simp only [nY]
   refine g_off (yi (t := 39) rfl rfl) ?_
   try simp only [nY]
   refine g_off (yi (t := 39) rfl rfl) ?_
   try simp only [nY]
   refine g_off (yi (t := 39) rfl rfl) ?_
   try simp only [nY]
   refine g_un (yn (t := 43) rfl rfl) ?_
   try simp only [nY]
   refine g_un (yn (t := 43) rfl rfl) ?_
   try simp only [nY]
   refine g_un (yn (t := 43) rfl rfl) ?_
   try simp only [nY]
   refine g_off (yi (t := 39) rfl rfl) ?_
   try simp only [nY]
   refine s_go s_pick_f ?_
   try simp only [nY]
   refine s_go s_assign ?_
   try simp only [nY]
   refine x_nil (hK36 _ _ ?_)
   refine x_cond_f (h := ?_)
   try have hRa : nright (kitem x) = true := by simpa using @c
   try have hTa : nright (opT x) = true := by simpa using @c
   refine x_region ?_
   refine s_go (m_fieldAddr U27 (hi := ti3)) ?_
   try simp only [nY, fY, gY]
   refine s_go (m_load_obj U3 (hS := hS) (hv := by exact zi_get rfl (by omega))) ?_
   try simp only [nY, gY]
   rw [show x.getD 0 0 = opK x from rfl]
   refine s_go s_eql ?_
   try simp only [nY]
   refine s_go s_move ?_
   try simp only [nY]
   refine s_part 52 rfl (fun hp17 => ?_) (fun hp17 => ?_)
   ·
    try simp only [n3, n4]
    try simp only [dZ, ne_eq] at hp17
    (exfalso; omega)
   try simp only [n3, n4]
   try simp only [dZ, ne_eq] at hp17
   refine g_off (yi (t := 52) rfl rfl) ?_
   try simp only [nY]
   refine g_off (yi (t := 52) rfl rfl) ?_
   try simp only [nY]
   refine g_off (yi (t := 52) rfl rfl) ?_
   try simp only [nY]
   refine s_go s_pick_f ?_
   try simp only [nY]
   refine s_go s_move ?_
   try simp only [nY]
   refine g_off (yi (t := 57) rfl rfl) ?_
   try simp only [nY]
   refine g_off (yi (t := 57) rfl rfl) ?_
   try simp only [nY]
   refine g_off (yi (t := 57) rfl rfl) ?_
   try simp only [nY]
   refine g_off (yi (t := 57) rfl rfl) ?_
   try simp only [nY]
   refine s_go s_pick_f ?_
   try simp only [nY]
   refine s_go s_assign ?_
   try simp only [nY]
   refine x_nil (hK32 _ _ ?_)
   refine x_cond_f (h := ?_)
   try have hRa : nright (kitem x) = true := by simpa using @c
   try have hTa : nright (opT x) = true := by simpa using @c
   refine x_skip ?_
   refine hK28 _ _ ?_
   refine x_seq fun K47 hK47 => x_region ?_
   refine s_go s_assign ?_
   try simp only [nY]
   refine x_nil (hK47 _ _ ?_)
   refine x_ret (r_tmp rfl ?_)
   exact ⟨congrArg (Value.int .i64) (opE_0 (by omega) (fun q => by exact hRa) (by omega) (fun q => by (exfalso; omega))).symm, hS.ext_of⟩
  try simp only [n3, n4]
  try simp only [dZ, ne_eq] at hp12
  refine g_off (yi (t := 32) rfl rfl) ?_
  try simp only [nY]
  refine g_off (yi (t := 32) rfl rfl) ?_
  try simp only [nY]
  refine g_off (yi (t := 32) rfl rfl) ?_
  try simp only [nY]
  refine g_off (yi (t := 32) rfl rfl) ?_
  try simp only [nY]
  refine s_go s_pick_f ?_
  try simp only [nY]
  refine s_go s_assign ?_
  try simp only [nY]
  refine x_nil (hK33 _ _ ?_)
  refine x_cond_f (h := ?_)
  try have hRa : nright (kitem x) = true := by simpa using @c
  try have hTa : nright (opT x) = true := by simpa using @c
  refine x_seq fun K48 hK48 => x_region ?_
  refine s_go s_move ?_
  try simp only [nY]
  refine s_go s_move ?_
  try simp only [nY]
  refine s_part 39 rfl (fun hp19 => ?_) (fun hp19 => ?_)
  ·
   try simp only [n3, n4]
   try simp only [dZ, ne_eq] at hp19
   (exfalso; omega)
  try simp only [n3, n4]
  try simp only [dZ, ne_eq] at hp19
  refine g_off (yi (t := 39) rfl rfl) ?_
  try simp only [nY]
  refine g_off (yi (t := 39) rfl rfl) ?_
  try simp only [nY]
  refine g_off (yi (t := 39) rfl rfl) ?_
  try simp only [nY]
  refine g_off (yi (t := 39) rfl rfl) ?_
  try simp only [nY]
  refine g_un (yn (t := 43) rfl rfl) ?_
  try simp only [nY]
  refine g_un (yn (t := 43) rfl rfl) ?_
  try simp only [nY]
  refine g_un (yn (t := 43) rfl rfl) ?_
  try simp only [nY]
  refine g_off (yi (t := 39) rfl rfl) ?_
  try simp only [nY]
  refine s_go s_pick_f ?_
  try simp only [nY]
  refine s_go s_assign ?_
  try simp only [nY]
  refine x_nil (hK48 _ _ ?_)
  refine x_cond_f (h := ?_)
  try have hRa : nright (kitem x) = true := by simpa using @c
  try have hTa : nright (opT x) = true := by simpa using @c
  refine x_region ?_
  refine s_go (m_fieldAddr U27 (hi := ti3)) ?_
  try simp only [nY, fY, gY]
  refine s_go (m_load_obj U3 (hS := hS) (hv := by exact zi_get rfl (by omega))) ?_
  try simp only [nY, gY]
  rw [show x.getD 0 0 = opK x from rfl]
  refine s_go s_eql ?_
  try simp only [nY]
  refine s_go s_move ?_
  try simp only [nY]
  refine s_part 52 rfl (fun hp23 => ?_) (fun hp23 => ?_)
  ·
   try simp only [n3, n4]
   try simp only [dZ, ne_eq] at hp23
   refine g_on (yi (t := 52) rfl rfl) ?_
   refine s_go (m_fieldAddr U27 (hi := ti25)) ?_
   try simp only [nY, fY, gY]
   refine g_on (yi (t := 52) rfl rfl) ?_
   refine s_go (m_loada_obj U25 (hi := ti25) (hS := hS) (hfit := by (rw [zi_size (by omega)]; decide))) ?_
   try simp only [nY, gY]
   rw [op_text hxl]
   refine g_on (yi (t := 52) rfl rfl) ?_
   refine s_call en40 ?_
   try simp only [nY, mY]
   refine CallR.mono (c_nameSome (opT x) htl hbt _) ?_
   rintro _ w14 ⟨rfl, hE14⟩
   replace hS := hS.ext hE14
   try simp only [nY]
   refine s_go s_pick_t ?_
   try simp only [nY]
   refine s_go s_move ?_
   try simp only [nY]
   refine s_part 57 rfl (fun hp24 => ?_) (fun hp24 => ?_)
   ·
    try simp only [n3, n4]
    try simp only [dZ, ne_eq] at hp24
    have hTn : ¬ opT x = nm0 := by simpa using hp24
    refine g_on (yi (t := 57) rfl rfl) ?_
    refine s_go (m_fieldAddr U27 (hi := ti25)) ?_
    try simp only [nY, fY, gY]
    refine g_on (yi (t := 57) rfl rfl) ?_
    refine s_go (m_loada_obj U25 (hi := ti25) (hS := hS) (hfit := by (rw [zi_size (by omega)]; decide))) ?_
    try simp only [nY, gY]
    rw [op_text hxl]
    refine g_on (yi (t := 57) rfl rfl) ?_
    refine s_call en39 ?_
    try simp only [nY, mY]
    refine CallR.mono (c_nameRight (opT x) htl hbt _) ?_
    rintro _ w15 ⟨rfl, hE15⟩
    replace hS := hS.ext hE15
    try simp only [nY]
    refine g_on (yi (t := 57) rfl rfl) ?_
    refine s_go s_not ?_
    try simp only [nY]
    refine s_go s_pick_t ?_
    try simp only [nY]
    refine s_go s_assign ?_
    try simp only [nY]
    refine x_nil (hK32 _ _ ?_)
    refine x_cond (ht := fun hc44 => ?_) (hf := fun hc44 => ?_)
    ·
     try simp only [dY] at hc44
     try have hRb : nright (kitem x) = false := by simpa using hc44
     try have hTb : nright (opT x) = false := by simpa using hc44
     refine x_seq fun K56 hK56 => x_region ?_
     refine s_go s_assign ?_
     try simp only [nY]
     refine x_nil (hK56 _ _ ?_)
     refine x_ret (r_tmp rfl ?_)
     exact ⟨congrArg (Value.int .i64) (opE_a (by omega) (by exact .inr (.inr ⟨by omega, hTn, hTb⟩))).symm, hS.ext_of⟩
    try simp only [dY] at hc44
    try have hRa : nright (kitem x) = true := by simpa using hc44
    try have hTa : nright (opT x) = true := by simpa using hc44
    refine x_skip ?_
    refine hK28 _ _ ?_
    refine x_seq fun K57 hK57 => x_region ?_
    refine s_go s_assign ?_
    try simp only [nY]
    refine x_nil (hK57 _ _ ?_)
    refine x_ret (r_tmp rfl ?_)
    exact ⟨congrArg (Value.int .i64) (opE_0 (by omega) (fun q => by (exfalso; omega)) (by omega) (fun q => by exact .inr hTa)).symm, hS.ext_of⟩
   try simp only [n3, n4]
   try simp only [dZ, ne_eq] at hp24
   have hT0 : opT x = nm0 := by simpa using hp24
   refine g_off (yi (t := 57) rfl rfl) ?_
   try simp only [nY]
   refine g_off (yi (t := 57) rfl rfl) ?_
   try simp only [nY]
   refine g_off (yi (t := 57) rfl rfl) ?_
   try simp only [nY]
   refine g_off (yi (t := 57) rfl rfl) ?_
   try simp only [nY]
   refine s_go s_pick_f ?_
   try simp only [nY]
   refine s_go s_assign ?_
   try simp only [nY]
   refine x_nil (hK32 _ _ ?_)
   refine x_cond_f (h := ?_)
   try have hRa : nright (kitem x) = true := by simpa using @c
   try have hTa : nright (opT x) = true := by simpa using @c
   refine x_skip ?_
   refine hK28 _ _ ?_
   refine x_seq fun K58 hK58 => x_region ?_
   refine s_go s_assign ?_
   try simp only [nY]
   refine x_nil (hK58 _ _ ?_)
   refine x_ret (r_tmp rfl ?_)
   exact ⟨congrArg (Value.int .i64) (opE_0 (by omega) (fun q => by (exfalso; omega)) (by omega) (fun q => by exact .inl hT0)).symm, hS.ext_of⟩
  try simp only [n3, n4]
  try simp only [dZ, ne_eq] at hp23
  refine g_off (yi (t := 52) rfl rfl) ?_
  try simp only [nY]
  refine g_off (yi (t := 52) rfl rfl) ?_
  try simp only [nY]
  refine g_off (yi (t := 52) rfl rfl) ?_
  try simp only [nY]
  refine s_go s_pick_f ?_
  try simp only [nY]
  refine s_go s_move ?_
  try simp only [nY]
  refine g_off (yi (t := 57) rfl rfl) ?_
  try simp only [nY]
  refine g_off (yi (t := 57) rfl rfl) ?_
  try simp only [nY]
  refine g_off (yi (t := 57) rfl rfl) ?_
  try simp only [nY]
  refine g_off (yi (t := 57) rfl rfl) ?_
  try simp only [nY]
  refine s_go s_pick_f ?_
  try simp only [nY]
  refine s_go s_assign ?_
  try simp only [nY]
  refine x_nil (hK32 _ _ ?_)
  refine x_cond_f (h := ?_)
  try have hRa : nright (kitem x) = true := by simpa using @c
  try have hTa : nright (opT x) = true := by simpa using @c
  refine x_skip ?_
  refine hK28 _ _ ?_
  refine x_seq fun K59 hK59 => x_region ?_
  refine s_go s_assign ?_
  try simp only [nY]
  refine x_nil (hK59 _ _ ?_)
  refine x_ret (r_tmp rfl ?_)
  exact ⟨congrArg (Value.int .i64) (opE_0 (by omega) (fun q => by (exfalso; omega)) (by omega) (fun q => by (exfalso; omega))).symm, hS.ext_of⟩
 try simp only [n3, n4]
 try simp only [dZ, ne_eq] at hp1
 refine g_off (yi (t := 8) rfl rfl) ?_
 try simp only [nY]
 refine g_off (yi (t := 8) rfl rfl) ?_
 try simp only [nY]
 refine g_off (yi (t := 8) rfl rfl) ?_
 try simp only [nY]
 refine s_go s_pick_f ?_
 try simp only [nY]
 refine s_go s_assign ?_
 try simp only [nY]
 refine x_nil (hK2 _ _ ?_)
 refine x_seq fun K60 hK60 => x_region ?_
 refine s_go (m_fieldAddr U27 (hi := ti3)) ?_
 try simp only [nY, fY, gY]
 refine s_go (m_load_obj U3 (hS := hS) (hv := by exact zi_get rfl (by omega))) ?_
 try simp only [nY, gY]
 rw [show x.getD 0 0 = opK x from rfl]
 refine s_go s_eql ?_
 try simp only [nY]
 refine s_go s_move ?_
 try simp only [nY]
 refine s_part 16 rfl (fun hp25 => ?_) (fun hp25 => ?_)
 ·
  try simp only [n3, n4]
  try simp only [dZ, ne_eq] at hp25
  (exfalso; omega)
 try simp only [n3, n4]
 try simp only [dZ, ne_eq] at hp25
 refine g_on (yi (t := 16) rfl rfl) ?_
 refine s_go (m_fieldAddr U27 (hi := ti3)) ?_
 try simp only [nY, fY, gY]
 refine g_on (yi (t := 16) rfl rfl) ?_
 refine s_go (m_load_obj U3 (hS := hS) (hv := by exact zi_get rfl (by omega))) ?_
 try simp only [nY, gY]
 rw [show x.getD 0 0 = opK x from rfl]
 refine g_on (yi (t := 16) rfl rfl) ?_
 refine s_go s_eql ?_
 try simp only [nY]
 refine s_go s_pick_f ?_
 try simp only [nY]
 refine s_go s_assign ?_
 try simp only [nY]
 refine x_nil (hK60 _ _ ?_)
 refine x_seq fun K75 hK75 => ?_
 refine x_block ?_
 refine x_seq fun K76 hK76 => x_region ?_
 refine s_go (m_fieldAddr U27 (hi := ti3)) ?_
 try simp only [nY, fY, gY]
 refine s_go (m_load_obj U3 (hS := hS) (hv := by exact zi_get rfl (by omega))) ?_
 try simp only [nY, gY]
 rw [show x.getD 0 0 = opK x from rfl]
 refine s_go s_lss ?_
 try simp only [nY]
 refine s_go s_move ?_
 try simp only [nY]
 refine s_part 25 rfl (fun hp30 => ?_) (fun hp30 => ?_)
 ·
  try simp only [n3, n4]
  try simp only [dZ, ne_eq] at hp30
  refine g_off (yi (t := 25) rfl rfl) ?_
  try simp only [nY]
  refine g_off (yi (t := 25) rfl rfl) ?_
  try simp only [nY]
  refine g_off (yi (t := 25) rfl rfl) ?_
  try simp only [nY]
  refine s_go s_pick_t ?_
  try simp only [nY]
  refine s_go s_assign ?_
  try simp only [nY]
  refine x_nil (hK76 _ _ ?_)
  refine x_cond_t (h := ?_)
  refine x_seq fun K77 hK77 => x_region ?_
  refine s_go s_assign ?_
  try simp only [nY]
  refine x_nil (hK77 _ _ ?_)
  refine x_ret (r_tmp rfl ?_)
  exact ⟨congrArg (Value.int .i64) (opE_14 (by omega)).symm, hS.ext_of⟩
 try simp only [n3, n4]
 try simp only [dZ, ne_eq] at hp30
 (exfalso; omega)
end Go.Proofs.YtpekghaodmeemaaGreat
set_option linter.unusedSimpArgs false
set_option linter.unusedVariables false
set_option maxHeartbeats 2000000
set_option maxRecDepth 100000
namespace Go.Proofs.YtpekghaodmeemaaGreat
open Go.RowKit

section
variable {l : List (List Int)} {x : List Int}
theorem amt_a (h : ¬ opE x = 0) : amtN l x = 0 := by rw [amtN, if_pos h]
theorem amt_1 (h : opE x = 0) (hk : opK x = 1) : amtN l x = opN x := by rw [amtN, if_neg (fun q => q h), if_pos hk]
theorem amt_2 (h : opE x = 0) (hk : opK x = 2) (hq : qtyB l (kn x 1) (kitem x) = true) : amtN l x = -(qtyN l (kn x 1) (kitem x)) := by rw [amtN, if_neg (fun q => q h), if_neg (by omega), if_pos ⟨hq, hk⟩]
theorem amt_3 (h : opE x = 0) (hk : opK x = 3) (hq : qtyB l (kn x 1) (kitem x) = true) : amtN l x = opN x - totL (normP l) (kn x 1) (kitem x) := by rw [amtN, if_neg (fun q => q h), if_neg (by omega), if_neg (fun q => by omega), if_pos ⟨hq, hk⟩]
theorem amt_n (h : opE x = 0) (hk : ¬ opK x = 1) (h2 : qtyB l (kn x 1) (kitem x) = false ∨ (¬ opK x = 2 ∧ ¬ opK x = 3)) : amtN l x = 0 := by
  rw [amtN, if_neg (fun q => q h), if_neg hk, if_neg, if_neg]
  · rintro ⟨q1, q2⟩
    rcases h2 with h2 | h2
    · rw [h2] at q1; cases q1
    · exact h2.2 q2
  · rintro ⟨q1, q2⟩
    rcases h2 with h2 | h2
    · rw [h2] at q1; cases q1
    · exact h2.1 q2
end

theorem c_shopAmount (w0 : World) (A : Option Addr) (c : Nat) (l : List (List Int)) (hr : Rd w0 A 21 l.length (arows l)) (hv : AOks l) (hn : l.length ≤ 1000000000) (x : List Int) (hx : OpOk x)  :
    CallR Tryz.prog 18 #[.slice A l.length c, .agg (OA x)] w0 fun v w' => v = .int .i64 (amtN l x) ∧ Ext w0 w' := by
 have hS := St.rd1 (S := NoB) hr
 have hxl := hx.len
 have hil := op_il hxl
 have htl := op_tl hxl
 have hk1 := hx.k1
 have hk2 := hx.k2
 have hm1 := hx.m1
 have hm2 := hx.m2
 have hbi := hx.item
 have hbt := hx.text
 have hcx := hx.b1
 have hqb := qty_b hv hn (kn x 1) (kitem x)
 have htb := tot_b hv hn (kn x 1) (kitem x)
 refine c_enter (l := [.slice A l.length c, .agg (OA x), undef, undef, undef, undef, undef, undef, undef, undef, undef, undef, undef, undef, undef, undef, undef, undef, undef, undef, undef, undef, undef, undef, undef, undef, undef, undef, undef, undef, undef, undef, undef, undef, undef, undef, undef, undef, undef, undef, undef, undef, undef, undef, undef, undef, undef, undef, undef, undef]) Tryz.func18 rfl (by simp only [Tryz.ntmps18, List.size_toArray, List.length_cons, List.length_nil, Nat.reduceAdd, Nat.reduceSub, Array.replicate_succ, Array.replicate_zero, List.push_toArray, List.append_toArray, List.nil_append, List.cons_append]) ?_
 refine x_seq fun K1 hK1 => x_region ?_
 refine m_box hS (fun w1 g1 hS => ?_)
 try simp only [nY, aY] at hS ⊢
 refine s_go s_assign ?_
 try simp only [nY]
 refine x_nil (hK1 _ _ ?_)
 refine x_seq fun K2 hK2 => ?_
 refine x_seq fun K3 hK3 => x_region ?_
 refine s_go (m_load_row U27 (hi := ti27) (hS := hS) (hfit := by (rw [zi_size (by omega)]; rfl))) ?_
 try simp only [nY, gY]
 skip
 refine s_call en16 ?_
 try simp only [nY, mY]
 refine CallR.mono (c_shopRight _ (by assumption) _) ?_
 rintro _ w2 ⟨rfl, hE2⟩
 replace hS := hS.ext hE2
 try simp only [nY]
 refine s_go s_neq ?_
 try simp only [nY]
 refine x_nil (hK3 _ _ ?_)
 refine x_cond (ht := fun hc1 => ?_) (hf := fun hc1 => ?_)
 ·
  try simp only [dY] at hc1
  have hE : ¬ opE x = 0 := hc1
  refine x_seq fun K4 hK4 => x_region ?_
  refine s_go s_assign ?_
  try simp only [nY]
  refine x_nil (hK4 _ _ ?_)
  refine x_ret (r_tmp rfl ?_)
  exact ⟨congrArg (Value.int .i64) (amt_a hE).symm, hS.ext_of⟩
 try simp only [dY] at hc1
 have hE : opE x = 0 := by omega
 obtain ⟨hK, hOn, hON, hOt⟩ := opE_ok hE
 refine x_skip ?_
 refine hK2 _ _ ?_
 refine x_seq fun K5 hK5 => x_region ?_
 refine s_go s_move ?_
 try simp only [nY]
 refine s_go (m_fieldAddr U27 (hi := ti23)) ?_
 try simp only [nY, fY, gY]
 refine s_go (m_load_obj U23 (hS := hS) (hv := by exact zi_get rfl (by omega))) ?_
 try simp only [nY, gY]
 rw [hx.e1]
 refine s_go (m_fieldAddr U27 (hi := ti25)) ?_
 try simp only [nY, fY, gY]
 refine s_go (m_loada_obj U25 (hi := ti25) (hS := hS) (hfit := by (rw [zi_size (by omega)]; decide))) ?_
 try simp only [nY, gY]
 rw [op_item hxl]
 refine s_call en42 ?_
 try simp only [nY, mY]
 refine CallR.mono (c_cartQuantity _ A c l (hS.hasA) hv hn _ hcx _ hil) ?_
 rintro _ w3 ⟨rfl, hE3⟩
 replace hS := hS.ext hE3
 try simp only [nY]
 refine s_go s_move ?_
 try simp only [nY]
 refine s_go (s_extract (hv := rfl)) ?_
 try simp only [gY]
 try simp only [nY]
 refine s_go (s_extract (hv := rfl)) ?_
 try simp only [gY]
 try simp only [nY]
 refine s_go s_assign ?_
 try simp only [nY]
 refine s_go s_assign ?_
 try simp only [nY]
 refine x_nil (hK5 _ _ ?_)
 refine x_seq fun K6 hK6 => ?_
 refine x_block ?_
 refine x_seq fun K7 hK7 => x_region ?_
 refine s_go (m_fieldAddr U27 (hi := ti3)) ?_
 try simp only [nY, fY, gY]
 refine s_go (m_load_obj U3 (hS := hS) (hv := by exact zi_get rfl (by omega))) ?_
 try simp only [nY, gY]
 rw [show x.getD 0 0 = opK x from rfl]
 refine s_go s_eql ?_
 try simp only [nY]
 refine s_go s_assign ?_
 try simp only [nY]
 refine x_nil (hK7 _ _ ?_)
 refine x_cond (ht := fun hc2 => ?_) (hf := fun hc2 => ?_)
 ·
  try simp only [dY] at hc2
  refine x_seq fun K8 hK8 => x_region ?_
  refine s_go (m_fieldAddr U27 (hi := ti3)) ?_
  try simp only [nY, fY, gY]
  refine s_go (m_load_obj U3 (hS := hS) (hv := by exact zi_get rfl (by omega))) ?_
  try simp only [nY, gY]
  rw [show x.getD 10 0 = opN x from rfl]
  refine s_go s_assign ?_
  try simp only [nY]
  refine x_nil (hK8 _ _ ?_)
  refine x_ret (r_tmp rfl ?_)
  exact ⟨congrArg (Value.int .i64) (amt_1 hE (by omega)).symm, hS.ext_of⟩
 try simp only [dY] at hc2
 refine x_seq fun K9 hK9 => x_region ?_
 refine s_go s_move ?_
 try simp only [nY]
 refine s_go s_move ?_
 try simp only [nY]
 refine s_part 27 rfl (fun hp1 => ?_) (fun hp1 => ?_)
 ·
  try simp only [n3, n4]
  try simp only [dZ, ne_eq] at hp1
  have hQ : qtyB l (kn x 1) (kitem x) = true := hp1
  refine g_on (yi (t := 27) rfl rfl) ?_
  refine s_go (m_fieldAddr U27 (hi := ti3)) ?_
  try simp only [nY, fY, gY]
  refine g_on (yi (t := 27) rfl rfl) ?_
  refine s_go (m_load_obj U3 (hS := hS) (hv := by exact zi_get rfl (by omega))) ?_
  try simp only [nY, gY]
  rw [show x.getD 0 0 = opK x from rfl]
  refine g_on (yi (t := 27) rfl rfl) ?_
  refine s_go s_eql ?_
  try simp only [nY]
  refine s_go s_pick_t ?_
  try simp only [nY]
  refine s_go s_assign ?_
  try simp only [nY]
  refine x_nil (hK9 _ _ ?_)
  refine x_cond (ht := fun hc3 => ?_) (hf := fun hc3 => ?_)
  ·
   try simp only [dY] at hc3
   refine x_seq fun K10 hK10 => x_region ?_
   refine s_go s_move ?_
   try simp only [nY]
   refine s_go (s_neg (hc := by exact wr_i64 (by omega) (by omega))) ?_
   try simp only [nY]
   refine s_go s_assign ?_
   try simp only [nY]
   refine x_nil (hK10 _ _ ?_)
   refine x_ret (r_tmp rfl ?_)
   exact ⟨congrArg (Value.int .i64) (amt_2 hE (by omega) hQ).symm, hS.ext_of⟩
  try simp only [dY] at hc3
  refine x_seq fun K11 hK11 => x_region ?_
  refine s_go s_move ?_
  try simp only [nY]
  refine s_go s_move ?_
  try simp only [nY]
  refine s_part 36 rfl (fun hp2 => ?_) (fun hp2 => ?_)
  ·
   try simp only [n3, n4]
   try simp only [dZ, ne_eq] at hp2
   have hQ : qtyB l (kn x 1) (kitem x) = true := hp2
   refine g_on (yi (t := 36) rfl rfl) ?_
   refine s_go (m_fieldAddr U27 (hi := ti3)) ?_
   try simp only [nY, fY, gY]
   refine g_on (yi (t := 36) rfl rfl) ?_
   refine s_go (m_load_obj U3 (hS := hS) (hv := by exact zi_get rfl (by omega))) ?_
   try simp only [nY, gY]
   rw [show x.getD 0 0 = opK x from rfl]
   refine g_on (yi (t := 36) rfl rfl) ?_
   refine s_go s_eql ?_
   try simp only [nY]
   refine s_go s_pick_t ?_
   try simp only [nY]
   refine s_go s_assign ?_
   try simp only [nY]
   refine x_nil (hK11 _ _ ?_)
   refine x_cond (ht := fun hc4 => ?_) (hf := fun hc4 => ?_)
   ·
    try simp only [dY] at hc4
    refine x_seq fun K12 hK12 => ?_
    refine x_quiet (by kernel_rfl) (by kernel_rfl) hS ?_
    refine q_go (fun w hS => m_fieldAddr U27 (hi := ti3)) ?_
    try simp only [nY, fY, gY]
    refine q_go (fun w hS => m_load_obj U3 (hS := hS) (hv := by exact zi_get rfl (by omega))) ?_
    try simp only [nY, gY]
    rw [show x.getD 10 0 = opN x from rfl]
    refine q_go (fun w hS => s_move) ?_
    try simp only [nY]
    refine q_go (fun w hS => m_fieldAddr U27 (hi := ti23)) ?_
    try simp only [nY, fY, gY]
    refine q_go (fun w hS => m_load_obj U23 (hS := hS) (hv := by exact zi_get rfl (by omega))) ?_
    try simp only [nY, gY]
    rw [hx.e1]
    refine q_go (fun w hS => m_fieldAddr U27 (hi := ti25)) ?_
    try simp only [nY, fY, gY]
    refine q_go (fun w hS => m_loada_obj U25 (hi := ti25) (hS := hS) (hfit := by (rw [zi_size (by omega)]; decide))) ?_
    try simp only [nY, gY]
    rw [op_item hxl]
    apply q_call en43
    case H =>
      intro w hS
      try simp only [nY, mY]
      refine CallR.mono (c_countTotal _ A c l (hS.hasA) hv hn _ hcx _ hil) ?_
      rintro _ w1 ⟨rfl, hE⟩; exact ⟨rfl, hS.ext hE⟩
    try simp only [nY]
    refine q_go (fun w hS => s_sub (hc := by exact wr_i64 (by omega) (by omega))) ?_
    try simp only [nY]
    refine q_go (fun w hS => s_assign) ?_
    try simp only [nY]
    clear hS
    refine q_nil fun w4 hS => ?_
    refine hK12 _ _ ?_
    refine x_ret (r_tmp rfl ?_)
    exact ⟨congrArg (Value.int .i64) (amt_3 hE (by omega) hQ).symm, hS.ext_of⟩
   try simp only [dY] at hc4
   refine x_skip ?_
   refine hK6 _ _ ?_
   refine x_seq fun K13 hK13 => x_region ?_
   refine s_go s_assign ?_
   try simp only [nY]
   refine x_nil (hK13 _ _ ?_)
   refine x_ret (r_tmp rfl ?_)
   exact ⟨congrArg (Value.int .i64) (amt_n hE (by omega) (by exact .inr ⟨by omega, by omega⟩)).symm, hS.ext_of⟩
  try simp only [n3, n4]
  try simp only [dZ, ne_eq] at hp2
  have hQ : qtyB l (kn x 1) (kitem x) = false := hp2
  refine g_off (yi (t := 36) rfl rfl) ?_
  try simp only [nY]
  refine g_off (yi (t := 36) rfl rfl) ?_
  try simp only [nY]
  refine g_off (yi (t := 36) rfl rfl) ?_
  try simp only [nY]
  refine s_go s_pick_f ?_
  try simp only [nY]
  refine s_go s_assign ?_
  try simp only [nY]
  refine x_nil (hK11 _ _ ?_)
  refine x_cond_f (h := ?_)
  refine x_skip ?_
  refine hK6 _ _ ?_
  refine x_seq fun K14 hK14 => x_region ?_
  refine s_go s_assign ?_
  try simp only [nY]
  refine x_nil (hK14 _ _ ?_)
  refine x_ret (r_tmp rfl ?_)
  exact ⟨congrArg (Value.int .i64) (amt_n hE (by omega) (by exact .inl hQ)).symm, hS.ext_of⟩
 try simp only [n3, n4]
 try simp only [dZ, ne_eq] at hp1
 have hQ : qtyB l (kn x 1) (kitem x) = false := hp1
 refine g_off (yi (t := 27) rfl rfl) ?_
 try simp only [nY]
 refine g_off (yi (t := 27) rfl rfl) ?_
 try simp only [nY]
 refine g_off (yi (t := 27) rfl rfl) ?_
 try simp only [nY]
 refine s_go s_pick_f ?_
 try simp only [nY]
 refine s_go s_assign ?_
 try simp only [nY]
 refine x_nil (hK9 _ _ ?_)
 refine x_cond_f (h := ?_)
 refine x_seq fun K15 hK15 => x_region ?_
 refine s_go s_move ?_
 try simp only [nY]
 refine s_go s_move ?_
 try simp only [nY]
 refine s_part 36 rfl (fun hp3 => ?_) (fun hp3 => ?_)
 ·
  try simp only [n3, n4]
  try simp only [dZ, ne_eq] at hp3
  have hQ : qtyB l (kn x 1) (kitem x) = true := hp3
  refine g_on (yi (t := 36) rfl rfl) ?_
  refine s_go (m_fieldAddr U27 (hi := ti3)) ?_
  try simp only [nY, fY, gY]
  refine g_on (yi (t := 36) rfl rfl) ?_
  refine s_go (m_load_obj U3 (hS := hS) (hv := by exact zi_get rfl (by omega))) ?_
  try simp only [nY, gY]
  rw [show x.getD 0 0 = opK x from rfl]
  refine g_on (yi (t := 36) rfl rfl) ?_
  refine s_go s_eql ?_
  try simp only [nY]
  refine s_go s_pick_t ?_
  try simp only [nY]
  refine s_go s_assign ?_
  try simp only [nY]
  refine x_nil (hK15 _ _ ?_)
  refine x_cond (ht := fun hc7 => ?_) (hf := fun hc7 => ?_)
  ·
   try simp only [dY] at hc7
   refine x_seq fun K16 hK16 => ?_
   refine x_quiet (by kernel_rfl) (by kernel_rfl) hS ?_
   refine q_go (fun w hS => m_fieldAddr U27 (hi := ti3)) ?_
   try simp only [nY, fY, gY]
   refine q_go (fun w hS => m_load_obj U3 (hS := hS) (hv := by exact zi_get rfl (by omega))) ?_
   try simp only [nY, gY]
   rw [show x.getD 10 0 = opN x from rfl]
   refine q_go (fun w hS => s_move) ?_
   try simp only [nY]
   refine q_go (fun w hS => m_fieldAddr U27 (hi := ti23)) ?_
   try simp only [nY, fY, gY]
   refine q_go (fun w hS => m_load_obj U23 (hS := hS) (hv := by exact zi_get rfl (by omega))) ?_
   try simp only [nY, gY]
   rw [hx.e1]
   refine q_go (fun w hS => m_fieldAddr U27 (hi := ti25)) ?_
   try simp only [nY, fY, gY]
   refine q_go (fun w hS => m_loada_obj U25 (hi := ti25) (hS := hS) (hfit := by (rw [zi_size (by omega)]; decide))) ?_
   try simp only [nY, gY]
   rw [op_item hxl]
   apply q_call en43
   case H =>
     intro w hS
     try simp only [nY, mY]
     refine CallR.mono (c_countTotal _ A c l (hS.hasA) hv hn _ hcx _ hil) ?_
     rintro _ w1 ⟨rfl, hE⟩; exact ⟨rfl, hS.ext hE⟩
   try simp only [nY]
   refine q_go (fun w hS => s_sub (hc := by exact wr_i64 (by omega) (by omega))) ?_
   try simp only [nY]
   refine q_go (fun w hS => s_assign) ?_
   try simp only [nY]
   clear hS
   refine q_nil fun w5 hS => ?_
   refine hK16 _ _ ?_
   refine x_ret (r_tmp rfl ?_)
   exact ⟨congrArg (Value.int .i64) (amt_3 hE (by omega) hQ).symm, hS.ext_of⟩
  try simp only [dY] at hc7
  refine x_skip ?_
  refine hK6 _ _ ?_
  refine x_seq fun K17 hK17 => x_region ?_
  refine s_go s_assign ?_
  try simp only [nY]
  refine x_nil (hK17 _ _ ?_)
  refine x_ret (r_tmp rfl ?_)
  (exfalso; simp_all; done)
 try simp only [n3, n4]
 try simp only [dZ, ne_eq] at hp3
 have hQ : qtyB l (kn x 1) (kitem x) = false := hp3
 refine g_off (yi (t := 36) rfl rfl) ?_
 try simp only [nY]
 refine g_off (yi (t := 36) rfl rfl) ?_
 try simp only [nY]
 refine g_off (yi (t := 36) rfl rfl) ?_
 try simp only [nY]
 refine s_go s_pick_f ?_
 try simp only [nY]
 refine s_go s_assign ?_
 try simp only [nY]
 refine x_nil (hK15 _ _ ?_)
 refine x_cond_f (h := ?_)
 refine x_skip ?_
 refine hK6 _ _ ?_
 refine x_seq fun K18 hK18 => x_region ?_
 refine s_go s_assign ?_
 try simp only [nY]
 refine x_nil (hK18 _ _ ?_)
 refine x_ret (r_tmp rfl ?_)
 exact ⟨congrArg (Value.int .i64) (amt_n hE (by omega) (by exact .inl hQ)).symm, hS.ext_of⟩
end Go.Proofs.YtpekghaodmeemaaGreat
set_option linter.unusedSimpArgs false
set_option linter.unusedVariables false
namespace Go.Proofs.YtpekghaodmeemaaGreat
open Go.RowKit
/-- What stands behind a piece of code that may panic: pn tells of the panic's value. -/
def Qz (pn : Act → Value → World → Prop) (n r : Act → World → Prop) (ex : List (Nat × (Act → World → Prop))) : Exit → Act → World → Prop
  | .normal, a, w => n a w
  | .ret, a, w => r a w
  | .exit i, a, w => look i ex a w
  | .panic ch, a, w => ∃ v, ch = [{ v := v, recovered := false }] ∧ pn a v w
  | _, _, _ => False
/-- A call comes back with a value, or panics with one. -/
def CallP (P : Program) (f : FuncId) (args : Array Value) (w : World) (R E : Value → World → Prop) : Prop :=
  Calls P f args w fun e w' => (∃ v, e = .returned v ∧ R v w') ∨ (∃ v, e = .panicked [{ v := v, recovered := false }] ∧ E v w')
section
variable {P : Program} {f : FuncId} {args : Array Value} {w : World} {R R' E E' : Value → World → Prop}
theorem CallP.mono (h : CallP P f args w R E) (hr : ∀ v w', R v w' → R' v w') (he : ∀ v w', E v w' → E' v w') : CallP P f args w R' E' :=
  Calls.mono h fun _ _ h => by
    rcases h with ⟨v, e, q⟩ | ⟨v, e, q⟩
    · exact .inl ⟨v, e, hr _ _ q⟩
    · exact .inr ⟨v, e, he _ _ q⟩
theorem CallP.ret (h : CallP P f args w R E) (he : ∀ v w', E v w' → False) : CallR P f args w R :=
  Calls.mono h fun _ _ h => by
    rcases h with ⟨v, e, q⟩ | ⟨v, e, q⟩
    · exact ⟨v, e, q⟩
    · exact (he _ _ q).elim
theorem CallR.p (h : CallR P f args w R) : CallP P f args w R E := Calls.mono h fun _ _ h => .inl h
end
section
variable {P : Program} {ops : Array Oper} {Q Q2 : Exit → Act → World → Prop} {ds : List Deferred}
theorem oper_lift {o : Oper} {a : Act} {w : World} {K K2 : Act → World → Prop} (hq : ∀ e a w, Q e a w → Q2 e (wd ds a) w) (hk : ∀ a w, K a w → K2 (wd ds a) w) (h : o.wp P a w K Q) : o.wp P (wd ds a) w K2 Q2 := by
  unfold Oper.wp at h ⊢
  rw [wd_eval]
  generalize (execOp a.eval o).run P w = res at h ⊢
  cases res with
  | ok nx w' =>
    cases nx with
    | value v => simp only [Oper.upon] at h ⊢; rw [wd_put]; exact hk _ _ h
    | skip => simp only [Oper.upon] at h ⊢; rw [wd_put]; exact hk _ _ h
    | defer d =>
      simp only [Oper.upon] at h ⊢
      have e : ({ wd ds a with defers := d :: (wd ds a).defers } : Act) = wd ds { a with defers := d :: a.defers } := rfl
      rw [e, wd_put]; exact hk _ _ h
    | enter f args =>
      simp only [Oper.upon] at h ⊢
      refine Calls.mono h fun e w'' he => ?_
      cases e with
      | returned v => dsimp only at he ⊢; rw [wd_put]; exact hk _ _ he
      | panicked ch => exact hq _ _ _ he
      | outgrown => obtain ⟨a0, w0, h0⟩ := he; exact ⟨_, _, hq _ _ _ h0⟩
    | row row args =>
      simp only [Oper.upon] at h ⊢
      refine Rows.mono h fun v w'' he => ?_
      rw [wd_put]; exact hk _ _ he
    | _ => exact h.elim
  | halt x w' =>
    cases x with
    | panic v => exact hq _ _ _ h
    | _ => exact h.elim
theorem asks_lift {o : Oper} {a : Act} {w : World} (h : o.asks P a w) : o.asks P (wd ds a) w := by
  unfold Oper.asks at *
  rwa [wd_eval]
theorem lets_lift (hq : ∀ e a w, Q e a w → Q2 e (wd ds a) w) (h : LetsOut Q) : LetsOut Q2 := by
  obtain ⟨a0, w0, h0⟩ := h
  exact ⟨_, _, hq _ _ _ h0⟩
theorem ops_lift (hq : ∀ e a w, Q e a w → Q2 e (wd ds a) w) : ∀ (idx : List Nat) (a : Act) (w : World), wpOps P ops Q idx a w → wpOps P ops Q2 idx (wd ds a) w
  | [], a, w, h => hq _ _ _ h
  | i :: rest, a, w, h => by
    unfold wpOps at h ⊢
    cases ho : ops[i]? with
    | none => simp only [ho] at h ⊢; exact ops_lift hq rest a w h
    | some o =>
      simp only [ho] at h ⊢
      have ht : (wd ds a).tmps = a.tmps := rfl
      rw [ht]
      split
      · next hw =>
        rw [if_pos hw] at h
        rcases h with h | ⟨h1, h2⟩
        · exact .inl (oper_lift hq (fun a w h => ops_lift hq rest a w h) h)
        · exact .inr ⟨asks_lift h1, lets_lift hq h2⟩
      · next hw =>
        rw [if_neg hw] at h
        rw [wd_put]; exact ops_lift hq rest _ w h
theorem list_lift {rest : List Oper} (hq : ∀ e a w, e ≠ .normal → Q e a w → Q2 e (wd ds a) w) (hn : ∀ a w, Q .normal a w → wpList P ops Q2 rest (wd ds a) w) (hl : ¬ LetsOut Q) : ∀ (pre : List Oper) (a : Act) (w : World), wpList P ops Q pre a w → wpList P ops Q2 (pre ++ rest) (wd ds a) w
  | [], a, w, h => hn a w h
  | o :: pre, a, w, h => by
    have ih := list_lift hq hn hl pre
    unfold wpList at h
    rw [List.cons_append]
    unfold wpList
    have ht : (wd ds a).tmps = a.tmps := rfl
    rw [ht]
    split
    · next hw =>
      rw [if_pos hw] at h
      rcases h with h | ⟨_, h2⟩
      · refine .inl ?_
        unfold Oper.wp at h ⊢
        rw [wd_eval]
        generalize (execOp a.eval o).run P w = res at h ⊢
        cases res with
        | ok nx w' =>
          cases nx with
          | value v => simp only [Oper.upon] at h ⊢; rw [wd_put]; exact ih _ _ h
          | skip => simp only [Oper.upon] at h ⊢; rw [wd_put]; exact ih _ _ h
          | defer d =>
            simp only [Oper.upon] at h ⊢
            have e : ({ wd ds a with defers := d :: (wd ds a).defers } : Act) = wd ds { a with defers := d :: a.defers } := rfl
            rw [e, wd_put]; exact ih _ _ h
          | enter f args =>
            simp only [Oper.upon] at h ⊢
            refine Calls.mono h fun e w'' he => ?_
            cases e with
            | returned v => dsimp only at he ⊢; rw [wd_put]; exact ih _ _ he
            | panicked ch => exact hq _ _ _ (by simp) he
            | outgrown => exact (hl he).elim
          | row row args =>
            simp only [Oper.upon] at h ⊢
            refine Rows.mono h fun v w'' he => ?_
            rw [wd_put]; exact ih _ _ he
          | _ => exact h.elim
        | halt x w' =>
          cases x with
          | panic v => exact hq _ _ _ (by simp) h
          | _ => exact h.elim
      · exact (hl h2).elim
    · next hw =>
      rw [if_neg hw] at h
      rw [wd_put]; exact ih _ _ h
end
section
variable {P : Program} {pn : Act → Value → World → Prop} {n rr : Act → World → Prop} {ex : List (Nat × (Act → World → Prop))} {a : Act} {w w' w0 : World} {l : List Value} {ds : List Deferred} {S : Nat → Prop} {L : List Res}
theorem qz_out : ¬ LetsOut (Qz pn n rr ex) := fun ⟨_, _, h⟩ => h
theorem z_seq {x y : Code} (h : ∀ K : Act → World → Prop, (∀ a w, y.wp P (Qz pn n rr ex) a w → K a w) → x.wp P (Qz pn K rr ex) a w) : (Code.seq x y).wp P (Qz pn n rr ex) a w :=
  wp_seq (wp_mono (h _ fun _ _ h => h) fun e a w q => by cases e <;> first | exact q | exact q.elim)
theorem z_block {id : Nat} {c : Code} (h : c.wp P (Qz pn n rr ((id, n) :: ex)) a w) : (Code.block id c).wp P (Qz pn n rr ex) a w :=
  wp_block (wp_mono h fun e a w q => by
    cases e with
    | exit i =>
      simp only [Exit.inBlock, Qz, look] at q ⊢
      split
      · rename_i hi; rw [if_pos hi] at q; exact q
      · rename_i hi; rw [if_neg hi] at q; exact q
    | _ => first | exact q | exact q.elim)
theorem z_exit {id : Nat} (h : look id ex a w) : (Code.exit id).wp P (Qz pn n rr ex) a w := wp_exit h
theorem z_ret (h : rr a w) : Code.ret.wp P (Qz pn n rr ex) a w := wp_ret h
theorem z_skip (h : n a w) : Code.skip.wp P (Qz pn n rr ex) a w := wp_skip h
theorem z_cond_t {c : Operand} {x y : Code} (hc : opv l c = .bool true := by rfl) (h : x.wp P (Qz pn n rr ex) (frd ds l) w) : (Code.cond c x y).wp P (Qz pn n rr ex) (frd ds l) w := wp_cond_true (by rw [eval_frd]; exact hc) h
theorem z_cond_f {c : Operand} {x y : Code} (hc : opv l c = .bool false := by rfl) (h : y.wp P (Qz pn n rr ex) (frd ds l) w) : (Code.cond c x y).wp P (Qz pn n rr ex) (frd ds l) w := wp_cond_false (by rw [eval_frd]; exact hc) h
theorem z_cond {c : Operand} {x y : Code} {b : Bool} (hc : opv l c = .bool b := by rfl) (ht : b = true → x.wp P (Qz pn n rr ex) (frd ds l) w) (hf : b = false → y.wp P (Qz pn n rr ex) (frd ds l) w) : (Code.cond c x y).wp P (Qz pn n rr ex) (frd ds l) w :=
  wp_cond_split (by rw [eval_frd]; exact hc) ht hf
/-- a region's own end, in a frame with deferred calls -/
abbrev Qr (pn : Act → Value → World → Prop) (n : Act → World → Prop) (ds : List Deferred) : Exit → Act → World → Prop := Qz (fun a v w => pn (wd ds a) v w) (fun a w => n (wd ds a) w) (fun _ _ => False) []
theorem qr_lift : ∀ e a w, Qr pn n ds e a w → Qz pn n rr ex e (wd ds a) w := fun e a w q => by
  cases e with
  | normal => exact q
  | panic ch => exact q
  | exit i => exact q.elim
  | _ => exact q.elim
theorem z_region {id : Nat} {ops : List Oper} (h : WL P ops.toArray (Qr pn n ds) ops (fr l) w) : (Code.region id ops.toArray false).wp P (Qz pn n rr ex) (frd ds l) w := by
  refine wp_region_lit ?_
  have := list_lift (P := P) (ops := ops.toArray) (ds := ds) (rest := []) (Q2 := Qz pn n rr ex) (fun e a w _ q => qr_lift (rr := rr) (ex := ex) e a w q) (fun a w q => qr_lift (rr := rr) (ex := ex) .normal a w q) qz_out ops _ _ h.run
  rwa [List.append_nil] at this
theorem z_nilf {ops : Array Oper} (h : n (frd ds l) w) : WL P ops (Qr pn n ds) [] (fr l) w := ⟨h⟩
theorem z_any {id : Nat} {ops : Array Oper} {Q : Exit → Act → World → Prop} (hm : P.follows .mixedOrders = true) (hq : ∀ e a w, Q e a w → Qz pn n rr ex e (wd ds a) w)
    (h : wpAny P .any ops Q ops.size (Array.replicate ops.size false) (fr l) w.drew) : (Code.region id ops true).wp P (Qz pn n rr ex) (frd ds l) w :=
  wp_region_draw fun t => by
    simp only [Region.schedule, hm, Bool.true_or, if_true]
    exact ops_lift (ds := ds) hq _ _ _ (wpAny_sound ops.size t _ _ _ h)
theorem z_quiet {id : Nat} {ops : List Oper} (hm : P.follows .mixedOrders = true) (hB : Region.lexB .any ops.toArray = true) (hS : St S w0 w L) (h : WQ P ops.toArray (fun w => St S w0 w L) (fun a' => ∀ w', St S w0 w' L → n (wd ds a') w') ops (fr l)) : (Code.region id ops.toArray true).wp P (Qz pn n rr ex) (frd ds l) w := by
  simp only [Region.lexB, Bool.and_eq_true] at hB
  refine z_any (Q := Qr (fun _ _ _ => False) n ds) hm (fun e a w q => by
    cases e with
    | normal => exact q
    | panic ch => obtain ⟨_, _, h⟩ := q; exact h.elim
    | exit i => exact q.elim
    | _ => exact q.elim) (wpAny_of_quiet (C := fun w => St S w0 w L) (Q := fun a' => ∀ w', St S w0 w' L → n (wd ds a') w') (fun _ w' hw' h => h w' hw') _ _ _ _ (hS.ext (Ext.drew w)) ?_)
  have := wpAnyQ_lex (C := fun w => St S w0 w L) (md := .any) hB.1 ops 0 (Array.replicate ops.toArray.size false) (fr l) (by simp) (by simpa using hB.2) h.run
  simpa using this
theorem z_loop {c : Code} (V : List Nat) (I : Nat → (Nat → Value) → World → Prop) (m0 : Nat) (h0 : I m0 (fun d => l.getD d undef) w)
    (hr : ∀ m f w, I m f w → c.wp P (Qz pn (LoopJd ds I l V m) rr ex) (frd ds (clob l V f)) w) : (Code.loop c).wp P (Qz pn n rr ex) (frd ds l) w := by
  let J : Nat → Act → World → Prop := fun m a w => ∃ f, a = frd ds (clob l V f) ∧ I m f w
  refine wp_loop (fun a w => ∃ m, J m a w) (fun a w => Classical.epsilon fun k => J k a w ∧ ∀ j, J j a w → k ≤ j) ⟨m0, fun d => l.getD d undef, by rw [clob_self], h0⟩ ?_
  rintro a1 w1 ⟨m1, hJ1⟩
  have hk := Classical.epsilon_spec (least_ex (q := fun k => J k a1 w1) hJ1)
  generalize hke : (Classical.epsilon fun k => J k a1 w1 ∧ ∀ j, J j a1 w1 → k ≤ j) = k at hk ⊢
  obtain ⟨⟨f1, rfl, hI1⟩, hmin⟩ := hk
  refine wp_mono (hr k f1 w1 hI1) fun e a2 w2 q => ?_
  cases e with
  | normal =>
    obtain ⟨m2, f2, rfl, hI2, hlt⟩ := q
    have hJ2 : J m2 (frd ds (clob l V f2)) w2 := ⟨f2, rfl, hI2⟩
    refine ⟨⟨m2, hJ2⟩, ?_⟩
    have hs := Classical.epsilon_spec (least_ex (q := fun k => J k (frd ds (clob l V f2)) w2) hJ2)
    exact Nat.lt_of_le_of_lt (hs.2 m2 hJ2) hlt
  | ret => exact q
  | exit i => exact q
  | goto i => exact q.elim
  | panic ch => exact q
  | outgrown => exact q.elim
/-- a region whose last operation defers a call of a function value -/
theorem z_defer {id : Nat} {ops : List Oper} (m : Nat) {t : Nat} {ty : TypeId} {pos : String} {aft : Array Edge}
    (hops : ops.drop m = [(⟨none, .defer { callee := .value (.tmp t), args := #[], argTypes := #[] }, ty, pos, aft, none⟩ : Oper)])
    (h : WL P ops.toArray (Qz (fun _ _ _ => False) (fun a w => ∃ l' fn cap, a = fr l' ∧ l'.getD t undef = .func fn #[] cap ∧ n (frd ({ target := .fn fn cap, args := #[] } :: ds) l') w) (fun _ _ => False) []) (ops.take m) (fr l) w) :
    (Code.region id ops.toArray false).wp P (Qz pn n rr ex) (frd ds l) w := by
  refine wp_region_lit ?_
  have := list_lift (P := P) (ds := ds) (Q2 := Qz pn n rr ex) (rest := ops.drop m) (fun e a w hne q => by
    cases e with
    | normal => exact (hne rfl).elim
    | panic ch => obtain ⟨_, _, h⟩ := q; exact h.elim
    | exit i => exact q.elim
    | _ => exact q.elim) (fun a w q => by
      obtain ⟨l', fn, cap, rfl, hv, hn⟩ := q
      rw [hops]
      unfold wpList
      rw [if_pos (by simp [Region.wanted])]
      refine .inl ?_
      have hv' : opv l' (.tmp t) = .func fn #[] cap := hv
      unfold Oper.wp
      rw [wd_eval, eval_fr]
      have hr : (execOp (opv l') (⟨none, .defer { callee := .value (.tmp t), args := #[], argTypes := #[] }, ty, pos, aft, none⟩ : Oper)).run P w = .ok (.defer { target := .fn fn cap, args := #[] }) w := by
        simp [execOp, resolve, hv', Deferred.ofValue]
      rw [hr, Oper.upon_defer]
      exact hn) qz_out (ops.take m) _ _ h.run
  rwa [List.take_append_drop] at this
end
section
variable {P : Program} {ops : Array Oper} {pn : Act → Value → World → Prop} {n rr : Act → World → Prop} {ex : List (Nat × (Act → World → Prop))} {rest : List Oper} {l : List Value} {w : World} {d : Nat} {ty : TypeId} {pos : String} {aft : Array Edge}
theorem zp_panic {x : Operand} {T : TypeId} {v : Value} (hx : opv l x = .iface T v := by rfl) (h : pn (fr l) (.iface T v) w) : WL P ops (Qz pn n rr ex) (⟨none, .panic x, ty, pos, aft, none⟩ :: rest) (fr l) w :=
  wl_plain rfl fun K hK => by
    unfold Oper.wp
    rw [eval_fr]
    have hr : (execOp (opv l) ⟨none, .panic x, ty, pos, aft, none⟩).run P w = .halt (.panic (.iface T v)) w := by
      simp [execOp, hx, Instr.panic, goPanic]
    rw [hr, Oper.upon_panic]
    exact ⟨_, rfl, h⟩
theorem zp_any {o : Oper} {f : Nat} {args : Array Value} {K : Act → World → Prop} (hr : (execOp (opv l) o).run P w = .ok (.enter f args) w) (h : CallP P f args w (fun v w'' => K ((fr l).put o.dst v) w'') (fun v w'' => pn (fr l) v w'')) : o.wp P (fr l) w K (Qz pn n rr ex) := by
  unfold Oper.wp
  rw [eval_fr, hr, Oper.upon_enter]
  refine Calls.mono h ?_
  rintro e w1 (⟨v, rfl, q⟩ | ⟨v, rfl, q⟩)
  · exact q
  · exact ⟨v, rfl, q⟩
theorem zp_call {f : Nat} {args : Array Operand} {tys : Array TypeId} (he : Enters P f) (h : CallP P f (args.map (opv l)) w (fun v w'' => WL P ops (Qz pn n rr ex) rest (fr (l.set d v)) w'') (fun v w'' => pn (fr l) v w'')) : WL P ops (Qz pn n rr ex) (⟨some d, .call { callee := .value (.func f), args := args, argTypes := tys }, ty, pos, aft, none⟩ :: rest) (fr l) w :=
  wl_plain rfl fun K hK => by
    have := he (args.map (opv l) ++ #[]) w
    simp only [Array.append_empty] at this
    refine zp_any (f := f) (args := args.map (opv l)) (by simp [execOp, resolve, opv, Deferred.ofValue, invoke, this]) (h.mono (fun v w1 q => ?_) fun v w1 q => q)
    show K ((fr l).put (some d) v) w1
    rw [put_fr]; exact hK _ _ q
theorem zp_callv {t f : Nat} {args : Array Operand} {tys : Array TypeId} {cap : Array Value} (hv : l.getD t undef = .func (.func f) #[] cap) (he : Enters P f) (h : CallP P f (args.map (opv l) ++ cap) w (fun v w'' => WL P ops (Qz pn n rr ex) rest (fr (l.set d v)) w'') (fun v w'' => pn (fr l) v w'')) : WL P ops (Qz pn n rr ex) (⟨some d, .call { callee := .value (.tmp t), args := args, argTypes := tys }, ty, pos, aft, none⟩ :: rest) (fr l) w :=
  wl_plain rfl fun K hK => by
    have := he (args.map (opv l) ++ cap) w
    have hv' : opv l (.tmp t) = .func (.func f) #[] cap := hv
    refine zp_any (f := f) (args := args.map (opv l) ++ cap) (by simp [execOp, resolve, hv', Deferred.ofValue, invoke, this]) (h.mono (fun v w1 q => ?_) fun v w1 q => q)
    show K ((fr l).put (some d) v) w1
    rw [put_fr]; exact hK _ _ q
theorem s_assert_ok {x : Operand} {xT T : TypeId} {dsc : TypeDesc} {v : Value} (hu : P.underlying T = some dsc) (hd : (match dsc with | .interface _ => false | _ => true) = true := by rfl) (hx : opv l x = .iface T v := by rfl) : Go1 P l w ⟨some d, .typeAssert x xT T true, ty, pos, aft, none⟩ (.tuple #[v, .bool true]) := by
  unfold Go1
  cases dsc <;> simp_all [execOp, Instr.typeAssert, run_underlying hu]
theorem s_neq_held {x y : Operand} {T yT U : TypeId} {v : Value} (hT : P.underlying T = some (.interface (P.methodsAt T))) (hx : opv l x = .iface U v := by rfl) (hy : opv l y = .nilIface := by rfl) : Go1 P l w ⟨some d, .binOp .neq T x y yT, ty, pos, aft, none⟩ (.bool true) := by
  unfold Go1
  simp [execOp, hx, hy, eqGuard, run_neq_held_nil (w := w) (t := T) (u := U) (x := v) hT]
theorem s_neq_nils {x : Operand} {T yT : TypeId} (hT : P.underlying T = some (.interface (P.methodsAt T))) (hx : opv l x = .nilIface := by rfl) : Go1 P l w ⟨some d, .binOp .neq T x (.const .nilIface) yT, ty, pos, aft, none⟩ (.bool false) := by
  have hy : opv l (.const .nilIface) = .nilIface := rfl
  unfold Go1
  have h := run_equal_nil_nil (P := P) (w := w) (t := T) hT
  simp [execOp, hx, hy, eqGuard, binOp, h]
/-- the call of recover, and the assignment of what it hands back -/
theorem rec_some {id d2 : Nat} {ty2 : TypeId} {pos2 : String} {aft2 : Array Edge} {Q : Exit → Act → List Frame → World → Prop} {cs cs' : List Frame} {v : Value} (hr : recoverD cs = some (v, cs')) (hd : d < l.length) (h : Q .normal (frd [] ((l.set d v).set d2 v)) cs' w) :
    (Code.region id #[⟨some d, .call { callee := .builtin .recover, args := #[], argTypes := #[] }, ty, pos, aft, none⟩, ⟨some d2, .assign (.tmp d), ty2, pos2, aft2, none⟩] false).wpS P Q (frd [] l) cs w := by
  refine wpS_region ?_
  have e1 : (execOp (frd [] l).eval ⟨some d, .call { callee := .builtin .recover, args := #[], argTypes := #[] }, ty, pos, aft, none⟩).run P w = .ok .recover w := by simp [execOp, resolve, invoke, builtin]
  have e2 : (frd [] l).put (some d) v = frd [] (l.set d v) := put_frd _ _ _ _
  have e3 : (execOp (frd [] (l.set d v)).eval ⟨some d2, .assign (.tmp d), ty2, pos2, aft2, none⟩).run P w = .ok (.value v) w := by
    rw [eval_frd]; simp [execOp, opv, List.getD_eq_getElem?_getD, hd]
  show wpOpsS P _ Q [0, 1] (frd [] l) cs w
  simp only [wpOpsS, List.getElem?_toArray, List.getElem?_cons_zero, List.getElem?_cons_succ, Region.wanted, if_true, e1, hr, e2, e3, Oper.upon, put_frd]
  exact h
theorem rec_none {id d2 : Nat} {ty2 : TypeId} {pos2 : String} {aft2 : Array Edge} {Q : Exit → Act → List Frame → World → Prop} {cs : List Frame} (hr : recoverD cs = none) (hd : d < l.length) (h : Q .normal (frd [] ((l.set d .nilIface).set d2 .nilIface)) cs w) :
    (Code.region id #[⟨some d, .call { callee := .builtin .recover, args := #[], argTypes := #[] }, ty, pos, aft, none⟩, ⟨some d2, .assign (.tmp d), ty2, pos2, aft2, none⟩] false).wpS P Q (frd [] l) cs w := by
  refine wpS_region ?_
  have e1 : (execOp (frd [] l).eval ⟨some d, .call { callee := .builtin .recover, args := #[], argTypes := #[] }, ty, pos, aft, none⟩).run P w = .ok .recover w := by simp [execOp, resolve, invoke, builtin]
  have e2 : (frd [] l).put (some d) .nilIface = frd [] (l.set d .nilIface) := put_frd _ _ _ _
  have e3 : (execOp (frd [] (l.set d .nilIface)).eval ⟨some d2, .assign (.tmp d), ty2, pos2, aft2, none⟩).run P w = .ok (.value .nilIface) w := by
    rw [eval_frd]; simp [execOp, opv, List.getD_eq_getElem?_getD, hd]
  show wpOpsS P _ Q [0, 1] (frd [] l) cs w
  simp only [wpOpsS, List.getElem?_toArray, List.getElem?_cons_zero, List.getElem?_cons_succ, Region.wanted, if_true, e1, hr, e2, e3, Oper.upon, put_frd]
  exact h
end
section
variable {P : Program} {f : FuncId} {fn : Func} {c : Code} {args : Array Value} {w : World} {R E : Value → World → Prop} {l : List Value}
/-- the panic of a function that defers nothing -/
def Pn0 (E : Value → World → Prop) (a : Act) (v : Value) (w : World) : Prop := a.defers = [] ∧ E v w
theorem z_enter (hf : P.funcs[f]? = some fn) (hb : fn.body = some c) (hl : (args ++ Array.replicate (fn.ntmps - args.size) undef) = l.toArray)
    (h : c.wp P (Qz (Pn0 E) (Rt P fn R) (Rt P fn R) []) (frd [] l) w) : CallP P f args w R E := by
  refine calls_of_wp hf hb ?_
  rw [hl]
  refine wp_mono h fun e a w' q => ?_
  cases e with
  | normal => obtain ⟨h1, v, h2, h3⟩ := q; exact ⟨h1, v, h2, .inl ⟨v, rfl, h3⟩⟩
  | ret => obtain ⟨h1, v, h2, h3⟩ := q; exact ⟨h1, v, h2, .inl ⟨v, rfl, h3⟩⟩
  | exit i => exact q.elim
  | goto i => exact q.elim
  | panic ch => obtain ⟨v, rfl, h1, h2⟩ := q; exact ⟨h1, .inr ⟨v, rfl, h2⟩⟩
  | outgrown => exact q.elim
theorem rz {R : Value → World → Prop} (h : Rt P fn R (fr l) w) : Rt P fn R (frd [] l) w := h
/-- the end of a function that defers -/
def RtD (P : Program) (fn : Func) (R : Value → World → Prop) (a : Act) (w : World) : Prop := Leaves P fn a.tmps (fun e w' => ∃ v, e = .returned v ∧ R v w') a.defers .returning w
def PnD (P : Program) (fn : Func) (R : Value → World → Prop) (a : Act) (v : Value) (w : World) : Prop := Leaves P fn a.tmps (fun e w' => ∃ v, e = .returned v ∧ R v w') a.defers (.panicking [{ v := v, recovered := false }]) w
theorem d_enter {pn : Act → Value → World → Prop} (hf : P.funcs[f]? = some fn) (hb : fn.body = some c) (hl : (args ++ Array.replicate (fn.ntmps - args.size) undef) = l.toArray)
    (h : c.wp P (Qz pn (RtD P fn R) (RtD P fn R) []) (frd [] l) w) (hp : ∀ a v w', pn a v w' → PnD P fn R a v w') : CallR P f args w R := by
  refine calls_of_wp_defers hf hb ?_
  rw [hl]
  refine wp_mono h fun e a w' q => ?_
  cases e with
  | normal => exact q
  | ret => exact q
  | exit i => exact q.elim
  | goto i => exact q.elim
  | panic ch => obtain ⟨v, rfl, h1⟩ := q; exact hp _ _ _ h1
  | outgrown => exact q.elim
/-- the code of a deferred function behind its recover -/
theorem s_body {c₀ : Frame} {cs : List Frame} {u1 : FrameMode} (h : c.wp P (Qz (fun _ _ _ => False) (Rt P fn R) (Rt P fn R) []) (frd [] l) w) :
    c.wpS P (bodyPostS P fn c₀ cs (fun e u' w' => u' = u1 ∧ ∃ v, e = .returned v ∧ R v w')) (frd [] l) ({ c₀ with mode := u1 } :: cs) w := by
  refine wpS_of_wp (wp_mono h fun e a w' q => ?_)
  cases e with
  | normal => obtain ⟨h1, v, h2, h3⟩ := q; exact ⟨h1, u1, rfl, v, h2, rfl, v, rfl, h3⟩
  | ret => obtain ⟨h1, v, h2, h3⟩ := q; exact ⟨h1, u1, rfl, v, h2, rfl, v, rfl, h3⟩
  | exit i => exact q.elim
  | goto i => exact q.elim
  | panic ch => obtain ⟨_, _, h⟩ := q; exact h.elim
  | outgrown => exact q.elim
end
section
variable {P : Program} {md : Region.Mode} {ops : Array Oper} {C : World → Prop} {lt : List Nat} {Q : Exit → Act → World → Prop}
theorem wpOp_putZ {j : Nat} {oi oj : Oper} {v : Value} (hj : ops[j]? = some oj) (hap : oi.apart ops oj = true)
    (hsi : ∀ cs b, oi.op ≠ .select cs b) (hsj : ∀ cs b, oj.op ≠ .select cs b)
    (hQ : ∀ c a w, Q (.panic c) (a.put oi.dst v) w → Q (.panic c) a w) {K : Act → World → Prop} {a : Act} {w : World}
    (hy : YieldsE P ops C oi v a) (h : wpOp P ops Q j K (a.put oi.dst v) w) :
    wpOp P ops Q j (fun a' w' => YieldsE P ops C oi v a' ∧ K (a'.put oi.dst v) w') a w := by
  obtain ⟨h1, h2, h3⟩ := Oper.apart_spec hap
  have keep : ∀ (a : Act), YieldsE P ops C oi v a → ∀ u, YieldsE P ops C oi v (a.put oj.dst u) := fun a hy u =>
    hy.of_same (execOp_put oi hsi a oj.dst u h3) (wanted_put oi a oj.dst u h3)
  have keepD : ∀ d, YieldsE P ops C oi v { a with defers := d :: a.defers } := fun d => hy.of_same rfl rfl
  unfold wpOp at *
  simp only [hj] at *
  rw [wanted_put oj a oi.dst v h1] at h
  split
  · rename_i hw
    simp only [hw, if_true] at h
    rcases h with h | ⟨hasks, hlets⟩
    case inr => exact .inr ⟨by unfold Oper.asks at *; rw [execOp_put oj hsj a oi.dst v h1] at hasks; exact hasks, hlets⟩
    refine .inl ?_
    unfold Oper.wp at *
    rw [execOp_put oj hsj a oi.dst v h1] at h
    generalize (execOp a.eval oj).run P w = r at *
    cases r with
    | ok n w' =>
      cases n <;> simp only [Oper.upon] at h ⊢
      case value u => exact ⟨keep a hy u, by rw [← Act.put_comm a v u h2]; exact h⟩
      case skip => exact ⟨keep a hy _, by rw [← Act.put_comm a v undef h2]; exact h⟩
      case defer d =>
        refine ⟨keep _ (keepD d) _, ?_⟩
        rw [← Act.put_comm _ v undef h2, ← Act.put_defers]
        exact h
      case enter f args =>
        refine Calls.mono h fun e w'' he => ?_
        cases e with
        | returned u => exact ⟨keep a hy u, by rw [← Act.put_comm a v u h2]; exact he⟩
        | panicked c => exact hQ _ _ _ he
        | outgrown => exact he
      case row row args => exact Rows.mono h fun u w'' he => ⟨keep a hy u, by rw [← Act.put_comm a v u h2]; exact he⟩
    | halt x w' =>
      cases x <;> simp only [Oper.upon] at h ⊢
      case panic u => exact hQ _ _ _ h
  · rename_i hw
    simp only [hw] at h
    exact ⟨keep a hy _, by rw [← Act.put_comm a v undef h2]; exact h⟩
theorem AnyE.firstZ {i : Nat} {oi : Oper} {v : Value} (hil : i ∉ lt) (hlw : ∀ k ∈ lt, ∀ o, ops[k]? = some o → ∃ e ∈ o.after, Region.binds md e = true ∧ e.on = i) (hi : ops[i]? = some oi) (hsel : ∀ (j : Nat) (o : Oper) cs b, ops[j]? = some o → o.op ≠ .select cs b) (hQ : ∀ c a w, Q (.panic c) (a.put oi.dst v) w → Q (.panic c) a w) :
    ∀ (fuel : Nat) (listed : Array Bool) (a : Act) (w : World), noLate lt listed →
      (∀ j oj, ops[j]? = some oj → j ≠ i → listed.getD j true = false → (∀ e ∈ oj.after, Region.binds md e = true → e.on ≠ i) → oi.apart ops oj = true) →
      i ∈ Region.ready md ops listed → YieldsE P ops C oi v a →
      AnyE P md ops C lt Q fuel (listed.setIfInBounds i true) (a.put oi.dst v) w → AnyE P md ops C lt Q (fuel + 1) listed a w := by
  intro fuel
  induction fuel with
  | zero =>
    intro listed a w hnl _ hr hy H w1 hE
    have H1 := H.ext hE
    have hcl := H1.cls (noLate_set hil hnl)
    refine ⟨fun _ => hcl, fun h => (by rw [h] at hr; cases hr), fun j hj => ?_⟩
    by_cases hji : j = i
    · subst hji; exact hy.wpOp hi hcl fun w' hE' => H1.ext hE'
    · have := ready_mono hj hji
      rw [(H1 w1 Ext.rfl').2.1] at this
      cases this
  | succ fuel ih =>
    intro listed a w hnl hfree hr hy H w1 hE
    have H1 := H.ext hE
    have hcl := H1.cls (noLate_set hil hnl)
    refine ⟨fun _ => hcl, fun h => (by rw [h] at hr; cases hr), fun j hj => ?_⟩
    by_cases hji : j = i
    · subst hji; exact hy.wpOp hi hcl fun w' hE' => H1.ext hE'
    · have h1 := (H1 w1 Ext.rfl').2.2 j (ready_mono hj hji)
      obtain ⟨hjun, oj, hoj, hall⟩ := mem_ready.1 hj
      have hnot : ∀ e ∈ oj.after, Region.binds md e = true → e.on ≠ i := fun e he hb heq => by
        have h1 := hall e he hb
        have h0 := (mem_ready.1 hr).1
        rw [heq] at h1
        rcases Nat.lt_or_ge i listed.size with h' | h'
        · simp [h'] at h0 h1; rw [h0] at h1; cases h1
        · simp [Array.getElem?_eq_none h'] at h1
      have h2 := wpOp_putZ hoj (hfree j oj hoj hji hjun hnot) (fun cs b => hsel i oi cs b hi) (fun cs b => hsel j oj cs b hoj) hQ hy h1
      have hfree' : ∀ k ok, ops[k]? = some ok → k ≠ i → (listed.setIfInBounds j true).getD k true = false →
          (∀ e ∈ ok.after, Region.binds md e = true → e.on ≠ i) → oi.apart ops ok = true := fun k ok hk hki hun hno => by
        refine hfree k ok hk hki ?_ hno
        by_cases hjk : j = k
        · subst hjk; exact hjun
        · rw [getD_set_ne true hjk] at hun; exact hun
      have hjl : j ∉ lt := fun hjl => by
        obtain ⟨e, he, hb, hon⟩ := hlw j hjl oj hoj
        exact hnot e he hb hon
      refine wpOp_mono (fun a' w' h3 => ih (listed.setIfInBounds j true) a' w' (noLate_set hjl hnl) hfree' (ready_mono hr (Ne.symm hji)) h3.1 ?_) h2
      rw [Array.setIfInBounds_comm _ _ hji]
      exact h3.2
end
section
variable {P : Program} {pn : Act → Value → World → Prop} {n r rr : Act → World → Prop} {ex : List (Nat × (Act → World → Prop))} {w w0 : World} {l : List Value} {M : Act → World → Prop} {a : Act} {ds : List Deferred} {S : Nat → Prop} {L : List Res}
variable {ops : Array Oper} {C : World → Prop} {lt : List Nat} {listed : Array Bool} {k i d : Nat} {v : Value} {ty : TypeId} {pos : String} {aft : Array Edge}
/-- what is told of a panic does not hang on the slots from lo on -/
def PnOK (lo : Nat) (pn : Act → Value → World → Prop) : Prop := ∀ d u a v w, lo ≤ d → pn (a.put (some d) u) v w → pn a v w
theorem PnOK.zero {E : Value → World → Prop} : PnOK 0 (Pn0 E) := fun _ _ _ _ _ _ h => h
theorem PnOK.no : PnOK 0 (fun _ _ _ => False) := fun _ _ _ _ _ _ h => h
theorem PnOK.wd {lo : Nat} (h : PnOK lo pn) : PnOK lo (fun a v w => pn (wd ds a) v w) := fun d u a v w hd hp => h d u _ v w hd (by rw [wd_put]; exact hp)
theorem Qz_put {lo : Nat} (h : PnOK lo pn) (hd : lo ≤ d) : ∀ c a w, Qz pn n r ex (.panic c) (a.put (some d) v) w → Qz pn n r ex (.panic c) a w := fun c a w ⟨u, e, q⟩ => ⟨u, e, h d v a u w hd q⟩
theorem z_mixed_c {id : Nat} {ops : List Oper} {Lc : List Res} (lt : List Nat) (V : List Nat) (R : (Nat → Value) → World → Prop) (hm : P.follows .mixedOrders = true) (hS : St S w0 w L)
    (h : ∀ w', St S w0 w' L → AnyE P .any ops.toArray (fun w => St S w0 w Lc) lt (Qz (fun a v w => pn (wd ds a) v w) (MixM l V R) (fun _ _ => False) []) ops.length (Array.replicate ops.length false) (fr l) w')
    (hM : ∀ f w', R f w' → n (frd ds (clob l V f)) w') : (Code.region id ops.toArray true).wp P (Qz pn n rr ex) (frd ds l) w := by
  refine z_any (Q := Qz (fun a v w => pn (wd ds a) v w) (MixM l V R) (fun _ _ => False) []) hm (fun e a w q => ?_) (AnyE.any (C := fun w => St S w0 w Lc) (lt := lt) _ ?_)
  · cases e with
    | normal => obtain ⟨f, e, hR⟩ := q; subst e; exact hM f w hR
    | panic ch => exact q
    | exit i => exact q.elim
    | _ => exact q.elim
  · have := h _ (hS.ext (Ext.drew w))
    simpa using this
theorem z_mixed_f {id : Nat} {ops : List Oper} (lt : List Nat) (V : List Nat) (R : (Nat → Value) → World → Prop) (hm : P.follows .mixedOrders = true) (hS : St S w0 w L)
    (h : ∀ w', St S w0 w' L → AnyE P .any ops.toArray (fun w => St S w0 w L) lt (Qz (fun a v w => pn (wd ds a) v w) (MixM l V R) (fun _ _ => False) []) ops.length (Array.replicate ops.length false) (fr l) w')
    (hM : ∀ f w', R f w' → n (frd ds (clob l V f)) w') : (Code.region id ops.toArray true).wp P (Qz pn n rr ex) (frd ds l) w := z_mixed_c (Lc := L) lt V R hm hS h hM
theorem zny_take {o : Oper} (hQ : ∀ c a w, Qz pn M r ex (.panic c) (a.put o.dst v) w → Qz pn M r ex (.panic c) a w) (ho : ops[i]? = some o) (hB : takeB ops lt listed i = true) (hs : Region.noSelect ops = true) (hnl : noLate lt listed) (hy : YieldsE P ops C o v a)
    (h : AnyE P .any ops C lt (Qz pn M r ex) k (listed.setIfInBounds i true) (a.put o.dst v) w) : AnyE P .any ops C lt (Qz pn M r ex) (k + 1) listed a w := by
  simp only [takeB, Bool.and_eq_true] at hB
  obtain ⟨⟨hlB, hr⟩, hf⟩ := hB
  simp only [lateB, Bool.and_eq_true, Bool.not_eq_true', List.all_eq_true] at hlB
  have hil : i ∉ lt := fun hk => by have := hlB.1; simp [hk] at this
  have hlw : ∀ k' ∈ lt, ∀ o', ops[k']? = some o' → ∃ e ∈ o'.after, Region.binds .any e = true ∧ e.on = i := fun k' hk' o' ho' => by
    have := hlB.2 k' hk'
    rw [ho'] at this
    obtain ⟨e, he, hb⟩ := Array.any_eq_true'.1 this
    simp only [Bool.and_eq_true, beq_iff_eq] at hb
    exact ⟨e, he, hb.1, hb.2⟩
  exact AnyE.firstZ hil hlw ho (Region.noSelect_spec hs) hQ k listed a w hnl (Region.free_spec ho hf) (by simpa using hr) hy h
theorem zny_go {op : Op} {g : Option (Nat × Bool)} {lo : Nat} (hp : PnOK lo pn) (ho : ops[i]? = some ⟨some d, op, ty, pos, aft, g⟩) (hd : lo ≤ d) (hB : takeB ops lt listed i = true) (hs : Region.noSelect ops = true) (hnl : noLate lt listed) (hy : YieldsE P ops C ⟨some d, op, ty, pos, aft, g⟩ v (fr l))
    (h : AnyE P .any ops C lt (Qz pn M r ex) k (listed.setIfInBounds i true) (fr (l.set d v)) w) : AnyE P .any ops C lt (Qz pn M r ex) (k + 1) listed (fr l) w :=
  zny_take (Qz_put hp hd) ho hB hs hnl hy (by rw [put_fr]; exact h)
theorem zny_nil {listed : Array Bool} (hr : Region.ready .any ops listed = []) (h : ∀ w1, Ext w w1 → (noLate lt listed → C w1) ∧ M a w1) : AnyE P .any ops C lt (Qz pn M r ex) 0 listed a w := fun w1 hE => ⟨(h w1 hE).1, hr, (h w1 hE).2⟩
theorem zny_step {k : Nat} {listed : Array Bool} (is : List Nat) (hr : Region.ready .any ops listed = is) (hne : is ≠ []) (h : ∀ w1, Ext w w1 → (noLate lt listed → C w1) ∧ ∀ i ∈ is, wpOp P ops (Qz pn M r ex) i (AnyE P .any ops C lt (Qz pn M r ex) k (listed.setIfInBounds i true)) a w1) : AnyE P .any ops C lt (Qz pn M r ex) (k + 1) listed a w := fun w1 hE => by
  refine ⟨(h w1 hE).1, fun h0 => absurd (hr.symm.trans h0) hne, fun i hi => (h w1 hE).2 i (hr ▸ hi)⟩
theorem zny_op {i : Nat} {o : Oper} {K : Act → World → Prop} (ho : ops[i]? = some o) (h : WL P ops (Qz pn K r ex) [o] a w) : wpOp P ops (Qz pn M r ex) i K a w := by
  replace h := h.run
  unfold wpList at h
  unfold Go.wpOp
  simp only [ho]
  split
  · rename_i hw
    rw [if_pos hw] at h
    rcases h with h | ⟨_, a', w', h⟩
    · refine .inl ?_
      unfold Oper.wp at *
      generalize (execOp a.eval o).run P w = q at *
      cases q with
      | ok n w' =>
        cases n <;> simp only [Oper.upon] at h ⊢
        case enter f args =>
          refine Calls.mono h fun e w'' he => ?_
          cases e with
          | returned u => exact he
          | panicked c => exact he
          | outgrown => obtain ⟨_, _, h⟩ := he; exact h.elim
        all_goals exact h
      | halt x w' =>
        cases x <;> simp only [Oper.upon] at h ⊢
        case panic u => exact h
    · exact h.elim
  · rename_i hw
    rw [if_neg hw] at h
    exact h
theorem z_nil {K : Act → World → Prop} (h : K a w) : WL P ops (Qz pn K r ex) [] a w := ⟨h⟩
end
end Go.Proofs.YtpekghaodmeemaaGreat
set_option linter.unusedSimpArgs false
set_option linter.unusedVariables false
namespace Go.Proofs.YtpekghaodmeemaaGreat
open Go.RowKit
/-- what a type's method is: its function, and whether it takes the pointer -/
def MT (P : Program) (T : TypeId) (name : String) (f : FuncId) (pr : Bool) : Prop := (P.info? T).bind (fun i => (i.methods.find? (·.name == name)).map fun m => (m.path.toList, m.func)) = some ([], some (f, pr))
theorem MT.get {P : Program} {T : TypeId} {name : String} {f : FuncId} {pr : Bool} (h : MT P T name f pr) : ∃ i m, P.info? T = some i ∧ i.methods.find? (·.name == name) = some m ∧ m.path.toList = [] ∧ m.func = some (f, pr) := by
  unfold MT at h
  cases hi : P.info? T with
  | none => rw [hi] at h; cases h
  | some i =>
    rw [hi] at h
    simp only [Option.bind_some] at h
    cases hm : i.methods.find? (·.name == name) with
    | none => rw [hm] at h; cases h
    | some m =>
      rw [hm] at h
      simp only [Option.map_some, Option.some.injEq, Prod.mk.injEq] at h
      exact ⟨i, m, rfl, hm, h.1, h.2⟩
section
variable {P : Program} {ops : Array Oper} {Q : Exit → Act → World → Prop} {rest : List Oper} {l : List Value} {w w0 : World} {d : Nat} {ty : TypeId} {pos : String} {aft : Array Edge} {S : Nat → Prop} {L L' : List Res}
theorem s_iface {x : Operand} {T : TypeId} {dsc : TypeDesc} (hu : P.underlying T = some dsc) (hd : (match dsc with | .interface _ => false | _ => true) = true := by rfl) : Go1 P l w ⟨some d, .makeInterface T x, ty, pos, aft, none⟩ (.iface T (opv l x)) := by
  unfold Go1
  cases dsc <;> simp_all [execOp, Instr.makeInterface, run_underlying hu]
end
end Go.Proofs.YtpekghaodmeemaaGreat
set_option linter.unusedSimpArgs false
set_option linter.unusedVariables false
set_option maxHeartbeats 1000000
set_option maxRecDepth 100000
namespace Go.Proofs.YtpekghaodmeemaaGreat
open Go.RowKit

theorem tot_cons (a : List Int) (s : List (List Int)) (c : Nat) (it : List Int) : totL (a :: s) c it = totA c it a + totL s c it := rfl
def totO (c : Nat) (it k : List Int) : Option (List Int) → Int
  | none => 0
  | some v => totA c it (k ++ v)
theorem tot_ins {a : List Int} (ha : AtomOk a) {c : Nat} {it : List Int} : ∀ {s : List (List Int)}, StaR s → totL (insA a s) c it + totO c it (akey a) (fnd (akey a) s) = totL s c it + totO c it (akey a) (moreO (fnd (akey a) s) (some (aval a)))
  | [], _ => by simp [insA, fnd, moreO, totO, totL, kv_atom]
  | b :: s, h => by
    have hb := h.ok b (by simp)
    rw [insA, fnd]
    by_cases e : akey b = akey a
    · have e2 : akey a ++ aval b = b := by rw [← e, kv_atom]
      rw [if_pos e, if_pos e, tot_cons, tot_cons]
      simp only [moreO, totO]
      rw [e2]; omega
    · rw [if_neg e, if_neg e]
      cases hlt : keyLt (akey a) (akey b)
      · simp only [Bool.false_eq_true, if_false]
        rw [tot_cons, tot_cons]
        have := tot_ins ha (c := c) (it := it) h.tail
        omega
      · simp only [if_true]
        have : fnd (akey a) s = none := fnd_none.2 fun d hd h2 => by
          rw [lt_rank ha.key hb.key] at hlt
          have hlt := of_decide_eq_true hlt
          have h3 := h.head d hd
          rw [h2] at h3; omega
        rw [this, tot_cons a]
        simp only [moreO, totO, kv_atom]; omega
theorem totA_turn {s r c : Nat} {it v : List Int} (hs : s = 2 ∨ s = 3) (h8 : it.length = 8) (c' : Nat) : totA c' it (turnK s r c it ++ v) = if c = c' then (if s = 2 then (kn v 0 : Int) else -(kn v 0 : Int)) else 0 := by
  have hk : (turnK s r c it).length = 12 := mkKey_len h8
  have e0 : kn (turnK s r c it ++ v) 0 = s := rfl
  have e1 : kn (turnK s r c it ++ v) 1 = c := rfl
  have e2 : kitem (turnK s r c it) = it := mk_item h8
  unfold totA
  rw [akey_kv hk, aval_kv hk, e0, e1, e2]
  by_cases h : c = c'
  · rw [if_pos ⟨hs, h, rfl⟩, if_pos h]
  · rw [if_neg (fun q => h q.2.1), if_neg h]
theorem turnE_iff {l : List (List Int)} {s r c : Nat} {it : List Int} {n : Int} (h : turnE l s r c it n = 0) : r < 16 ∧ 0 ≤ n ∧ nright it = true ∧ (halfN l (turnK s r c it) : Int) + n ≤ 4294967295 := by
  unfold turnE at h
  split at h
  · cases h
  · next h1 =>
    split at h
    · cases h
    · next h2 =>
      refine ⟨by omega, by omega, ?_, by omega⟩
      cases hn : nright it
      · exact absurd (.inr (.inr hn)) h1
      · rfl
theorem turnA_r {l : List (List Int)} {s r c : Nat} {it : List Int} {n : Int} (hs : s = 2 ∨ s = 3) (h8 : it.length = 8) (h : turnE l s r c it n = 0) (hn : ¬ n = 0) : atomR (turnA l s r c it n) = true := by
  obtain ⟨h1, h2, h3, h4⟩ := turnE_iff h
  have hk : (turnK s r c it).length = 12 := mkKey_len h8
  have e0 : kn (turnK s r c it) 0 = s := rfl
  have e1 : kn (turnK s r c it) 11 = 0 := mk_11 h8
  have e2 : kn (turnK s r c it) 10 = r := mk_10 h8
  have e3 : kitem (turnK s r c it) = it := mk_item h8
  have e4 : kn (turnA l s r c it n) 0 = s := rfl
  have e5 : aval (turnA l s r c it n) = mkV (halfN l (turnK s r c it) + n.toNat) nm0 := by rw [turnA, aval_kv hk]
  have e6 : akey (turnA l s r c it n) = turnK s r c it := by rw [turnA, akey_kv hk]
  have e7 : kn (mkV (halfN l (turnK s r c it) + n.toNat) nm0) 0 = halfN l (turnK s r c it) + n.toNat := by
    show ((halfN l (turnK s r c it) + n.toNat : Nat) : Int).toNat = _; omega
  rw [atomR, e6, e5, e4, Bool.and_eq_true]
  constructor
  · rw [keyR, e0, if_neg (by omega), if_neg (by omega), if_pos hs, e1, e2, e3, h3]; simp [h1]
  · rw [valR, if_neg (by omega), if_pos hs, Bool.and_eq_true, e7]
    exact ⟨decide_eq_true rfl, decide_eq_true ⟨by omega, by omega⟩⟩
theorem turn_more {l : List (List Int)} (hv : AOks l) {s r c : Nat} {it : List Int} {n : Int} (hs : s = 2 ∨ s = 3) (hr : r < 256) (hc : c < 65536) (h8 : it.length = 8) (hb : Byt it) (hn : 0 < n) (hn2 : n ≤ 9223372036854775807) :
    moreO (fnd (turnK s r c it) (normP l)) (some (mkV (halfN l (turnK s r c it) + n.toNat) nm0)) = some (mkV (halfN l (turnK s r c it) + n.toNat) nm0) := by
  have hk : (turnK s r c it).length = 12 := mkKey_len h8
  have hX : ValOk (mkV (halfN l (turnK s r c it) + n.toNat) nm0) := by
    have := (turnA_ok (n := n) hv hs hr hc h8 hb hn2).val
    rw [turnA, aval_kv hk] at this; exact this
  cases hf : fnd (turnK s r c it) (normP l) with
  | none => rfl
  | some v =>
    have hvo := fnd_ok (norm_sta hv).ok hf
    have e : halfN l (turnK s r c it) = kn v 0 := by rw [halfN, if_pos (turnK_half hs), hf]; rfl
    have e7 : kn (mkV (halfN l (turnK s r c it) + n.toNat) nm0) 0 = halfN l (turnK s r c it) + n.toNat := by
      show ((halfN l (turnK s r c it) + n.toNat : Nat) : Int).toNat = _; omega
    have h1 := rank_lt hvo
    have : overV v (mkV (halfN l (turnK s r c it) + n.toNat) nm0) = false := by
      rw [over_rank hvo hX]
      refine decide_eq_false fun h => ?_
      unfold rankV at h
      rw [e7, e] at h
      omega
    show some (moreV v _) = _
    rw [moreV, this]; rfl
theorem turn_old {l : List (List Int)} {s r c : Nat} {it : List Int} (hs : s = 2 ∨ s = 3) (h8 : it.length = 8) (c' : Nat) : totO c' it (turnK s r c it) (fnd (turnK s r c it) (normP l)) = if c = c' then (if s = 2 then (halfN l (turnK s r c it) : Int) else -(halfN l (turnK s r c it) : Int)) else 0 := by
  have e : halfN l (turnK s r c it) = kn ((fnd (turnK s r c it) (normP l)).getD v9) 0 := by rw [halfN, if_pos (turnK_half hs)]
  rw [e]
  cases fnd (turnK s r c it) (normP l) with
  | none =>
    show (0 : Int) = _
    have : kn v9 0 = 0 := rfl
    simp [this]
  | some v => exact totA_turn hs h8 c'
def gain (s : Nat) (n : Int) : Int := if s = 2 then n else -n
theorem turn_add {l m : List (List Int)} (hv : AOks l) (hm : AOks m) {s r c : Nat} {it : List Int} {n : Int} (hs : s = 2 ∨ s = 3) (hr : r < 256) (hc : c < 65536) (h8 : it.length = 8) (hb : Byt it) (hn2 : n ≤ 9223372036854775807)
    (hf : fnd (turnK s r c it) (normP m) = fnd (turnK s r c it) (normP l)) (c' : Nat) :
    totL (normP (m ++ turnP l s r c it n)) c' it = totL (normP m) c' it + if c = c' then (if turnE l s r c it n = 0 then gain s n else 0) else 0 := by
  by_cases h : turnE l s r c it n = 0
  · rw [if_pos h]
    by_cases hn : n = 0
    · subst hn
      rw [turnP_no (.inr rfl), List.append_nil]
      simp [gain]
    · obtain ⟨_, h2, _, _⟩ := turnE_iff h
      have hk : (turnK s r c it).length = 12 := mkKey_len h8
      have e5 : aval (turnA l s r c it n) = mkV (halfN l (turnK s r c it) + n.toNat) nm0 := by rw [turnA, aval_kv hk]
      have e6 : akey (turnA l s r c it n) = turnK s r c it := by rw [turnA, akey_kv hk]
      have e7 : kn (mkV (halfN l (turnK s r c it) + n.toNat) nm0) 0 = halfN l (turnK s r c it) + n.toNat := by
        show ((halfN l (turnK s r c it) + n.toNat : Nat) : Int).toNat = _; omega
      have ht := tot_ins (turnA_ok hv hs hr hc h8 hb hn2) (c := c') (it := it) (norm_sta hm)
      rw [e6, e5, hf, turn_more hv hs hr hc h8 hb (by omega) hn2, turn_old hs h8] at ht
      have ht2 : totO c' it (turnK s r c it) (some (mkV (halfN l (turnK s r c it) + n.toNat) nm0)) = _ := totA_turn hs h8 c'
      rw [ht2, e7] at ht
      rw [turnP_yes h hn, norm_snoc, if_pos (turnA_r hs h8 h hn)]
      unfold gain
      by_cases hcc : c = c'
      · simp only [if_pos hcc] at ht ⊢
        rcases hs with rfl | rfl
        · simp only [if_true] at ht ⊢; omega
        · simp only [show ¬ (3 : Nat) = 2 from by decide, if_false] at ht ⊢; omega
      · simp only [if_neg hcc] at ht ⊢; omega
  · rw [turnP_no (.inl h), List.append_nil, if_neg h]; simp
end Go.Proofs.YtpekghaodmeemaaGreat
set_option linter.unusedSimpArgs false
set_option linter.unusedVariables false
set_option maxHeartbeats 2000000
set_option maxRecDepth 100000
namespace Go.Proofs.YtpekghaodmeemaaGreat
open Go.RowKit

def rfs (e : Int) : Value := .iface 71 (.agg #[.int .i64 e])
/-- a state, a replica and an operation -/
def MA (s : Value) (r : Nat) (x : List Int) : Array Value := (s :: .int .u8 (r : Int) :: zi opKs x).toArray
section
variable {s : Value} {r : Nat} {x : List Int}
theorem ma_size (h : x.length = 19) : (MA s r x).size = 21 := by simp [MA, op_llen h]
theorem ma_len (h : x.length = 19) : (MA s r x).toList.length = 21 := by simp [MA, op_llen h]
theorem ma_0 : (MA s r x)[0]? = some s := by simp [MA]
theorem ma_1 : (MA s r x)[1]? = some (.int .u8 (r : Int)) := by simp [MA]
theorem ma_l0 : (MA s r x).toList[0]? = some s := by simp [MA]
theorem ma_l1 : (MA s r x).toList[1]? = some (.int .u8 (r : Int)) := by simp [MA]
theorem ma_c (h : OpOk x) : (MA s r x)[3]? = some (.int .u16 (kn x 1 : Int)) := by
  have := zi_get (ks := opKs) (xs := x) (i := 1) (k := .u16) rfl (by rw [h.len]; decide)
  rw [← h.e1]; simpa [MA] using this
theorem ma_op (h : x.length = 19) : (((MA s r x).toList.drop 2).take 19).toArray = OA x := by
  have := op_llen h
  rw [show (MA s r x).toList = s :: .int .u8 (r : Int) :: zi opKs x from rfl]
  rw [List.drop_succ_cons, List.drop_succ_cons, List.drop_zero, List.take_of_length_le (by omega)]
theorem ma_all (h : x.length = 19) : (((MA s r x).toList.drop 0).take 21).toArray = MA s r x := by
  have := ma_len (s := s) (r := r) h
  rw [List.drop_zero, List.take_of_length_le (by omega), Array.toArray_toList]
theorem op_c (h : OpOk x) : (OA x).toList[1]? = some (.int .u16 (kn x 1 : Int)) := by
  have := zi_get (ks := opKs) (xs := x) (i := 1) (k := .u16) rfl (by rw [h.len]; decide)
  rw [← h.e1]; simpa using this
theorem op_n (h : OpOk x) : (OA x).toList[10]? = some (.int .i64 (opN x)) := by
  have := zi_get (ks := opKs) (xs := x) (i := 10) (k := .i64) rfl (by rw [h.len]; decide)
  rw [show opN x = x.getD 10 0 from rfl]
  simpa using this
theorem fill_ma {A : Option Addr} {n c : Nat} {pl : Nat → Option (Nat × Nat)} (h0 : pl 0 = some (0, 1)) (h1 : pl 1 = some (1, 1)) (h2 : pl 2 = some (2, 19)) (h : x.length = 19) :
    Instr.fill pl #[.slice none 0 0, .int .u8 0, .int .i64 0, .int .u16 0, .int .u8 0, .int .u8 0, .int .u8 0, .int .u8 0, .int .u8 0, .int .u8 0, .int .u8 0, .int .u8 0, .int .i64 0, .int .u8 0, .int .u8 0, .int .u8 0, .int .u8 0, .int .u8 0, .int .u8 0, .int .u8 0, .int .u8 0] [(0, .slice A n c), (1, .int .u8 (r : Int)), (2, .agg (OA x))] = some (MA (.slice A n c) r x) := by
  match x, h with
  | [_, _, _, _, _, _, _, _, _, _, _, _, _, _, _, _, _, _, _], _ =>
    refine fill_cons h0 rfl (Nat.le_of_ble_eq_true rfl) ?_
    refine fill_cons h1 rfl (Nat.le_of_ble_eq_true rfl) ?_
    refine fill_cons h2 rfl (Nat.le_of_ble_eq_true rfl) ?_
    rfl
end

theorem c_need (b : Bool) (e : Int)  (w0 : World) :
    CallP Tryz.prog 33 #[.bool b, .int .i64 e] w0 (fun v w' => b = true ∧ Ext w0 w') (fun v w' => b = false ∧ v = rfs e ∧ Ext w0 w') := by
 have hS : St NoB w0 w0 [] := St.start w0
 refine z_enter (l := [.bool b, .int .i64 e, undef, undef, undef, undef, undef, undef, undef]) Tryz.func33 rfl (by simp only [Tryz.ntmps33, List.size_toArray, List.length_cons, List.length_nil, Nat.reduceAdd, Nat.reduceSub, Array.replicate_succ, Array.replicate_zero, List.push_toArray, List.append_toArray, List.nil_append, List.cons_append]) ?_
 refine z_seq fun K1 hK1 => ?_
 refine z_region ?_
 refine s_go s_move ?_
 try simp only [nY]
 refine s_go s_not ?_
 try simp only [nY]
 refine z_nilf ?_
 refine hK1 _ _ ?_
 refine z_cond (ht := fun hc1 => ?_) (hf := fun hc1 => ?_)
 ·
  try simp only [dY] at hc1
  have hb : b = false := by simpa using hc1
  refine z_region ?_
  refine s_go s_move ?_
  try simp only [nY]
  refine s_go (s_build_struct (cells := #[_]) U71 ti71 bp71 (hc := by simp only [List.map_toArray, List.map_cons, List.map_nil, nY, List.toList_toArray]; (repeat (refine fill_cons rfl rfl (Nat.le_of_ble_eq_true rfl) ?_)); rfl)) ?_
  try simp only [nY]
  refine s_go (s_iface U71) ?_
  try simp only [nY]
  refine zp_panic (h := ?_)
  exact ⟨rfl, hb, rfl, hS.ext_of⟩
 try simp only [dY] at hc1
 have hb : b = true := by simpa using hc1
 refine z_skip ?_
 refine rz ?_
 refine r_none rfl ?_
 exact ⟨hb, hS.ext_of⟩
theorem c_got (s : Value) (e : Int)  (w0 : World) :
    CallP Tryz.prog 55 #[s, .int .i64 e] w0 (fun v w' => e = 0 ∧ v = s ∧ Ext w0 w') (fun v w' => ¬ e = 0 ∧ v = rfs e ∧ Ext w0 w') := by
 have hS : St NoB w0 w0 [] := St.start w0
 refine z_enter (l := [s, .int .i64 e, undef, undef, undef, undef, undef, undef, undef, undef]) Tryz.func55 rfl (by simp only [Tryz.ntmps55, List.size_toArray, List.length_cons, List.length_nil, Nat.reduceAdd, Nat.reduceSub, Array.replicate_succ, Array.replicate_zero, List.push_toArray, List.append_toArray, List.nil_append, List.cons_append]) ?_
 refine z_seq fun K1 hK1 => ?_
 refine z_region ?_
 refine s_go s_assign ?_
 try simp only [nY]
 refine z_nilf ?_
 refine hK1 _ _ ?_
 refine z_seq fun K2 hK2 => ?_
 refine z_region ?_
 refine s_go s_move ?_
 try simp only [nY]
 refine s_go s_eql ?_
 try simp only [nY]
 refine s_go s_move ?_
 try simp only [nY]
 refine zp_call en33 ?_
 try simp only [nY, mY]
 refine CallP.mono (c_need (decide (e = 0)) e _) ?zr1 ?zp1
 case zp1 =>
  rintro _ w1 ⟨hb, rfl, hE1⟩
  exact ⟨rfl, by simpa using hb, rfl, (hS.ext hE1).ext_of⟩
 rintro _ w1 ⟨hb, hE1⟩
 replace hS := hS.ext hE1
 replace hb : e = 0 := by simpa using hb
 try simp only [nY]
 refine z_nilf ?_
 refine hK2 _ _ ?_
 refine z_seq fun K3 hK3 => ?_
 refine z_region ?_
 refine s_go s_move ?_
 try simp only [nY]
 refine s_go s_assign ?_
 try simp only [nY]
 refine z_nilf ?_
 refine hK3 _ _ ?_
 refine z_ret ?_
 refine rz ?_
 refine r_tmp rfl ?_
 exact ⟨hb, rfl, hS.ext_of⟩
end Go.Proofs.YtpekghaodmeemaaGreat
set_option linter.unusedSimpArgs false
set_option linter.unusedVariables false
set_option maxHeartbeats 400000
set_option maxRecDepth 100000
namespace Go.Proofs.YtpekghaodmeemaaGreat
open Go.RowKit

def rmE (l : List (List Int)) (r c : Nat) (it : List Int) : Int := turnE l 3 r c it (qtyN l c it)
def rmP (l : List (List Int)) (r c : Nat) (it : List Int) : List (List Int) := normP (drpS (normP l) c it ++ turnP l 3 r c it (qtyN l c it))
def adE (l : List (List Int)) (r : Nat) (x : List Int) : Int := if ¬ addE l r (kitem x) = 0 then addE l r (kitem x) else turnE l 2 r (kn x 1) (kitem x) (opN x)
def adP (l : List (List Int)) (r : Nat) (x : List Int) : List (List Int) := normP (addP l r (kn x 1) (kitem x) ++ turnP l 2 r (kn x 1) (kitem x) (opN x))
def stN (l : List (List Int)) (x : List Int) : Int := opN x - totL (normP l) (kn x 1) (kitem x)
def stE (l : List (List Int)) (r : Nat) (x : List Int) : Int := turnE l (shiftS (stN l x)) r (kn x 1) (kitem x) (shiftN (stN l x))
def stP (l : List (List Int)) (r : Nat) (x : List Int) : List (List Int) := turnP l (shiftS (stN l x)) r (kn x 1) (kitem x) (shiftN (stN l x))
def clE (l : List (List Int)) (r c : Nat) : List (List Int) → Int
  | [] => 0
  | it :: ns => if ¬ rmE l r c it = 0 then rmE l r c it else clE l r c ns
def clP (l : List (List Int)) (r c : Nat) (ns : List (List Int)) : List (List Int) := ns.foldl (fun o it => normP (o ++ rmP l r c it)) []
def mkE (l : List (List Int)) (r : Nat) (x : List Int) : Int :=
  if opK x = 1 then adE l r x else if opK x = 2 then rmE l r (kn x 1) (kitem x) else if opK x = 3 then stE l r x else
  if opK x = 4 then noteE l r (opT x) (kn x 1) else clE l r (kn x 1) (itmS (normP l) (kn x 1))
def mkP (l : List (List Int)) (r : Nat) (x : List Int) : List (List Int) :=
  if opK x = 1 then adP l r x else if opK x = 2 then rmP l r (kn x 1) (kitem x) else if opK x = 3 then stP l r x else
  if opK x = 4 then noteP l r (opT x) (kn x 1) else clP l r (kn x 1) (itmS (normP l) (kn x 1))
section
variable {l : List (List Int)} {r c : Nat} {it : List Int}
theorem drp_len (l : List (List Int)) (c : Nat) (it : List Int) : (drpS (normP l) c it).length ≤ l.length := by
  rw [drpS, List.length_map]; exact Nat.le_trans (tag_len _ _ _ _) (norm_len l)
theorem rm_aok (hv : AOks l) (hn : l.length ≤ 40000000) (hr : r < 256) (hc : c < 65536) (h8 : it.length = 8) (hb : Byt it) : AOks (drpS (normP l) c it ++ turnP l 3 r c it (qtyN l c it)) :=
  (drp_ok' hv c it).app (turnP_ok hv (.inr rfl) hr hc h8 hb (by have := qty_b hv (by omega) c it; omega))
theorem rmP_ok (hv : AOks l) (hn : l.length ≤ 40000000) (hr : r < 256) (hc : c < 65536) (h8 : it.length = 8) (hb : Byt it) : AOks (rmP l r c it) := (norm_sta (rm_aok hv hn hr hc h8 hb)).ok
theorem rmP_len (l : List (List Int)) (r c : Nat) (it : List Int) : (rmP l r c it).length ≤ l.length + 1 := by
  have h1 := drp_len l c it
  have h2 := turnP_len l 3 r c it (qtyN l c it)
  have h3 := norm_len (drpS (normP l) c it ++ turnP l 3 r c it (qtyN l c it))
  rw [List.length_append] at h3
  unfold rmP; omega
theorem clP_snoc (ns : List (List Int)) (it : List Int) : clP l r c (ns ++ [it]) = normP (clP l r c ns ++ rmP l r c it) := by rw [clP, List.foldl_append]; rfl
theorem len_keys : ∀ {s K : List (List Int)}, StaR s → (∀ a ∈ s, akey a ∈ K) → s.length ≤ K.length
  | [], _, _, _ => Nat.zero_le _
  | a :: s, K, h, hk => by
    have ha : akey a ∈ K := hk a (by simp)
    have ih := len_keys (K := K.erase (akey a)) h.tail fun b hb => (List.mem_erase_of_ne fun e => by have := h.head b hb; rw [e] at this; omega).2 (hk b (by simp [hb]))
    rw [List.length_erase_of_mem ha] at ih
    have := List.length_pos_of_mem ha
    rw [List.length_cons]; omega
theorem lk_none {k : List Int} : ∀ {l : List (List Int)}, (∀ b ∈ l, ¬ akey b = k) → ∀ o, l.foldl (lkF k) o = o
  | [], _, _ => rfl
  | b :: l, h, o => by
    rw [List.foldl_cons, lkF, if_neg fun q => h b (by simp) q.2]
    exact lk_none (fun x hx => h x (by simp [hx])) o
theorem norm_keys {l : List (List Int)} (hv : AOks l) {a : List Int} (ha : a ∈ normP l) : ∃ b ∈ l, akey b = akey a := by
  have h1 := (mem_fnd (norm_sta hv).knd).2 ha
  rw [fnd_norm hv, lk] at h1
  by_cases h : ∃ b ∈ l, akey b = akey a
  · exact h
  · rw [lk_none fun b hb e => h ⟨b, hb, e⟩] at h1; cases h1
theorem turn_key {l : List (List Int)} {s r c : Nat} {it : List Int} {n : Int} (h8 : it.length = 8) {a : List Int} (ha : a ∈ turnP l s r c it n) : akey a = turnK s r c it := by
  unfold turnP at ha
  split at ha
  · rw [List.mem_singleton] at ha
    rw [ha, turnA]; exact akey_kv (mkKey_len h8)
  · cases ha
theorem drp_key {l : List (List Int)} (hv : AOks l) {c : Nat} {it a : List Int} (ha : a ∈ drpS (normP l) c it) : akey a ∈ (normP l).map akey := by
  obtain ⟨b, hb, rfl⟩ := List.mem_map.1 ha
  have h1 := (List.mem_filter.1 hb).1
  rw [akey_drop ((norm_sta hv).ok b h1)]
  exact List.mem_map.2 ⟨b, h1, rfl⟩
theorem rm_keys (hv : AOks l) (hn : l.length ≤ 40000000) (hr : r < 256) (hc : c < 65536) (h8 : it.length = 8) (hb : Byt it) {a : List Int} (ha : a ∈ rmP l r c it) : akey a ∈ (normP l).map akey ∨ akey a = turnK 3 r c it := by
  obtain ⟨b, hb, e⟩ := norm_keys (rm_aok hv hn hr hc h8 hb) ha
  rw [← e]
  rcases List.mem_append.1 hb with h | h
  · exact .inl (drp_key hv h)
  · exact .inr (turn_key h8 h)
theorem cl_all (hv : AOks l) (hn : l.length ≤ 40000000) (hr : r < 256) (hc : c < 65536) {ns : List (List Int)} (h : ∀ x ∈ ns, x.length = 8 ∧ Byt x) : StaR (clP l r c ns) ∧ ∀ a ∈ clP l r c ns, akey a ∈ (normP l).map akey ++ ns.map (turnK 3 r c) := by
  have key : ∀ (ms o : List (List Int)), (∀ x ∈ ms, x ∈ ns) → StaR o → (∀ a ∈ o, akey a ∈ (normP l).map akey ++ ns.map (turnK 3 r c)) → StaR (ms.foldl (fun o it => normP (o ++ rmP l r c it)) o) ∧ ∀ a ∈ ms.foldl (fun o it => normP (o ++ rmP l r c it)) o, akey a ∈ (normP l).map akey ++ ns.map (turnK 3 r c) := by
    intro ms
    induction ms with
    | nil => intro o _ ho hk; exact ⟨ho, hk⟩
    | cons it ms ih =>
      intro o hm ho hk
      have hin := hm it (by simp)
      have hi := h it hin
      have h1 := rmP_ok (r := r) (c := c) hv hn hr hc hi.1 hi.2
      refine ih _ (fun x hx => hm x (by simp [hx])) (norm_sta (ho.ok.app h1)) fun a ha => ?_
      obtain ⟨b, hb, e⟩ := norm_keys (ho.ok.app h1) ha
      rw [← e]
      rcases List.mem_append.1 hb with hb | hb
      · exact hk b hb
      · rcases rm_keys hv hn hr hc hi.1 hi.2 hb with h2 | h2
        · exact List.mem_append_left _ h2
        · rw [h2]; exact List.mem_append_right _ (List.mem_map.2 ⟨it, hin, rfl⟩)
  exact key ns [] (fun x hx => hx) StaR.nil (fun a ha => by cases ha)
theorem clP_all (hv : AOks l) (hn : l.length ≤ 40000000) (hr : r < 256) (hc : c < 65536) {ns : List (List Int)} (h : ∀ x ∈ ns, x.length = 8 ∧ Byt x) : AOks (clP l r c ns) ∧ (clP l r c ns).length ≤ l.length + ns.length := by
  obtain ⟨h1, h2⟩ := cl_all hv hn hr hc h
  have h3 := len_keys h1 h2
  have h4 := norm_len l
  rw [List.length_append, List.length_map, List.length_map] at h3
  exact ⟨h1.ok, by omega⟩
theorem clE_app {ns ms : List (List Int)} (h : clE l r c ns = 0) : clE l r c (ns ++ ms) = clE l r c ms := by
  induction ns with
  | nil => rfl
  | cons it ns ih =>
    rw [clE] at h
    rw [List.cons_append, clE]
    by_cases h1 : rmE l r c it = 0
    · rw [if_neg (fun q => q h1)] at h ⊢; exact ih h
    · rw [if_pos h1] at h; exact absurd h h1
theorem clE_one (it : List Int) (ms : List (List Int)) (h : ¬ rmE l r c it = 0) : clE l r c (it :: ms) = rmE l r c it := by rw [clE, if_pos h]
theorem clE_on (it : List Int) (h : rmE l r c it = 0) : clE l r c [it] = 0 := by rw [clE, if_neg (fun q => q h)]; rfl
theorem clE_at {t : List (List Int)} {k : Nat} {y : List Int} (hk : k < t.length) (hy : t.getD k [] = y) (h : clE l r c (t.take k) = 0) (h1 : ¬ rmE l r c y = 0) : clE l r c t = rmE l r c y := by
  have e : t = t.take k ++ (y :: t.drop (k + 1)) := by
    rw [← hy]
    have := List.take_append_drop k t
    rw [List.drop_eq_getElem_cons hk] at this
    rw [List.getD_eq_getElem?_getD, List.getElem?_eq_getElem hk]
    exact this.symm
  rw [e, clE_app h, clE_one _ _ h1]
theorem clE_step {t : List (List Int)} {k : Nat} {y : List Int} (hk : k < t.length) (hy : t.getD k [] = y) (h : clE l r c (t.take k) = 0) (h1 : rmE l r c y = 0) : clE l r c (t.take (k + 1)) = 0 := by
  rw [take_snoc hk, hy, clE_app h, clE_on _ h1]
end

theorem c_without (w0 : World) (A : Option Addr) (c : Nat) (l : List (List Int)) (hr : Rd w0 A 21 l.length (arows l)) (hv : AOks l) (hn : l.length ≤ 40000000) (r : Nat) (hr8 : r < 256) (x : List Int) (hx : OpOk x) (it : List Int) (h8 : it.length = 8) (hbt : Byt it)  :
    CallP Tryz.prog 59 #[.agg (MA (.slice A l.length c) r x), .agg (ic .u8 it)] w0 (fun v w' => rmE l r (kn x 1) it = 0 ∧ ∃ (O : Option Addr) (oc : Nat), v = .slice O (rmP l r (kn x 1) it).length oc ∧ St NoB w0 w' [.vec O oc 66 21 (rmP l r (kn x 1) it).length (arows (rmP l r (kn x 1) it))]) (fun v w' => ¬ rmE l r (kn x 1) it = 0 ∧ v = rfs (rmE l r (kn x 1) it) ∧ Ext w0 w') := by
 have hS := St.rd1 (S := NoB) hr
 have hxl := hx.len
 have hil := op_il hxl
 have htl2 := op_tl hxl
 have hk1 := hx.k1
 have hk2 := hx.k2
 have hm1 := hx.m1
 have hm2 := hx.m2
 have hbi := hx.item
 have hbt2 := hx.text
 have hcx := hx.b1
 have hqb := qty_b hv (by omega) (kn x 1) it
 have hdo := drp_ok' hv (kn x 1) it
 have hto := turnP_ok (n := qtyN l (kn x 1) it) hv (.inr rfl) hr8 hcx h8 hbt (by omega)
 have hdl := drp_len l (kn x 1) it
 have htl := turnP_len l 3 r (kn x 1) it (qtyN l (kn x 1) it)
 refine z_enter (l := [.agg (MA (.slice A l.length c) r x), .agg (ic .u8 it), undef, undef, undef, undef, undef, undef, undef, undef, undef, undef, undef, undef, undef, undef, undef, undef, undef, undef, undef, undef, undef, undef, undef, undef, undef, undef, undef, undef, undef, undef, undef, undef, undef, undef, undef, undef]) Tryz.func59 rfl (by simp only [Tryz.ntmps59, List.size_toArray, List.length_cons, List.length_nil, Nat.reduceAdd, Nat.reduceSub, Array.replicate_succ, Array.replicate_zero, List.push_toArray, List.append_toArray, List.nil_append, List.cons_append]) ?_
 refine z_seq fun K1 hK1 => ?_
 refine z_region ?_
 refine m_box hS (fun w1 g1 hS => ?_)
 try simp only [nY, aY] at hS ⊢
 obtain ⟨gm, hgm⟩ : ∃ z, z = g1 := ⟨_, rfl⟩
 rw [← hgm] at hS ⊢
 refine m_box hS (fun w2 g2 hS => ?_)
 try simp only [nY, aY] at hS ⊢
 obtain ⟨gi, hgi⟩ : ∃ z, z = g2 := ⟨_, rfl⟩
 rw [← hgi] at hS ⊢
 refine s_go s_assign ?_
 try simp only [nY]
 refine z_nilf ?_
 refine hK1 _ _ ?_
 refine z_seq fun K2 hK2 => ?_
 refine z_region ?_
 refine s_go (m_fieldAddr U78 (hi := ti22)) ?_
 try simp only [nY, fY, gY]
 refine s_go (m_load_obj U22 (hS := hS) (hv := ma_0)) ?_
 try simp only [nY, gY]
 refine s_go (m_fieldAddr U78 (hi := ti27)) ?_
 try simp only [nY, fY, gY]
 refine s_go (m_fieldAddr U27 (hi := ti23)) ?_
 try simp only [nY, fY, gY]
 refine s_go (m_load_obj U23 (hS := hS) (hv := ma_c hx)) ?_
 try simp only [nY, gY]
 refine s_go (m_load_row U25 (hi := ti25) (hS := hS) (hfit := by rw [ic_size, h8])) ?_
 try simp only [nY, gY]
 refine s_call en42 ?_
 try simp only [nY, mY]
 refine CallR.mono (c_cartQuantity _ A c l (hS.hasA) hv (by omega) _ hcx it h8) ?_
 rintro _ w3 ⟨rfl, hE3⟩
 replace hS := hS.ext hE3
 try simp only [nY]
 refine s_go s_move ?_
 try simp only [nY]
 refine s_go (s_extract (hv := rfl)) ?_
 try simp only [gY]
 try simp only [nY]
 refine s_go (s_extract (hv := rfl)) ?_
 try simp only [gY]
 try simp only [nY]
 refine s_go s_assign ?_
 try simp only [nY]
 refine s_go s_assign ?_
 try simp only [nY]
 refine z_nilf ?_
 refine hK2 _ _ ?_
 refine z_seq fun K3 hK3 => ?_
 refine z_mixed_f [] [4, 17, 18, 19, 20, 21, 22, 23, 24, 25, 26, 27, 28, 29, 30, 31, 32, 33, 34, 35, 36, 37] (fun f w => ∃ (O : Option Addr) (oc : Nat), f 4 = .slice O (rmP l r (kn x 1) it).length oc ∧ turnE l 3 r (kn x 1) it (qtyN l (kn x 1) it) = 0 ∧ St NoB w0 w [.vec O oc 66 21 (rmP l r (kn x 1) it).length (arows (rmP l r (kn x 1) it))]) (by kernel_rfl) hS (fun w4 hS => ?mixpre201) ?mixrest201
 case mixpre201 =>
  simp only [List.length_cons, List.length_nil, Nat.reduceAdd, Nat.reduceSub]
  refine zny_go (lo := 0) (i := 0) (PnOK.zero.wd) (by rfl) (by decide) (by decide +kernel) (by decide +kernel) noLate_nil (go_yields w_none (fun w hS => m_fieldAddr U78 (hi := ti22))) ?_
  try simp only [nY, fY, gY]
  refine zny_go (lo := 0) (i := 1) (PnOK.zero.wd) (by rfl) (by decide) (by decide +kernel) (by decide +kernel) noLate_nil (go_yields w_none (fun w hS => m_load_obj U22 (hS := hS) (hv := ma_0))) ?_
  try simp only [nY, gY]
  refine zny_go (lo := 0) (i := 2) (PnOK.zero.wd) (by rfl) (by decide) (by decide +kernel) (by decide +kernel) noLate_nil (go_yields w_none (fun w hS => m_fieldAddr U78 (hi := ti27))) ?_
  try simp only [nY, fY, gY]
  refine zny_go (lo := 0) (i := 3) (PnOK.zero.wd) (by rfl) (by decide) (by decide +kernel) (by decide +kernel) noLate_nil (go_yields w_none (fun w hS => m_fieldAddr U27 (hi := ti23))) ?_
  try simp only [nY, fY, gY]
  refine zny_go (lo := 0) (i := 4) (PnOK.zero.wd) (by rfl) (by decide) (by decide +kernel) (by decide +kernel) noLate_nil (go_yields w_none (fun w hS => m_load_obj U23 (hS := hS) (hv := ma_c hx))) ?_
  try simp only [nY, gY]
  refine zny_go (lo := 0) (i := 5) (PnOK.zero.wd) (by rfl) (by decide) (by decide +kernel) (by decide +kernel) noLate_nil (go_yields w_none (fun w hS => m_load_row U25 (hi := ti25) (hS := hS) (hfit := by rw [ic_size, h8]))) ?_
  try simp only [nY, gY]
  refine zny_go (lo := 0) (i := 7) (PnOK.zero.wd) (by rfl) (by decide) (by decide +kernel) (by decide +kernel) noLate_nil (go_yields w_none (fun w hS => m_fieldAddr U78 (hi := ti22))) ?_
  try simp only [nY, fY, gY]
  refine zny_go (lo := 0) (i := 8) (PnOK.zero.wd) (by rfl) (by decide) (by decide +kernel) (by decide +kernel) noLate_nil (go_yields w_none (fun w hS => m_load_obj U22 (hS := hS) (hv := ma_0))) ?_
  try simp only [nY, gY]
  refine zny_go (lo := 0) (i := 9) (PnOK.zero.wd) (by rfl) (by decide) (by decide +kernel) (by decide +kernel) noLate_nil (go_yields w_none (fun w hS => m_fieldAddr U78 (hi := ti5))) ?_
  try simp only [nY, fY, gY]
  refine zny_go (lo := 0) (i := 10) (PnOK.zero.wd) (by rfl) (by decide) (by decide +kernel) (by decide +kernel) noLate_nil (go_yields w_none (fun w hS => m_load_obj U5 (hS := hS) (hv := ma_1))) ?_
  try simp only [nY, gY]
  refine zny_go (lo := 0) (i := 11) (PnOK.zero.wd) (by rfl) (by decide) (by decide +kernel) (by decide +kernel) noLate_nil (go_yields w_none (fun w hS => m_fieldAddr U78 (hi := ti27))) ?_
  try simp only [nY, fY, gY]
  refine zny_go (lo := 0) (i := 12) (PnOK.zero.wd) (by rfl) (by decide) (by decide +kernel) (by decide +kernel) noLate_nil (go_yields w_none (fun w hS => m_fieldAddr U27 (hi := ti23))) ?_
  try simp only [nY, fY, gY]
  refine zny_go (lo := 0) (i := 13) (PnOK.zero.wd) (by rfl) (by decide) (by decide +kernel) (by decide +kernel) noLate_nil (go_yields w_none (fun w hS => m_load_obj U23 (hS := hS) (hv := ma_c hx))) ?_
  try simp only [nY, gY]
  refine zny_go (lo := 0) (i := 14) (PnOK.zero.wd) (by rfl) (by decide) (by decide +kernel) (by decide +kernel) noLate_nil (go_yields w_none (fun w hS => m_load_row U25 (hi := ti25) (hS := hS) (hfit := by rw [ic_size, h8]))) ?_
  try simp only [nY, gY]
  refine zny_go (lo := 0) (i := 15) (PnOK.zero.wd) (by rfl) (by decide) (by decide +kernel) (by decide +kernel) noLate_nil (go_yields w_none (fun w hS => s_move)) ?_
  try simp only [nY]
  refine zny_step [6] (by kernel_rfl) (by decide) (fun w5 hE => ⟨fun _ => (hS.ext hE).sel (by repeat (first | exact Sel.nil | (refine Sel.cons (by repeat (exact Del.head)) ?_))), ?_⟩)
  replace hS := hS.ext hE
  intro i hi
  simp only [List.mem_cons, List.not_mem_nil, or_false] at hi
  subst hi
  refine zny_op (by rfl) ?_
  refine s_call en92 ?_
  try simp only [nY, mY]
  refine CallR.mono (c_tagsDrop _ A c l (hS.hasA) hv (by omega) _ hcx it h8) ?_
  rintro _ w6 ⟨Dd, dd, rfl, hC6⟩
  replace hS := hS.call hC6
  simp only [List.cons_append, List.nil_append] at hS
  try simp only [nY]
  refine z_nil ?_
  refine zny_step [16] (by kernel_rfl) (by decide) (fun w7 hE => ⟨fun _ => (hS.ext hE).sel (by repeat (first | exact Sel.nil | (refine Sel.cons (by repeat (first | exact Del.head | apply Del.tail)) ?_))), ?_⟩)
  replace hS := hS.ext hE
  intro i hi
  simp only [List.mem_cons, List.not_mem_nil, or_false] at hi
  subst hi
  refine zny_op (by rfl) ?_
  refine s_call en93 ?_
  try simp only [nY, mY]
  refine CallR.mono (c_countLower _ A c l (hS.hasA) hv (by omega) r hr8 _ hcx it h8 hbt (qtyN l (kn x 1) it) (by omega) (by omega)) ?_
  rintro _ w8 ⟨Dt, dt, rfl, hC8⟩
  replace hS := hS.call hC8
  simp only [List.cons_append, List.nil_append] at hS
  try simp only [nY]
  refine z_nil ?_
  refine zny_go (lo := 0) (i := 17) (PnOK.zero.wd) (by rfl) (by decide) (by decide +kernel) (by decide +kernel) noLate_nil (go_yields w_none (fun w hS => s_extract (hv := rfl))) ?_
  try simp only [gY]
  try simp only [nY]
  refine zny_go (lo := 0) (i := 18) (PnOK.zero.wd) (by rfl) (by decide) (by decide +kernel) (by decide +kernel) noLate_nil (go_yields w_none (fun w hS => s_extract (hv := rfl))) ?_
  try simp only [gY]
  try simp only [nY]
  refine zny_step [19] (by kernel_rfl) (by decide) (fun w9 hE => ⟨fun _ => (hS.ext hE).sel (by repeat (first | exact Sel.nil | (refine Sel.cons (by repeat (first | exact Del.head | apply Del.tail)) ?_))), ?_⟩)
  replace hS := hS.ext hE
  intro i hi
  simp only [List.mem_cons, List.not_mem_nil, or_false] at hi
  subst hi
  refine zny_op (by rfl) ?_
  refine zp_call en55 ?_
  try simp only [nY, mY]
  refine CallP.mono (c_got (.slice Dt (turnP l 3 r (kn x 1) it (qtyN l (kn x 1) it)).length dt) (turnE l 3 r (kn x 1) it (qtyN l (kn x 1) it)) _) ?zr10 ?zp10
  case zp10 =>
   rintro _ w10 ⟨hg10, rfl, hE10⟩
   exact ⟨rfl, hg10, rfl, (hS.ext hE10).ext_of⟩
  rintro _ w10 ⟨hg10, rfl, hE10⟩
  replace hS := hS.ext hE10
  try simp only [nY]
  refine z_nil ?_
  refine zny_step [20] (by kernel_rfl) (by decide) (fun w11 hE => ⟨fun _ => (hS.ext hE).sel (by repeat (first | exact Sel.nil | (refine Sel.cons (by repeat (first | exact Del.head | apply Del.tail)) ?_))), ?_⟩)
  replace hS := hS.ext hE
  intro i hi
  simp only [List.mem_cons, List.not_mem_nil, or_false] at hi
  subst hi
  refine zny_op (by rfl) ?_
  refine s_call en28 ?_
  try simp only [nY, mY]
  refine CallR.mono (c_latJoin _ Dd dd (drpS (normP l) (kn x 1) it) (hS.vecA) hdo Dt dt (turnP l 3 r (kn x 1) it (qtyN l (kn x 1) it)) (hS.vecRd (by repeat (exact Has.head))) hto (by omega)) ?_
  rintro _ w12 ⟨Dj, dj, rfl, hC12⟩
  replace hS := hS.call hC12
  simp only [List.cons_append, List.nil_append] at hS
  try simp only [nY]
  refine z_nil ?_
  refine zny_go (lo := 0) (i := 21) (PnOK.zero.wd) (by rfl) (by decide) (by decide +kernel) (by decide +kernel) noLate_nil (go_yields w_none (fun w hS => s_assign)) ?_
  try simp only [nY]
  refine zny_nil (by kernel_rfl) (fun w13 hE => ?_)
  replace hS := hS.ext hE
  refine ⟨fun _ => hS.selA, ?_⟩
  refine mix_leaf (by simp only [clob, List.foldl, nZ]) ?_
  try simp only [n1, n2]
  exact ⟨_, _, by rfl, by assumption, hS.sel (by repeat (first | exact Sel.nil | (refine Sel.cons (by repeat (exact Del.head)) ?_)))⟩
 intro fm1 w14 hM
 obtain ⟨O, oc, hf4, hz, hS⟩ := hM
 simp only [clob, List.foldl, n3, n4, hf4]
 refine hK3 _ _ ?_
 refine z_ret ?_
 refine rz ?_
 refine r_tmp rfl ?_
 exact ⟨hz, _, _, rfl, hS.sel (by repeat (first | exact Sel.nil | (refine Sel.cons (by repeat (exact Del.head)) ?_)))⟩
end Go.Proofs.YtpekghaodmeemaaGreat
set_option linter.unusedSimpArgs false
set_option linter.unusedVariables false
set_option maxHeartbeats 400000
set_option maxRecDepth 100000
namespace Go.Proofs.YtpekghaodmeemaaGreat
open Go.RowKit

theorem ad_0 {l : List (List Int)} {r : Nat} {x : List Int} (h : addE l r (kitem x) = 0) : adE l r x = turnE l 2 r (kn x 1) (kitem x) (opN x) := by rw [adE, if_neg (fun q => q h)]
theorem ad_1 {l : List (List Int)} {r : Nat} {x : List Int} (h : ¬ addE l r (kitem x) = 0) : adE l r x = addE l r (kitem x) := by rw [adE, if_pos h]
theorem addP_len (l : List (List Int)) (r c : Nat) (it : List Int) : (addP l r c it).length ≤ 1 := by unfold addP; split <;> simp
theorem addP_aok {l : List (List Int)} {r c : Nat} {it : List Int} (hv : AOks l) (hr : r < 256) (hc : c < 65536) (h8 : it.length = 8) (hb : Byt it) : AOks (addP l r c it) := addP_ok hv hr hc h8 hb

theorem c_kinds2 (w0 : World) (A : Option Addr) (c : Nat) (l : List (List Int)) (hr : Rd w0 A 21 l.length (arows l)) (hv : AOks l) (hn : l.length ≤ 40000000) (r : Nat) (hr8 : r < 256) (x : List Int) (hx : OpOk x) (g1 g3 : Nat) (hb1 : Rd w0 (some ⟨g1, 0, none⟩) 21 1 (MA (.slice A l.length c) r x).toList) (hb3 : Rd w0 (some ⟨g3, 0, none⟩) 19 1 (OA x).toList)  :
    CallP Tryz.prog 54 #[.pointer (some ⟨g1, 0, none⟩), .pointer (some ⟨g3, 0, none⟩)] w0 (fun v w' => adE l r x = 0 ∧ ∃ (O : Option Addr) (oc : Nat), v = .slice O (adP l r x).length oc ∧ St NoB w0 w' [.vec O oc 66 21 (adP l r x).length (arows (adP l r x))]) (fun v w' => ¬ adE l r x = 0 ∧ v = rfs (adE l r x) ∧ Ext w0 w') := by
 have hS := St.rd3 (S := NoB) hr hb1 hb3
 have hxl := hx.len
 have hil := op_il hxl
 have htl := op_tl hxl
 have hk1 := hx.k1
 have hk2 := hx.k2
 have hm1 := hx.m1
 have hm2 := hx.m2
 have hbi := hx.item
 have hbt := hx.text
 have hcx := hx.b1
 have hml := ma_len (s := .slice A l.length c) (r := r) hxl
 have hol := op_llen hxl
 have hqb := qty_b hv (by omega) (kn x 1) (kitem x)
 have htb := tot_b hv (by omega) (kn x 1) (kitem x)
 have hpo := addP_aok hv hr8 hcx hil hbi
 have hpl := addP_len l r (kn x 1) (kitem x)
 have hto := turnP_ok (n := opN x) hv (.inl rfl) hr8 hcx hil hbi hm2
 have htl2 := turnP_len l 2 r (kn x 1) (kitem x) (opN x)
 refine z_enter (l := [.pointer (some ⟨g1, 0, none⟩), .pointer (some ⟨g3, 0, none⟩), undef, undef, undef, undef, undef, undef, undef, undef, undef, undef, undef, undef, undef, undef, undef, undef, undef, undef, undef, undef, undef, undef, undef, undef, undef, undef, undef, undef, undef, undef]) Tryz.func54 rfl (by simp only [Tryz.ntmps54, List.size_toArray, List.length_cons, List.length_nil, Nat.reduceAdd, Nat.reduceSub, Array.replicate_succ, Array.replicate_zero, List.push_toArray, List.append_toArray, List.nil_append, List.cons_append]) ?_
 refine z_seq fun K1 hK1 => ?_
 refine z_region ?_
 refine s_go s_assign ?_
 try simp only [nY]
 refine z_nilf ?_
 refine hK1 _ _ ?_
 refine z_seq fun K2 hK2 => ?_
 refine z_region ?_
 refine s_go (m_fieldAddr U78 (hi := ti22)) ?_
 try simp only [nY, fY, gY]
 refine s_go (m_load_bx U22 (hS := hS) (hv := ma_l0)) ?_
 try simp only [nY, gY]
 refine s_go (m_fieldAddr U78 (hi := ti5)) ?_
 try simp only [nY, fY, gY]
 refine s_go (m_load_bx U5 (hS := hS) (hv := ma_l1)) ?_
 try simp only [nY, gY]
 refine s_go (m_fieldAddr U27 (hi := ti23)) ?_
 try simp only [nY, fY, gY]
 refine s_go (m_load_bx U23 (hS := hS) (hv := op_c hx)) ?_
 try simp only [nY, gY]
 refine s_go (m_fieldAddr U27 (hi := ti25)) ?_
 try simp only [nY, fY, gY]
 refine s_go (m_loada_bx U25 (hi := ti25) (hS := hS) (hfit := by (simp only [List.toList_toArray]; omega))) ?_
 try simp only [nY, gY]
 try simp only [Nat.sub_zero]
 rw [op_item hxl]
 refine s_call en56 ?_
 try simp only [nY, mY]
 refine CallR.mono (c_tagsAdd _ A c l (hS.hasRd (by repeat (exact Has.head))) hv (by omega) r hr8 (kn x 1) hcx (kitem x) hil hbi) ?_
 rintro _ w1 ⟨Da, da, rfl, hC1⟩
 replace hS := hS.call hC1
 simp only [List.cons_append, List.nil_append] at hS
 try simp only [nY]
 refine s_go (s_extract (hv := rfl)) ?_
 try simp only [gY]
 try simp only [nY]
 refine s_go (s_extract (hv := rfl)) ?_
 try simp only [gY]
 try simp only [nY]
 refine zp_call en55 ?_
 try simp only [nY, mY]
 refine CallP.mono (c_got (.slice Da (addP l r (kn x 1) (kitem x)).length da) (addE l r (kitem x)) _) ?zr2 ?zp2
 case zp2 =>
  rintro _ w2 ⟨hg2, rfl, hE2⟩
  exact ⟨rfl, by rw [ad_1 hg2]; exact hg2, by rw [ad_1 hg2], (hS.ext hE2).ext_of⟩
 rintro _ w2 ⟨hg2, rfl, hE2⟩
 replace hS := hS.ext hE2
 try simp only [nY]
 have had := ad_0 hg2
 refine s_go s_assign ?_
 try simp only [nY]
 refine z_nilf ?_
 refine hK2 _ _ ?_
 refine z_seq fun K3 hK3 => ?_
 refine z_region ?_
 refine s_go s_move ?_
 try simp only [nY]
 refine s_go (m_fieldAddr U78 (hi := ti22)) ?_
 try simp only [nY, fY, gY]
 refine s_go (m_load_bx U22 (hS := hS) (hv := ma_l0)) ?_
 try simp only [nY, gY]
 refine s_go (m_fieldAddr U78 (hi := ti5)) ?_
 try simp only [nY, fY, gY]
 refine s_go (m_load_bx U5 (hS := hS) (hv := ma_l1)) ?_
 try simp only [nY, gY]
 refine s_go (m_fieldAddr U27 (hi := ti23)) ?_
 try simp only [nY, fY, gY]
 refine s_go (m_load_bx U23 (hS := hS) (hv := op_c hx)) ?_
 try simp only [nY, gY]
 refine s_go (m_fieldAddr U27 (hi := ti25)) ?_
 try simp only [nY, fY, gY]
 refine s_go (m_loada_bx U25 (hi := ti25) (hS := hS) (hfit := by omega)) ?_
 try simp only [nY, gY]
 try simp only [Nat.sub_zero]
 rw [op_item hxl]
 refine s_go (m_fieldAddr U27 (hi := ti3)) ?_
 try simp only [nY, fY, gY]
 refine s_go (m_load_bx U3 (hS := hS) (hv := op_n hx)) ?_
 try simp only [nY, gY]
 refine s_call en57 ?_
 try simp only [nY, mY]
 refine CallR.mono (c_countRaise _ A c l (hS.hasA) hv (by omega) r hr8 (kn x 1) hcx (kitem x) hil hbi (opN x) hm1 hm2) ?_
 rintro _ w3 ⟨Dt, dt, rfl, hC3⟩
 replace hS := hS.call hC3
 simp only [List.cons_append, List.nil_append] at hS
 try simp only [nY]
 refine s_go (s_extract (hv := rfl)) ?_
 try simp only [gY]
 try simp only [nY]
 refine s_go (s_extract (hv := rfl)) ?_
 try simp only [gY]
 try simp only [nY]
 refine zp_call en55 ?_
 try simp only [nY, mY]
 refine CallP.mono (c_got (.slice Dt (turnP l 2 r (kn x 1) (kitem x) (opN x)).length dt) (turnE l 2 r (kn x 1) (kitem x) (opN x)) _) ?zr4 ?zp4
 case zp4 =>
  rintro _ w4 ⟨hg4, rfl, hE4⟩
  exact ⟨rfl, by rw [had]; exact hg4, by rw [had], (hS.ext hE4).ext_of⟩
 rintro _ w4 ⟨hg4, rfl, hE4⟩
 replace hS := hS.ext hE4
 try simp only [nY]
 have had2 := had.trans hg4
 refine s_call en28 ?_
 try simp only [nY, mY]
 refine CallR.mono (c_latJoin _ Da da (addP l r (kn x 1) (kitem x)) (hS.vecA) hpo Dt dt (turnP l 2 r (kn x 1) (kitem x) (opN x)) (hS.vecRd (by repeat (exact Has.head))) hto (by omega)) ?_
 rintro _ w5 ⟨Dj, dj, rfl, hC5⟩
 replace hS := hS.call hC5
 simp only [List.cons_append, List.nil_append] at hS
 try simp only [nY]
 refine s_go s_assign ?_
 try simp only [nY]
 refine z_nilf ?_
 refine hK3 _ _ ?_
 refine z_ret ?_
 refine rz ?_
 refine r_tmp rfl ?_
 exact ⟨had2, _, _, rfl, hS.sel (by repeat (first | exact Sel.nil | (refine Sel.cons (by repeat (exact Del.head)) ?_)))⟩
theorem c_kinds3 (w0 : World) (A : Option Addr) (c : Nat) (l : List (List Int)) (hr : Rd w0 A 21 l.length (arows l)) (hv : AOks l) (hn : l.length ≤ 40000000) (r : Nat) (hr8 : r < 256) (x : List Int) (hx : OpOk x) (g1 g3 : Nat) (hb1 : Rd w0 (some ⟨g1, 0, none⟩) 21 1 (MA (.slice A l.length c) r x).toList) (hb3 : Rd w0 (some ⟨g3, 0, none⟩) 19 1 (OA x).toList)  :
    CallP Tryz.prog 58 #[.pointer (some ⟨g1, 0, none⟩), .pointer (some ⟨g3, 0, none⟩)] w0 (fun v w' => rmE l r (kn x 1) (kitem x) = 0 ∧ ∃ (O : Option Addr) (oc : Nat), v = .slice O (rmP l r (kn x 1) (kitem x)).length oc ∧ St NoB w0 w' [.vec O oc 66 21 (rmP l r (kn x 1) (kitem x)).length (arows (rmP l r (kn x 1) (kitem x)))]) (fun v w' => ¬ rmE l r (kn x 1) (kitem x) = 0 ∧ v = rfs (rmE l r (kn x 1) (kitem x)) ∧ Ext w0 w') := by
 have hS := St.rd3 (S := NoB) hr hb1 hb3
 have hxl := hx.len
 have hil := op_il hxl
 have htl := op_tl hxl
 have hk1 := hx.k1
 have hk2 := hx.k2
 have hm1 := hx.m1
 have hm2 := hx.m2
 have hbi := hx.item
 have hbt := hx.text
 have hcx := hx.b1
 have hml := ma_len (s := .slice A l.length c) (r := r) hxl
 have hol := op_llen hxl
 have hqb := qty_b hv (by omega) (kn x 1) (kitem x)
 have htb := tot_b hv (by omega) (kn x 1) (kitem x)
 refine z_enter (l := [.pointer (some ⟨g1, 0, none⟩), .pointer (some ⟨g3, 0, none⟩), undef, undef, undef, undef, undef]) Tryz.func58 rfl (by simp only [Tryz.ntmps58, List.size_toArray, List.length_cons, List.length_nil, Nat.reduceAdd, Nat.reduceSub, Array.replicate_succ, Array.replicate_zero, List.push_toArray, List.append_toArray, List.nil_append, List.cons_append]) ?_
 refine z_seq fun K1 hK1 => ?_
 refine z_region ?_
 refine s_go s_assign ?_
 try simp only [nY]
 refine z_nilf ?_
 refine hK1 _ _ ?_
 refine z_seq fun K2 hK2 => ?_
 refine z_region ?_
 refine s_go (m_loada_bx U78 (hi := ti78) (hS := hS) (hfit := by omega)) ?_
 try simp only [nY, gY]
 try simp only [Nat.sub_zero]
 rw [ma_all hxl]
 refine s_go (m_fieldAddr U27 (hi := ti25)) ?_
 try simp only [nY, fY, gY]
 refine s_go (m_loada_bx U25 (hi := ti25) (hS := hS) (hfit := by (simp only [List.toList_toArray]; omega))) ?_
 try simp only [nY, gY]
 try simp only [Nat.sub_zero]
 rw [op_item hxl]
 refine zp_call en59 ?_
 try simp only [nY, mY]
 refine CallP.mono (c_without _ A c l (hS.hasRd (by repeat (exact Has.head))) hv hn r hr8 x hx (kitem x) hil hbi) ?zr1 ?zp1
 case zp1 =>
  rintro _ w1 ⟨hg1, rfl, hE1⟩
  exact ⟨rfl, hg1, rfl, (hS.ext hE1).ext_of⟩
 rintro _ w1 ⟨hg1, O1, oc1, rfl, hC1⟩
 replace hS := hS.call hC1
 simp only [List.cons_append, List.nil_append] at hS
 try simp only [nY]
 refine s_go s_assign ?_
 try simp only [nY]
 refine z_nilf ?_
 refine hK2 _ _ ?_
 refine z_ret ?_
 refine rz ?_
 refine r_tmp rfl ?_
 exact ⟨by assumption, _, _, rfl, hS.sel (by repeat (first | exact Sel.nil | (refine Sel.cons (by repeat (exact Del.head)) ?_)))⟩
theorem c_kinds4 (w0 : World) (A : Option Addr) (c : Nat) (l : List (List Int)) (hr : Rd w0 A 21 l.length (arows l)) (hv : AOks l) (hn : l.length ≤ 40000000) (r : Nat) (hr8 : r < 256) (x : List Int) (hx : OpOk x) (g1 g3 : Nat) (hb1 : Rd w0 (some ⟨g1, 0, none⟩) 21 1 (MA (.slice A l.length c) r x).toList) (hb3 : Rd w0 (some ⟨g3, 0, none⟩) 19 1 (OA x).toList) (hON : 0 ≤ opN x ∧ opN x ≤ 4294967295)  :
    CallP Tryz.prog 60 #[.pointer (some ⟨g3, 0, none⟩), .pointer (some ⟨g1, 0, none⟩)] w0 (fun v w' => stE l r x = 0 ∧ ∃ (O : Option Addr) (oc : Nat), v = .slice O (stP l r x).length oc ∧ St NoB w0 w' [.vec O oc 66 21 (stP l r x).length (arows (stP l r x))]) (fun v w' => ¬ stE l r x = 0 ∧ v = rfs (stE l r x) ∧ Ext w0 w') := by
 have hS := St.rd3 (S := NoB) hr hb1 hb3
 have hxl := hx.len
 have hil := op_il hxl
 have htl := op_tl hxl
 have hk1 := hx.k1
 have hk2 := hx.k2
 have hm1 := hx.m1
 have hm2 := hx.m2
 have hbi := hx.item
 have hbt := hx.text
 have hcx := hx.b1
 have hml := ma_len (s := .slice A l.length c) (r := r) hxl
 have hol := op_llen hxl
 have hqb := qty_b hv (by omega) (kn x 1) (kitem x)
 have htb := tot_b hv (by omega) (kn x 1) (kitem x)
 refine z_enter (l := [.pointer (some ⟨g3, 0, none⟩), .pointer (some ⟨g1, 0, none⟩), undef, undef, undef, undef, undef, undef, undef, undef, undef, undef, undef, undef, undef, undef, undef, undef, undef, undef, undef, undef, undef, undef, undef, undef, undef]) Tryz.func60 rfl (by simp only [Tryz.ntmps60, List.size_toArray, List.length_cons, List.length_nil, Nat.reduceAdd, Nat.reduceSub, Array.replicate_succ, Array.replicate_zero, List.push_toArray, List.append_toArray, List.nil_append, List.cons_append]) ?_
 refine z_seq fun K1 hK1 => ?_
 refine z_region ?_
 refine s_go s_assign ?_
 try simp only [nY]
 refine z_nilf ?_
 refine hK1 _ _ ?_
 refine z_seq fun K2 hK2 => ?_
 refine z_quiet (by kernel_rfl) (by kernel_rfl) hS ?_
 refine q_go (fun w hS => m_fieldAddr U27 (hi := ti3)) ?_
 try simp only [nY, fY, gY]
 refine q_go (fun w hS => m_load_bx U3 (hS := hS) (hv := op_n hx)) ?_
 try simp only [nY, gY]
 refine q_go (fun w hS => m_fieldAddr U78 (hi := ti22)) ?_
 try simp only [nY, fY, gY]
 refine q_go (fun w hS => m_load_bx U22 (hS := hS) (hv := ma_l0)) ?_
 try simp only [nY, gY]
 refine q_go (fun w hS => m_fieldAddr U27 (hi := ti23)) ?_
 try simp only [nY, fY, gY]
 refine q_go (fun w hS => m_load_bx U23 (hS := hS) (hv := op_c hx)) ?_
 try simp only [nY, gY]
 refine q_go (fun w hS => m_fieldAddr U27 (hi := ti25)) ?_
 try simp only [nY, fY, gY]
 refine q_go (fun w hS => m_loada_bx U25 (hi := ti25) (hS := hS) (hfit := by omega)) ?_
 try simp only [nY, gY]
 try simp only [Nat.sub_zero]
 rw [op_item hxl]
 apply q_call en43
 case H =>
   intro w hS
   try simp only [nY, mY]
   refine CallR.mono (c_countTotal _ A c l (hS.hasRd (by repeat (exact Has.head))) hv (by omega) _ hcx _ hil) ?_
   rintro _ w1 ⟨rfl, hE⟩; exact ⟨rfl, hS.ext hE⟩
 try simp only [nY]
 refine q_go (fun w hS => s_sub (hc := by exact wr_i64 (by omega) (by omega))) ?_
 try simp only [nY]
 rw [show opN x - totL (normP l) (kn x 1) (kitem x) = stN l x from rfl]
 refine q_go (fun w hS => s_assign) ?_
 try simp only [nY]
 clear hS
 refine y_q_nil fun w1 hS => ?_
 refine hK2 _ _ ?_
 refine z_seq fun K3 hK3 => ?_
 refine z_region ?_
 refine s_go (m_fieldAddr U78 (hi := ti22)) ?_
 try simp only [nY, fY, gY]
 refine s_go (m_load_bx U22 (hS := hS) (hv := ma_l0)) ?_
 try simp only [nY, gY]
 refine s_go (m_fieldAddr U78 (hi := ti5)) ?_
 try simp only [nY, fY, gY]
 refine s_go (m_load_bx U5 (hS := hS) (hv := ma_l1)) ?_
 try simp only [nY, gY]
 refine s_go (m_fieldAddr U27 (hi := ti23)) ?_
 try simp only [nY, fY, gY]
 refine s_go (m_load_bx U23 (hS := hS) (hv := op_c hx)) ?_
 try simp only [nY, gY]
 refine s_go (m_fieldAddr U27 (hi := ti25)) ?_
 try simp only [nY, fY, gY]
 refine s_go (m_loada_bx U25 (hi := ti25) (hS := hS) (hfit := by omega)) ?_
 try simp only [nY, gY]
 try simp only [Nat.sub_zero]
 rw [op_item hxl]
 refine s_go s_move ?_
 try simp only [nY]
 refine s_call en61 ?_
 try simp only [nY, mY]
 refine CallR.mono (c_countShift _ A c l (hS.hasRd (by repeat (exact Has.head))) hv (by omega) r hr8 (kn x 1) hcx (kitem x) hil hbi (stN l x) (by unfold stN; omega) (by unfold stN; omega)) ?_
 rintro _ w2 ⟨Dt, dt, rfl, hC2⟩
 replace hS := hS.call hC2
 simp only [List.cons_append, List.nil_append] at hS
 try simp only [nY]
 refine s_go (s_extract (hv := rfl)) ?_
 try simp only [gY]
 try simp only [nY]
 refine s_go (s_extract (hv := rfl)) ?_
 try simp only [gY]
 try simp only [nY]
 refine zp_call en55 ?_
 try simp only [nY, mY]
 refine CallP.mono (c_got (.slice Dt (stP l r x).length dt) (stE l r x) _) ?zr3 ?zp3
 case zp3 =>
  rintro _ w3 ⟨hg3, rfl, hE3⟩
  exact ⟨rfl, hg3, rfl, (hS.ext hE3).ext_of⟩
 rintro _ w3 ⟨hg3, rfl, hE3⟩
 replace hS := hS.ext hE3
 try simp only [nY]
 refine s_go s_assign ?_
 try simp only [nY]
 refine z_nilf ?_
 refine hK3 _ _ ?_
 refine z_ret ?_
 refine rz ?_
 refine r_tmp rfl ?_
 exact ⟨by assumption, _, _, rfl, hS.sel (by repeat (first | exact Sel.nil | (refine Sel.cons (by repeat (exact Del.head)) ?_)))⟩
theorem c_kinds5 (w0 : World) (A : Option Addr) (c : Nat) (l : List (List Int)) (hr : Rd w0 A 21 l.length (arows l)) (hv : AOks l) (hn : l.length ≤ 40000000) (r : Nat) (hr8 : r < 256) (x : List Int) (hx : OpOk x) (g1 g3 : Nat) (hb1 : Rd w0 (some ⟨g1, 0, none⟩) 21 1 (MA (.slice A l.length c) r x).toList) (hb3 : Rd w0 (some ⟨g3, 0, none⟩) 19 1 (OA x).toList)  :
    CallP Tryz.prog 62 #[.pointer (some ⟨g1, 0, none⟩), .pointer (some ⟨g3, 0, none⟩)] w0 (fun v w' => noteE l r (opT x) (kn x 1) = 0 ∧ ∃ (O : Option Addr) (oc : Nat), v = .slice O (noteP l r (opT x) (kn x 1)).length oc ∧ St NoB w0 w' [.vec O oc 66 21 (noteP l r (opT x) (kn x 1)).length (arows (noteP l r (opT x) (kn x 1)))]) (fun v w' => ¬ noteE l r (opT x) (kn x 1) = 0 ∧ v = rfs (noteE l r (opT x) (kn x 1)) ∧ Ext w0 w') := by
 have hS := St.rd3 (S := NoB) hr hb1 hb3
 have hxl := hx.len
 have hil := op_il hxl
 have htl := op_tl hxl
 have hk1 := hx.k1
 have hk2 := hx.k2
 have hm1 := hx.m1
 have hm2 := hx.m2
 have hbi := hx.item
 have hbt := hx.text
 have hcx := hx.b1
 have hml := ma_len (s := .slice A l.length c) (r := r) hxl
 have hol := op_llen hxl
 have hqb := qty_b hv (by omega) (kn x 1) (kitem x)
 have htb := tot_b hv (by omega) (kn x 1) (kitem x)
 refine z_enter (l := [.pointer (some ⟨g1, 0, none⟩), .pointer (some ⟨g3, 0, none⟩), undef, undef, undef, undef, undef, undef, undef, undef, undef, undef, undef, undef, undef]) Tryz.func62 rfl (by simp only [Tryz.ntmps62, List.size_toArray, List.length_cons, List.length_nil, Nat.reduceAdd, Nat.reduceSub, Array.replicate_succ, Array.replicate_zero, List.push_toArray, List.append_toArray, List.nil_append, List.cons_append]) ?_
 refine z_seq fun K1 hK1 => ?_
 refine z_region ?_
 refine s_go s_assign ?_
 try simp only [nY]
 refine z_nilf ?_
 refine hK1 _ _ ?_
 refine z_seq fun K2 hK2 => ?_
 refine z_region ?_
 refine s_go (m_fieldAddr U78 (hi := ti22)) ?_
 try simp only [nY, fY, gY]
 refine s_go (m_load_bx U22 (hS := hS) (hv := ma_l0)) ?_
 try simp only [nY, gY]
 refine s_go (m_fieldAddr U78 (hi := ti5)) ?_
 try simp only [nY, fY, gY]
 refine s_go (m_load_bx U5 (hS := hS) (hv := ma_l1)) ?_
 try simp only [nY, gY]
 refine s_go (m_fieldAddr U27 (hi := ti23)) ?_
 try simp only [nY, fY, gY]
 refine s_go (m_load_bx U23 (hS := hS) (hv := op_c hx)) ?_
 try simp only [nY, gY]
 refine s_go (m_fieldAddr U27 (hi := ti25)) ?_
 try simp only [nY, fY, gY]
 refine s_go (m_loada_bx U25 (hi := ti25) (hS := hS) (hfit := by (simp only [List.toList_toArray]; omega))) ?_
 try simp only [nY, gY]
 try simp only [Nat.sub_zero]
 rw [op_text hxl]
 refine s_call en63 ?_
 try simp only [nY, mY]
 refine CallR.mono (c_notePut _ A c l (hS.hasRd (by repeat (exact Has.head))) hv (by omega) r hr8 (kn x 1) hcx (opT x) htl hbt) ?_
 rintro _ w1 ⟨Dt, dt, rfl, hC1⟩
 replace hS := hS.call hC1
 simp only [List.cons_append, List.nil_append] at hS
 try simp only [nY]
 refine s_go (s_extract (hv := rfl)) ?_
 try simp only [gY]
 try simp only [nY]
 refine s_go (s_extract (hv := rfl)) ?_
 try simp only [gY]
 try simp only [nY]
 refine zp_call en55 ?_
 try simp only [nY, mY]
 refine CallP.mono (c_got (.slice Dt (noteP l r (opT x) (kn x 1)).length dt) (noteE l r (opT x) (kn x 1)) _) ?zr2 ?zp2
 case zp2 =>
  rintro _ w2 ⟨hg2, rfl, hE2⟩
  exact ⟨rfl, hg2, rfl, (hS.ext hE2).ext_of⟩
 rintro _ w2 ⟨hg2, rfl, hE2⟩
 replace hS := hS.ext hE2
 try simp only [nY]
 refine s_go s_assign ?_
 try simp only [nY]
 refine z_nilf ?_
 refine hK2 _ _ ?_
 refine z_ret ?_
 refine rz ?_
 refine r_tmp rfl ?_
 exact ⟨by assumption, _, _, rfl, hS.sel (by repeat (first | exact Sel.nil | (refine Sel.cons (by repeat (exact Del.head)) ?_)))⟩
theorem c_kinds6 (w0 : World) (A : Option Addr) (c : Nat) (l : List (List Int)) (hr : Rd w0 A 21 l.length (arows l)) (hv : AOks l) (hn : l.length ≤ 40000000) (r : Nat) (hr8 : r < 256) (x : List Int) (hx : OpOk x) (g1 g3 : Nat) (hb1 : Rd w0 (some ⟨g1, 0, none⟩) 21 1 (MA (.slice A l.length c) r x).toList) (hb3 : Rd w0 (some ⟨g3, 0, none⟩) 19 1 (OA x).toList)  :
    CallP Tryz.prog 64 #[.pointer (some ⟨g1, 0, none⟩), .pointer (some ⟨g3, 0, none⟩)] w0 (fun v w' => clE l r (kn x 1) (itmS (normP l) (kn x 1)) = 0 ∧ ∃ (O : Option Addr) (oc : Nat), v = .slice O (clP l r (kn x 1) (itmS (normP l) (kn x 1))).length oc ∧ St NoB w0 w' [.vec O oc 66 21 (clP l r (kn x 1) (itmS (normP l) (kn x 1))).length (arows (clP l r (kn x 1) (itmS (normP l) (kn x 1))))]) (fun v w' => ¬ clE l r (kn x 1) (itmS (normP l) (kn x 1)) = 0 ∧ v = rfs (clE l r (kn x 1) (itmS (normP l) (kn x 1))) ∧ Ext w0 w') := by
 have hS := St.rd3 (S := NoB) hr hb1 hb3
 have hxl := hx.len
 have hil := op_il hxl
 have htl := op_tl hxl
 have hk1 := hx.k1
 have hk2 := hx.k2
 have hm1 := hx.m1
 have hm2 := hx.m2
 have hbi := hx.item
 have hbt := hx.text
 have hcx := hx.b1
 have hml := ma_len (s := .slice A l.length c) (r := r) hxl
 have hol := op_llen hxl
 have hqb := qty_b hv (by omega) (kn x 1) (kitem x)
 have htb := tot_b hv (by omega) (kn x 1) (kitem x)
 have hno := (norm_sta hv).ok
 refine z_enter (l := [.pointer (some ⟨g1, 0, none⟩), .pointer (some ⟨g3, 0, none⟩), undef, undef, undef, undef, undef, undef, undef, undef, undef, undef, undef, undef, undef, undef, undef, undef, undef, undef, undef, undef]) Tryz.func64 rfl (by simp only [Tryz.ntmps64, List.size_toArray, List.length_cons, List.length_nil, Nat.reduceAdd, Nat.reduceSub, Array.replicate_succ, Array.replicate_zero, List.push_toArray, List.append_toArray, List.nil_append, List.cons_append]) ?_
 refine z_seq fun K1 hK1 => ?_
 refine z_region ?_
 refine s_go s_assign ?_
 try simp only [nY]
 refine z_nilf ?_
 refine hK1 _ _ ?_
 refine z_seq fun K2 hK2 => ?_
 refine z_seq fun K3 hK3 => ?_
 refine z_region ?_
 refine s_go (m_fieldAddr U78 (hi := ti22)) ?_
 try simp only [nY, fY, gY]
 refine s_go (m_load_bx U22 (hS := hS) (hv := ma_l0)) ?_
 try simp only [nY, gY]
 refine s_go (m_fieldAddr U27 (hi := ti23)) ?_
 try simp only [nY, fY, gY]
 refine s_go (m_load_bx U23 (hS := hS) (hv := op_c hx)) ?_
 try simp only [nY, gY]
 refine s_call en65 ?_
 try simp only [nY, mY]
 refine CallR.mono (c_tagsItems _ A c l (hS.hasRd (by repeat (exact Has.head))) hv (by omega) (kn x 1) hcx) ?_
 rintro _ w1 ⟨Ot, ot, rfl, hC1⟩
 replace hS := hS.call hC1
 simp only [List.cons_append, List.nil_append] at hS
 replace hS := hS.vec_rd (by exact Upd.head)
 have hio := itm_ok hno (kn x 1)
 have hilen := itm_len (normP l) (kn x 1)
 have hnb := norm_len l
 obtain ⟨t, ht⟩ : ∃ t, itmS (normP l) (kn x 1) = t := ⟨_, rfl⟩
 rw [ht] at hS hio hilen ⊢
 have hn8 := nrows_len t
 have hi8 : ∀ y ∈ t, y.length = 8 := fun y hy => (hio y hy).1
 try simp only [nY]
 refine s_go (s_len_sl U89) ?_
 try simp only [nY]
 refine s_go s_move ?_
 try simp only [nY]
 refine z_nilf ?_
 refine hK3 _ _ ?_
 refine z_block ?_
 refine z_loop [2, 4, 11, 12, 13, 14, 15, 16, 17, 18, 19, 20] (fun m f w => ∃ (k : Nat) (O : Option Addr) (oc : Nat), k ≤ t.length ∧ m = t.length - k ∧ f 11 = .int .i64 (k : Int) ∧ f 2 = .slice O (clP l r (kn x 1) (t.take k)).length oc ∧ clE l r (kn x 1) (t.take k) = 0 ∧ St NoB w0 w [.vec O oc 66 21 (clP l r (kn x 1) (t.take k)).length (arows (clP l r (kn x 1) (t.take k))), .rd Ot 8 t.length (nrows t), .rd A 21 (l).length (arows (l)), .rd (some ⟨g1, 0, none⟩) 21 1 (MA (.slice A l.length c) r x).toList, .rd (some ⟨g3, 0, none⟩) 19 1 (OA x).toList]) (t.length) ?init1 (fun m1 f1 wl1 hI => ?_)
 case init1 =>
  try simp only [nY]
  replace hS := hS.nil_vec 66 21
  exact ⟨0, none, 0, by omega, rfl, rfl, rfl, rfl, hS.sel (by repeat (first | exact Sel.nil | (refine Sel.cons (by repeat (exact Del.head)) ?_)))⟩
 obtain ⟨k, O, oc, hk0, hmk, hf11, hf2, hcl, hS⟩ := hI
 simp only [clob, List.foldl, n3, n4, hf11, hf2]
 obtain ⟨y, hy⟩ : ∃ y, t.getD k [] = y := ⟨_, rfl⟩
 have hcall := clP_all (ns := t.take k) hv hn hr8 hcx (fun y hy => hio y (List.mem_of_mem_take hy))
 have htk : (t.take k).length = k := by rw [List.length_take]; omega
 rw [htk] at hcall
 refine z_seq fun K4 hK4 => ?_
 refine z_region ?_
 refine s_go s_lss ?_
 try simp only [nY]
 refine z_nilf ?_
 refine hK4 _ _ ?_
 refine z_seq fun K5 hK5 => ?_
 refine z_cond (ht := fun hc1 => ?_) (hf := fun hc1 => ?_)
 ·
  try simp only [dY] at hc1
  have hyo : y.length = 8 ∧ Byt y := by rw [← hy]; exact hio _ (getD_mem' (by omega))
  have hst : clP l r (kn x 1) (t.take (k + 1)) = normP (clP l r (kn x 1) (t.take k) ++ rmP l r (kn x 1) y) := by rw [take_snoc (by omega), hy, clP_snoc]
  refine z_skip ?_
  refine hK5 _ _ ?_
  refine z_seq fun K6 hK6 => ?_
  refine z_block ?_
  refine z_seq fun K7 hK7 => ?_
  refine z_region ?_
  refine s_go (m_indexAddr_rd U89 ti25 (hS := hS)) ?_
  try simp only [nY, Nat.mul_one, Nat.zero_add, Int.toNat_natCast, Int.reduceToNat]
  refine s_go (m_loada_rd U25 (hi := ti25) (hS := hS) (hfit := by rw [nrows_len]; omega)) ?_
  try simp only [nY, gY]
  rw [nrow_get (by omega) hi8, hy]
  refine m_alloc ti25 hS (fun w2 g2 hS => ?_)
  try simp only [nY, aY] at hS ⊢
  obtain ⟨gy, hgy⟩ : ∃ z, z = g2 := ⟨_, rfl⟩
  rw [← hgy] at hS ⊢
  refine m_store_obj ti25 (hS := hS) (hc := by exact splice_whole (by exact (ic_size _ _).trans hyo.1)) (h := fun w3 hS => ?_)
  try simp only [nY, aY] at hS ⊢
  refine z_nilf ?_
  refine hK7 _ _ ?_
  refine z_region ?_
  refine s_go s_move ?_
  try simp only [nY]
  refine s_go (m_loada_bx U78 (hi := ti78) (hS := hS) (hfit := by omega)) ?_
  try simp only [nY, gY]
  try simp only [Nat.sub_zero]
  rw [ma_all hxl]
  refine s_go (m_load_row U25 (hi := ti25) (hS := hS) (hfit := by rw [ic_size, hyo.1])) ?_
  try simp only [nY, gY]
  refine zp_call en59 ?_
  try simp only [nY, mY]
  refine CallP.mono (c_without _ A c l (hS.hasA) hv hn r hr8 x hx y hyo.1 hyo.2) ?zr4 ?zp4
  case zp4 =>
   rintro _ w4 ⟨hg4, rfl, hE4⟩
   have hca := clE_at (by omega) hy hcl hg4
   exact ⟨rfl, by rw [ht, hca]; exact hg4, by rw [ht, hca], (hS.ext hE4).ext_of⟩
  rintro _ w4 ⟨hg4, O4, oc4, rfl, hC4⟩
  replace hS := hS.call hC4
  simp only [List.cons_append, List.nil_append] at hS
  have hcl2 := clE_step (by omega) hy hcl hg4
  have hrl := rmP_len l r (kn x 1) y
  have hro := rmP_ok hv hn hr8 hcx hyo.1 hyo.2
  try simp only [nY]
  refine s_call en28 ?_
  try simp only [nY, mY]
  refine CallR.mono (c_latJoin _ O oc (clP l r (kn x 1) (t.take k)) (hS.vecA) hcall.1 _ _ (rmP l r (kn x 1) y) (hS.vecRd (by repeat (exact Has.head))) hro (by omega)) ?_
  rintro _ w5 ⟨Dj, dj, rfl, hC5⟩
  replace hS := hS.call hC5
  simp only [List.cons_append, List.nil_append] at hS
  try simp only [nY]
  refine s_go s_assign ?_
  try simp only [nY]
  refine z_nilf ?_
  refine hK6 _ _ ?_
  refine z_region ?_
  refine s_go (s_add (hc := by exact wr_i64 (by omega) (by omega))) ?_
  try simp only [nY]
  refine s_go s_move ?_
  try simp only [nY]
  refine z_nilf ?_
  refine loop_back_y (m' := t.length - (k + 1)) (by simp only [clob, List.foldl, nZ]) ?_ ?_
  · try simp only [nY]
    exact ⟨k + 1, _, _, by omega, by omega, by rfl, by rw [hst], hcl2, by rw [hst]; exact hS.selA⟩
  · omega
 try simp only [dY] at hc1
 obtain rfl : k = t.length := by omega
 rw [List.take_of_length_le (Nat.le_refl _)] at hS hcl ⊢
 refine z_exit (look_here ?_)
 refine hK2 _ _ ?_
 refine z_seq fun K8 hK8 => ?_
 refine z_region ?_
 refine s_go s_move ?_
 try simp only [nY]
 refine s_go s_assign ?_
 try simp only [nY]
 refine z_nilf ?_
 refine hK8 _ _ ?_
 refine z_ret ?_
 refine rz ?_
 refine r_tmp rfl ?_
 rw [ht]
 exact ⟨hcl, _, _, rfl, hS.sel (by repeat (first | exact Sel.nil | (refine Sel.cons (by repeat (exact Del.head)) ?_)))⟩
theorem c_kinds (s : Value) (r : Nat) (x : List Int) (hx : OpOk x)  (w0 : World) :
    CallR Tryz.prog 35 #[.agg (MA s r x)] w0 fun v w' => ∃ g1 g3 : Nat, v = .agg #[.func (.func 53) #[] #[], .func (.func 54) #[] #[.pointer (some ⟨g1, 0, none⟩), .pointer (some ⟨g3, 0, none⟩)], .func (.func 58) #[] #[.pointer (some ⟨g1, 0, none⟩), .pointer (some ⟨g3, 0, none⟩)], .func (.func 60) #[] #[.pointer (some ⟨g3, 0, none⟩), .pointer (some ⟨g1, 0, none⟩)], .func (.func 62) #[] #[.pointer (some ⟨g1, 0, none⟩), .pointer (some ⟨g3, 0, none⟩)], .func (.func 64) #[] #[.pointer (some ⟨g1, 0, none⟩), .pointer (some ⟨g3, 0, none⟩)]] ∧ St NoB w0 w' [.obj g1 (.cells (MA s r x) 78 (0, 0)), .obj g3 (.cells (OA x) 27 (0, 0))] := by
 have hS : St NoB w0 w0 [] := St.start w0
 have hxl := hx.len
 have hil := op_il hxl
 have htl := op_tl hxl
 have hk1 := hx.k1
 have hk2 := hx.k2
 have hm1 := hx.m1
 have hm2 := hx.m2
 have hbi := hx.item
 have hbt := hx.text
 have hcx := hx.b1
 have hms := ma_size (s := s) (r := r) hxl
 have hos := op_size hxl
 refine c_enter (l := [.agg (MA s r x), undef, undef, undef, undef, undef, undef, undef, undef, undef, undef, undef]) Tryz.func35 rfl (by simp only [Tryz.ntmps35, List.size_toArray, List.length_cons, List.length_nil, Nat.reduceAdd, Nat.reduceSub, Array.replicate_succ, Array.replicate_zero, List.push_toArray, List.append_toArray, List.nil_append, List.cons_append]) ?_
 refine x_seq fun K1 hK1 => x_region ?_
 refine m_box hS (fun w1 g1 hS => ?_)
 try simp only [nY, aY] at hS ⊢
 obtain ⟨ga, hga⟩ : ∃ z, z = g1 := ⟨_, rfl⟩
 rw [← hga] at hS ⊢
 refine m_alloc ti76 hS (fun w2 g2 hS => ?_)
 try simp only [nY, aY] at hS ⊢
 refine x_nil (hK1 _ _ ?_)
 refine x_seq fun K2 hK2 => x_region ?_
 refine s_go (m_fieldAddr U78 (hi := ti27)) ?_
 try simp only [nY, fY, gY]
 refine s_go (m_loada_obj U27 (hi := ti27) (hS := hS) (hfit := by omega)) ?_
 try simp only [nY, gY]
 rw [ma_op hxl]
 refine m_alloc ti27 hS (fun w3 g3 hS => ?_)
 try simp only [nY, aY] at hS ⊢
 replace hS : St NoB w0 w3 (.obj g3 (.cells (OA (List.replicate 19 0)) 27 (0, 0)) :: _) := hS
 obtain ⟨gb, hgb⟩ : ∃ z, z = g3 := ⟨_, rfl⟩
 rw [← hgb] at hS ⊢
 refine m_store_obj ti27 (hS := hS) (hc := by exact zi_whole (by rfl) (by exact hxl)) (hv := by (show (zi _ _).toArray.size = _; rw [zi_size (by omega)]; rfl)) (hfit := by (simp only [ic_size, List.length_map, List.size_toArray]; decide)) (h1 := by exact zi_one _ _) (h := fun w4 hS => ?_)
 try simp only [nY, aY] at hS ⊢
 refine x_nil (hK2 _ _ ?_)
 refine x_seq fun K3 hK3 => x_region ?_
 refine s_go s_makeFunc ?_
 try simp only [nY, List.map_toArray, List.map_cons, List.map_nil]
 refine s_go s_makeFunc ?_
 try simp only [nY, List.map_toArray, List.map_cons, List.map_nil]
 refine s_go s_makeFunc ?_
 try simp only [nY, List.map_toArray, List.map_cons, List.map_nil]
 refine s_go s_makeFunc ?_
 try simp only [nY, List.map_toArray, List.map_cons, List.map_nil]
 refine s_go s_makeFunc ?_
 try simp only [nY, List.map_toArray, List.map_cons, List.map_nil]
 refine s_go (s_build_arr (cells := #[_, _, _, _, _, _]) U76 ti76 ti75 (hc := by simp only [List.map_toArray, List.map_cons, List.map_nil, nY, List.toList_toArray]; (repeat (refine fill_cons rfl rfl (Nat.le_of_ble_eq_true rfl) ?_)); rfl)) ?_
 try simp only [nY]
 refine m_store_obj ti76 (hS := hS) (hc := by (exact splice_whole (by (simp [opv, Value.cells, *]; done)))) (hv := by rfl) (hfit := by (simp only [ic_size, List.length_map, List.size_toArray]; decide)) (h1 := by simp [opv, Value.cells, Value.oneCell']) (h := fun w5 hS => ?_)
 try simp only [nY, aY] at hS ⊢
 refine x_nil (hK3 _ _ ?_)
 refine x_ret ?_
 refine r_cell_agg rfl U76 ti76 (hS := hS) (hfit := by rfl) (hR := ?_)
 exact ⟨_, _, rfl, hS.selA⟩
end Go.Proofs.YtpekghaodmeemaaGreat
set_option linter.unusedSimpArgs false
set_option linter.unusedVariables false
set_option maxHeartbeats 1000000
set_option maxRecDepth 100000
namespace Go.Proofs.YtpekghaodmeemaaGreat
open Go.RowKit

section
variable {P : Program} {fn : Func} {t u : Nat} {T U : TypeId} {l : List Value} {w w0 : World} {S : Nat → Prop} {L : List Res} {R : Value → World → Prop} {dsc dsc2 : TypeDesc} {g g2 : Nat} {cs cs2 : Array Value} {ct ct2 : TypeId} {f f2 : Nat × Nat} {x y : Value}
theorem r_cell_cell_oo (h : fn.results = #[.cell t T, .cell u U]) (hu : P.underlying T = some dsc) (hu2 : P.underlying U = some dsc2) (hd : isAggD dsc = false := by rfl) (hd2 : isAggD dsc2 = false := by rfl) (hp : l.getD t undef = .pointer (some ⟨g, 0, none⟩) := by rfl) (hp2 : l.getD u undef = .pointer (some ⟨g2, 0, none⟩) := by rfl) (hS : St S w0 w L) (hm : Has L (.obj g (.cells cs ct f)) := by repeat (first | exact Has.head | apply Has.tail)) (hm2 : Has L (.obj g2 (.cells cs2 ct2 f2)) := by repeat (first | exact Has.head | apply Has.tail)) (hv : cs[0]? = some x := by rfl) (hv2 : cs2[0]? = some y := by rfl) (hR : R (.tuple #[x, y]) w) : Rt P fn R (fr l) w :=
  r_cell_cell h hp (obj_loads_one hu hd hS hm hv) hp2 (obj_loads_one hu2 hd2 hS hm2 hv2) hR
end
theorem ok_one {a : List Int} (h : AtomOk a) : AOks [a] := fun b hb => by rw [List.mem_singleton] at hb; rw [hb]; exact h
end Go.Proofs.YtpekghaodmeemaaGreat
set_option linter.unusedSimpArgs false
set_option linter.unusedVariables false
set_option maxHeartbeats 400000
set_option maxRecDepth 100000
namespace Go.Proofs.YtpekghaodmeemaaGreat
open Go.RowKit

theorem meth20 : Tryz.prog.underlying 20 = some (.interface (Tryz.prog.methodsAt 20)) := U20.trans (by kernel_rfl)
abbrev pdd (g : Nat) : Value := .pointer (some ⟨g, 0, none⟩)
abbrev ddD (gd ge : Nat) : Deferred := { target := .fn (.func 32) #[pdd gd, pdd ge], args := #[] }
abbrev DM (gd ge : Nat) (cd : Value) (ce : Int) : List Res := [.obj gd (.cells #[cd] 22 (0, 0)), .obj ge (.cells #[.int .i64 ce] 39 (0, 0))]
theorem modeEq {c : Frame} {u : FrameMode} (h : c.mode = u) : c = { c with mode := u } := by cases c; simp_all

theorem do1_ret (gd ge : Nat) (w0 : World) : CallsD Tryz.prog 32 #[pdd gd, pdd ge] .returning w0 fun e u' w' => u' = .returning ∧ ∃ v, e = .returned v ∧ (v = .tuple #[] ∧ Ext w0 w') := by
 have hS : St NoB w0 w0 [] := St.start w0
 refine callsD_of_wpS Tryz.func32 rfl fun c₀ cs hu => ?_
 rw [show ({ tmps := #[pdd gd, pdd ge] ++ Array.replicate (Tryz.f32.ntmps - (#[pdd gd, pdd ge] : Array Value).size) undef, defers := [] } : Act) = frd [] [pdd gd, pdd ge, undef, undef, undef, undef, undef, undef, undef, undef, undef, undef, undef, undef, undef, undef, undef, undef] from by simp only [Tryz.ntmps32, List.size_toArray, List.length_cons, List.length_nil, Nat.reduceAdd, Nat.reduceSub, Array.replicate_succ, Array.replicate_zero, List.push_toArray, List.append_toArray, List.nil_append, List.cons_append, frd]]
 refine wpS_seq ?_
 refine rec_none (by simp [recoverD, hu]) (Nat.le_of_ble_eq_true rfl) ?_
 simp only [n3, n4]
 rw [modeEq hu]
 refine s_body (R := fun v w' => v = .tuple #[] ∧ Ext w0 w') ?_
 refine z_seq fun K1 hK1 => ?_
 refine z_region ?_
 refine s_go s_move ?_
 try simp only [nY]
 refine s_go (s_neq_nils meth20) ?_
 try simp only [n3, n4]
 refine z_nilf ?_
 refine hK1 _ _ ?_
 refine z_cond_f (h := ?_)
 refine z_skip ?_
 refine rz ?_
 refine r_none rfl ?_
 exact ⟨rfl, hS.ext_of⟩
theorem do1_pan (gd ge : Nat) (w0 : World) (cd : Value) (ce e : Int) (hM : St (OwnB (DM gd ge cd ce)) w0 w0 (DM gd ge cd ce)) : CallsD Tryz.prog 32 #[pdd gd, pdd ge] (.panicking [{ v := rfs e, recovered := false }]) w0 fun en u' w' => u' = .panicking [{ v := rfs e, recovered := true }] ∧ ∃ v, en = .returned v ∧ (v = .tuple #[] ∧ St (OwnB (DM gd ge cd ce)) w0 w' (DM gd ge (.slice none 0 0) e)) := by
 have hS := hM
 refine callsD_of_wpS Tryz.func32 rfl fun c₀ cs hu => ?_
 rw [show ({ tmps := #[pdd gd, pdd ge] ++ Array.replicate (Tryz.f32.ntmps - (#[pdd gd, pdd ge] : Array Value).size) undef, defers := [] } : Act) = frd [] [pdd gd, pdd ge, undef, undef, undef, undef, undef, undef, undef, undef, undef, undef, undef, undef, undef, undef, undef, undef] from by simp only [Tryz.ntmps32, List.size_toArray, List.length_cons, List.length_nil, Nat.reduceAdd, Nat.reduceSub, Array.replicate_succ, Array.replicate_zero, List.push_toArray, List.append_toArray, List.nil_append, List.cons_append, frd]]
 refine wpS_seq ?_
 refine rec_some (v := rfs e) (cs' := { c₀ with mode := .panicking [{ v := rfs e, recovered := true }] } :: cs) (by simp [recoverD, hu]) (Nat.le_of_ble_eq_true rfl) ?_
 simp only [n3, n4]
 refine s_body (R := fun v w' => v = .tuple #[] ∧ St (OwnB (DM gd ge cd ce)) w0 w' (DM gd ge (.slice none 0 0) e)) ?_
 refine z_seq fun K1 hK1 => ?_
 refine z_region ?_
 refine s_go s_move ?_
 try simp only [nY]
 refine s_go (s_neq_held meth20 (by rfl)) ?_
 try simp only [n3, n4]
 refine z_nilf ?_
 refine hK1 _ _ ?_
 refine z_cond_t (h := ?_)
 refine z_seq fun K2 hK2 => ?_
 refine z_region ?_
 refine s_go s_move ?_
 try simp only [nY]
 refine s_go (s_assert_ok U71) ?_
 try simp only [nY]
 refine s_go s_move ?_
 try simp only [nY]
 refine s_go (s_extract (hv := rfl)) ?_
 try simp only [gY]
 try simp only [nY]
 refine s_go (s_extract (hv := rfl)) ?_
 try simp only [gY]
 try simp only [nY]
 refine m_alloc ti71 hS (fun w1 g1 hS => ?_)
 try simp only [nY, aY] at hS ⊢
 obtain ⟨gr, hgr⟩ : ∃ z, z = g1 := ⟨_, rfl⟩
 rw [← hgr] at hS ⊢
 refine m_store_obj ti71 (hS := hS) (h := fun w2 hS => ?_)
 try simp only [nY, aY] at hS ⊢
 refine s_go s_assign ?_
 try simp only [nY]
 refine z_nilf ?_
 refine hK2 _ _ ?_
 refine z_seq fun K3 hK3 => ?_
 refine z_seq fun K4 hK4 => ?_
 refine z_region ?_
 refine s_go s_move ?_
 try simp only [nY]
 refine s_go s_not ?_
 try simp only [nY]
 refine z_nilf ?_
 refine hK4 _ _ ?_
 refine z_cond_f (h := ?_)
 refine z_skip ?_
 refine hK3 _ _ ?_
 refine z_mixed_c (Lc := [.obj gr (.cells #[.int .i64 e] 71 (0, 0))]) [3] [16, 17] (fun f w => St (OwnB (DM gd ge cd ce)) w0 w (DM gd ge (.slice none 0 0) e)) (by kernel_rfl) hS (fun w3 hS => ?mixpre501) ?mixrest501
 case mixpre501 =>
  simp only [List.length_cons, List.length_nil, Nat.reduceAdd, Nat.reduceSub]
  refine zny_go (lo := 0) (i := 0) (PnOK.no) (by rfl) (by decide) (by decide +kernel) (by decide +kernel) (by unfold noLate; decide) (go_yields w_none (fun w hS => m_fieldAddr U71 (hi := ti39))) ?_
  try simp only [nY, fY, gY]
  refine zny_go (lo := 0) (i := 1) (PnOK.no) (by rfl) (by decide) (by decide +kernel) (by decide +kernel) (by unfold noLate; decide) (go_yields w_none (fun w hS => m_load_obj U39 (hS := hS))) ?_
  try simp only [nY, gY]
  refine zny_step [2] (by kernel_rfl) (by decide) (fun w4 hE => ⟨fun _ => (hS.ext hE).sel (by repeat (first | exact Sel.nil | (refine Sel.cons (by repeat (exact Del.head)) ?_))), ?_⟩)
  replace hS := hS.ext hE
  intro i hi
  simp only [List.mem_cons, List.not_mem_nil, or_false] at hi
  subst hi
  refine zny_op (by rfl) ?_
  refine m_store_obj ti22 (hS := hS) (h := fun w5 hS => ?_)
  try simp only [nY, aY] at hS ⊢
  refine z_nil ?_
  refine zny_step [3] (by kernel_rfl) (by decide) (fun w6 hE => ⟨fun _ => (hS.ext hE).sel (by repeat (first | exact Sel.nil | (refine Sel.cons (by repeat (exact Del.head)) ?_))), ?_⟩)
  replace hS := hS.ext hE
  intro i hi
  simp only [List.mem_cons, List.not_mem_nil, or_false] at hi
  subst hi
  refine zny_op (by rfl) ?_
  refine m_store_obj ti39 (hS := hS) (h := fun w7 hS => ?_)
  try simp only [nY, aY] at hS ⊢
  refine z_nil ?_
  refine zny_nil (by kernel_rfl) (fun w8 hE => ?_)
  replace hS := hS.ext hE
  refine ⟨fun hl => absurd (hl 3 (by decide)) (by decide +kernel), ?_⟩
  refine mix_leaf (by simp only [clob, List.foldl, nZ]) ?_
  try simp only [n1, n2]
  exact hS.selA
 intro fm1 w9 hM
 replace hS := hM
 simp only [clob, List.foldl, n3, n4]
 refine rz ?_
 refine r_none rfl ?_
 exact ⟨rfl, hS.sel (by repeat (first | exact Sel.nil | (refine Sel.cons (by repeat (exact Del.head)) ?_)))⟩
end Go.Proofs.YtpekghaodmeemaaGreat
set_option linter.unusedSimpArgs false
set_option linter.unusedVariables false
set_option maxHeartbeats 400000
set_option maxRecDepth 100000
namespace Go.Proofs.YtpekghaodmeemaaGreat
open Go.RowKit

/-- which closure makes a kind, and what it holds -/
def kid (k : Int) : Nat := if k = 1 then 54 else if k = 2 then 58 else if k = 3 then 60 else if k = 4 then 62 else 64
def kcap (k : Int) (a b : Nat) : Array Value := if k = 3 then #[pdd b, pdd a] else #[pdd a, pdd b]
def kfs (a b : Nat) : Array Value := #[.func (.func 53) #[] #[], .func (.func 54) #[] #[.pointer (some ⟨a, 0, none⟩), .pointer (some ⟨b, 0, none⟩)], .func (.func 58) #[] #[.pointer (some ⟨a, 0, none⟩), .pointer (some ⟨b, 0, none⟩)], .func (.func 60) #[] #[.pointer (some ⟨b, 0, none⟩), .pointer (some ⟨a, 0, none⟩)], .func (.func 62) #[] #[.pointer (some ⟨a, 0, none⟩), .pointer (some ⟨b, 0, none⟩)], .func (.func 64) #[] #[.pointer (some ⟨a, 0, none⟩), .pointer (some ⟨b, 0, none⟩)]]
theorem five {k : Int} (h : 1 ≤ k ∧ k ≤ 5) : k = 1 ∨ k = 2 ∨ k = 3 ∨ k = 4 ∨ k = 5 := by omega
theorem kf_en {k : Int} (h : 1 ≤ k ∧ k ≤ 5) : Enters Tryz.prog (kid k) := by
  rcases five h with rfl | rfl | rfl | rfl | rfl
  · exact en54
  · exact en58
  · exact en60
  · exact en62
  · exact en64
theorem kf_get {k : Int} (h : 1 ≤ k ∧ k ≤ 5) {a b : Nat} : (kfs a b)[k.toNat * 1]? = some (.func (.func (kid k)) #[] (kcap k a b)) := by
  rcases five h with rfl | rfl | rfl | rfl | rfl <;> rfl
theorem c_kindAny (w0 : World) (A : Option Addr) (c : Nat) (l : List (List Int)) (hr : Rd w0 A 21 l.length (arows l)) (hv : AOks l) (hn : l.length ≤ 40000000) (r : Nat) (hr8 : r < 256) (x : List Int) (hx : OpOk x) (hK : 1 ≤ opK x ∧ opK x ≤ 5) (hON : (opK x = 1 ∨ opK x = 3) → 0 ≤ opN x ∧ opN x ≤ 4294967295)
    (g1 g3 : Nat) (hb1 : Rd w0 (some ⟨g1, 0, none⟩) 21 1 (MA (.slice A l.length c) r x).toList) (hb3 : Rd w0 (some ⟨g3, 0, none⟩) 19 1 (OA x).toList) :
    CallP Tryz.prog (kid (opK x)) (kcap (opK x) g1 g3) w0 (fun v w' => mkE l r x = 0 ∧ ∃ (O : Option Addr) (oc : Nat), v = .slice O (mkP l r x).length oc ∧ St NoB w0 w' [.vec O oc 66 21 (mkP l r x).length (arows (mkP l r x))]) (fun v w' => ¬ mkE l r x = 0 ∧ v = rfs (mkE l r x) ∧ Ext w0 w') := by
  rcases five hK with h | h | h | h | h
  · rw [show mkE l r x = adE l r x by rw [mkE, if_pos h], show mkP l r x = adP l r x by rw [mkP, if_pos h], h]
    exact c_kinds2 w0 A c l hr hv hn r hr8 x hx g1 g3 hb1 hb3
  · rw [show mkE l r x = rmE l r (kn x 1) (kitem x) by rw [mkE, if_neg (by omega), if_pos h], show mkP l r x = rmP l r (kn x 1) (kitem x) by rw [mkP, if_neg (by omega), if_pos h], h]
    exact c_kinds3 w0 A c l hr hv hn r hr8 x hx g1 g3 hb1 hb3
  · rw [show mkE l r x = stE l r x by rw [mkE, if_neg (by omega), if_neg (by omega), if_pos h], show mkP l r x = stP l r x by rw [mkP, if_neg (by omega), if_neg (by omega), if_pos h], h]
    exact c_kinds4 w0 A c l hr hv hn r hr8 x hx g1 g3 hb1 hb3 (hON (.inr h))
  · rw [show mkE l r x = noteE l r (opT x) (kn x 1) by rw [mkE, if_neg (by omega), if_neg (by omega), if_neg (by omega), if_pos h], show mkP l r x = noteP l r (opT x) (kn x 1) by rw [mkP, if_neg (by omega), if_neg (by omega), if_neg (by omega), if_pos h], h]
    exact c_kinds5 w0 A c l hr hv hn r hr8 x hx g1 g3 hb1 hb3
  · rw [show mkE l r x = clE l r (kn x 1) (itmS (normP l) (kn x 1)) by rw [mkE, if_neg (by omega), if_neg (by omega), if_neg (by omega), if_neg (by omega)], show mkP l r x = clP l r (kn x 1) (itmS (normP l) (kn x 1)) by rw [mkP, if_neg (by omega), if_neg (by omega), if_neg (by omega), if_neg (by omega)], h]
    exact c_kinds6 w0 A c l hr hv hn r hr8 x hx g1 g3 hb1 hb3
def dE (s : List (List Int)) (m : Int) (r : Nat) (x : List Int) : Int :=
  if ¬ opE x = 0 then opE x else if 16 ≤ r then 1 else if (opK x = 2 ∨ opK x = 3) ∧ qtyB s (kn x 1) (kitem x) = false then 6 else
  if ¬ mkE s r x = 0 then mkE s r x else if max m (s.length : Int) < ((normP (s ++ mkP s r x)).length : Int) then 7 else 0
def dP (s : List (List Int)) (m : Int) (r : Nat) (x : List Int) : List (List Int) := if dE s m r x = 0 then mkP s r x else []
section
variable {s : List (List Int)} {m : Int} {r : Nat} {x : List Int}
theorem dE_e (h : ¬ opE x = 0) : dE s m r x = opE x := by rw [dE, if_pos h]
theorem dE_r (h : opE x = 0) (hr : 16 ≤ r) : dE s m r x = 1 := by rw [dE, if_neg (fun q => q h), if_pos hr]
theorem dE_n (h : opE x = 0) (hr : ¬ 16 ≤ r) (hp : (opK x = 2 ∨ opK x = 3) ∧ qtyB s (kn x 1) (kitem x) = false) : dE s m r x = 6 := by rw [dE, if_neg (fun q => q h), if_neg hr, if_pos hp]
theorem dE_m (h : opE x = 0) (hr : ¬ 16 ≤ r) (hp : ¬ ((opK x = 2 ∨ opK x = 3) ∧ qtyB s (kn x 1) (kitem x) = false)) (hm : ¬ mkE s r x = 0) : dE s m r x = mkE s r x := by rw [dE, if_neg (fun q => q h), if_neg hr, if_neg hp, if_pos hm]
theorem dE_f (h : opE x = 0) (hr : ¬ 16 ≤ r) (hp : ¬ ((opK x = 2 ∨ opK x = 3) ∧ qtyB s (kn x 1) (kitem x) = false)) (hm : mkE s r x = 0) (hf : max m (s.length : Int) < ((normP (s ++ mkP s r x)).length : Int)) : dE s m r x = 7 := by rw [dE, if_neg (fun q => q h), if_neg hr, if_neg hp, if_neg (fun q => q hm), if_pos hf]
theorem dE_0 (h : opE x = 0) (hr : ¬ 16 ≤ r) (hp : ¬ ((opK x = 2 ∨ opK x = 3) ∧ qtyB s (kn x 1) (kitem x) = false)) (hm : mkE s r x = 0) (hf : ¬ max m (s.length : Int) < ((normP (s ++ mkP s r x)).length : Int)) : dE s m r x = 0 := by rw [dE, if_neg (fun q => q h), if_neg hr, if_neg hp, if_neg (fun q => q hm), if_neg hf]
theorem dP_no (h : ¬ dE s m r x = 0) : dP s m r x = [] := by rw [dP, if_neg h]
theorem dP_yes (h : dE s m r x = 0) : dP s m r x = mkP s r x := by rw [dP, if_pos h]
theorem noteP_le1 (l : List (List Int)) (r : Nat) (tx : List Int) (c : Nat) : (noteP l r tx c).length ≤ 1 := by unfold noteP; split <;> simp
theorem noteP_aok {l : List (List Int)} {r : Nat} {tx : List Int} {c : Nat} (hr : r < 256) (hc : c < 65536) (h8 : tx.length = 8) (hb : Byt tx) : AOks (noteP l r tx c) := by
  unfold noteP; split
  · intro a ha; rw [List.mem_singleton] at ha; rw [ha]; exact noteA_ok hr hc h8 hb
  · exact AOks.nil
theorem mkP_all (hv : AOks s) (hn : s.length ≤ 40000000) (hr : r < 256) (hx : OpOk x) (hON : (opK x = 1 ∨ opK x = 3) → 0 ≤ opN x ∧ opN x ≤ 4294967295) : AOks (mkP s r x) ∧ (mkP s r x).length ≤ 2 * s.length + 2 := by
  have hil := op_il hx.len
  have htl := op_tl hx.len
  have hb := hx.item
  have hc := hx.b1
  have hm2 := hx.m2
  have htb := tot_b hv (by omega) (kn x 1) (kitem x)
  unfold mkP
  split
  · have h1 := addP_aok (c := kn x 1) hv hr hc hil hb
    have h2 := turnP_ok (n := opN x) hv (.inl rfl) hr hc hil hb hm2
    refine ⟨(norm_sta (h1.app h2)).ok, ?_⟩
    have h3 := norm_len (addP s r (kn x 1) (kitem x) ++ turnP s 2 r (kn x 1) (kitem x) (opN x))
    rw [List.length_append] at h3
    have h4 := addP_len s r (kn x 1) (kitem x)
    have h5 := turnP_len s 2 r (kn x 1) (kitem x) (opN x)
    unfold adP; omega
  · split
    · have h1 := rmP_len s r (kn x 1) (kitem x)
      exact ⟨rmP_ok hv hn hr hc hil hb, by omega⟩
    · split
      · next h => 
        have h3 := hON (.inr h)
        have h1 := turnP_len s (shiftS (stN s x)) r (kn x 1) (kitem x) (shiftN (stN s x))
        have h2 := shiftN_le (n := stN s x) (by unfold stN; omega)
        exact ⟨turnP_ok hv (shiftS_or _) hr hc hil hb h2.1, by unfold stP; omega⟩
      · split
        · have h1 := noteP_le1 s r (opT x) (kn x 1)
          exact ⟨noteP_aok hr hc htl hx.text, by omega⟩
        · have h1 := clP_all (r := r) (c := kn x 1) hv hn hr hc (itm_ok (norm_sta hv).ok (kn x 1))
          have h2 := itm_len (normP s) (kn x 1)
          have h3 := norm_len s
          exact ⟨h1.1, by omega⟩
end
/-- what is known where it is refused -/
def DPN (s : List (List Int)) (m : Int) (r : Nat) (x : List Int) (w0 : World) (a : Act) (v : Value) (w : World) : Prop :=
  ∃ (gd ge : Nat) (cd : Value) (ce : Int), a.defers = [ddD gd ge] ∧ a.tmps[8]? = some (pdd gd) ∧ a.tmps[9]? = some (pdd ge) ∧ ¬ dE s m r x = 0 ∧ v = rfs (dE s m r x) ∧ St NoB w0 w (DM gd ge cd ce)
theorem dpn_ok {s : List (List Int)} {m : Int} {r : Nat} {x : List Int} {w0 : World} : PnOK 10 (DPN s m r x w0) := by
  rintro d u a v w hd ⟨gd, ge, cd, ce, h1, h2, h3, h4⟩
  refine ⟨gd, ge, cd, ce, h1, ?_, ?_, h4⟩
  · simpa [Act.put, Array.getElem?_setIfInBounds, show ¬ d = 8 by omega] using h2
  · simpa [Act.put, Array.getElem?_setIfInBounds, show ¬ d = 9 by omega] using h3
theorem inv_dd (gd ge : Nat) (w : World) : (invoke (.fn (.func 32) #[pdd gd, pdd ge]) #[]).run Tryz.prog w = .ok (.enter 32 #[pdd gd, pdd ge]) w := by
  have := en32 (#[] ++ #[pdd gd, pdd ge]) w
  rw [Array.empty_append] at this
  exact this
theorem do_ret {R : Value → World → Prop} {l : List Value} {w : World} {gd ge : Nat} (h : ∀ w', Ext w w' → Rt Tryz.prog Tryz.f13 R (fr l) w') : RtD Tryz.prog Tryz.f13 R (frd [ddD gd ge] l) w := by
  refine leaves_cons (by simp) (inv_dd gd ge w) ((do1_ret gd ge w).mono ?_)
  rintro e u' w' ⟨rfl, v, rfl, _, hE⟩
  obtain ⟨_, v, h1, h2⟩ := h w' hE
  exact ⟨v, h1, v, rfl, h2⟩

theorem do_pan {s : List (List Int)} {m : Int} {r : Nat} {x : List Int} {w0 : World} (a : Act) (v : Value) (w : World) (h : DPN s m r x w0 a v w) : PnD Tryz.prog Tryz.f13 (fun v w' => ∃ (O : Option Addr) (oc : Nat), v = .tuple #[.slice O (dP (s) m r x).length oc, .int .i64 (dE (s) m r x)] ∧ St NoB w0 w' [.vec O oc 66 21 (dP (s) m r x).length (arows (dP (s) m r x))]) a v w := by
  obtain ⟨gd, ge, cd, ce, h1, h2, h3, h4, rfl, hS⟩ := h
  unfold PnD
  rw [h1]
  refine leaves_cons (by simp) (inv_dd gd ge w) ((do1_pan gd ge w cd ce _ (hS.owns (by repeat (first | exact Spl.nil | (apply Spl.cons (by repeat (exact Del.head))))))).mono ?_)
  rintro e u' w' ⟨rfl, v, rfl, _, hC⟩
  have hS2 := hS.frame (R := []) (by repeat (first | exact Spl.nil | (apply Spl.cons (by repeat (exact Del.head))))) hC (by intro r hr g hg; simp only [List.mem_cons, List.not_mem_nil, or_false] at hr; rcases hr with rfl | rfl <;> simp [Res.reads] at hg)
  simp only [List.cons_append, List.nil_append] at hS2
  have q1 := obj_loads_one (P := Tryz.prog) U22 rfl hS2 (g := gd) (cs := #[.slice none 0 0]) (t := 22) (f := (0, 0)) (v := .slice none 0 0) (by repeat (exact Has.head)) rfl
  have q2 := obj_loads_one (P := Tryz.prog) U39 rfl hS2 (g := ge) (cs := #[.int .i64 (dE s m r x)]) (t := 39) (f := (0, 0)) (v := .int .i64 (dE s m r x)) (by repeat (first | exact Has.head | apply Has.tail)) rfl
  refine ⟨.tuple #[.slice none 0 0, .int .i64 (dE s m r x)], ?_, _, rfl, none, 0, ?_, ?_⟩
  · have h2' : (a.tmps[8]?.getD undef) = pdd gd := by rw [h2]; rfl
    have h3' : (a.tmps[9]?.getD undef) = pdd ge := by rw [h3]; rfl
    simp [results, show Tryz.f13.results = #[.cell 8 22, .cell 9 39] from rfl, h2', h3', asAddr, q1, q2]
  · rw [dP_no h4]; rfl
  · rw [dP_no h4]
    exact (hS2.nil_vec 66 21).sel (by repeat (first | exact Sel.nil | (refine Sel.cons (by repeat (exact Del.head)) ?_)))
end Go.Proofs.YtpekghaodmeemaaGreat
