/- Rules, plain words and walks that the claim leans on: Pkey, Ck, Cl, Patom, Cz, Da, Dc, Dd, Cm, Vy, Vr, Vt. -/
import Derived.Test.YtpekghaodmeemaaGreatZShopReads1
set_option linter.unusedSimpArgs false
set_option linter.unusedVariables false
namespace Go.Proofs.YtpekghaodmeemaaGreat
abbrev keyKs : List IntKind := [.u8, .u16, .u8, .u8, .u8, .u8, .u8, .u8, .u8, .u8, .u8, .u32]
abbrev KA (x : List Int) : Array Value := (zi keyKs x).toArray
def kn (x : List Int) (i : Nat) : Nat := (x.getD i 0).toNat
def kitem (x : List Int) : List Int := (x.drop 2).take 8
structure KeyOk (x : List Int) : Prop where
  len : x.length = 12
  e0 : x.getD 0 0 = (kn x 0 : Int)
  b0 : kn x 0 < 256
  e1 : x.getD 1 0 = (kn x 1 : Int)
  b1 : kn x 1 < 65536
  item : Byt (kitem x)
  e10 : x.getD 10 0 = (kn x 10 : Int)
  b10 : kn x 10 < 256
  e11 : x.getD 11 0 = (kn x 11 : Int)
  b11 : kn x 11 < 4294967296
theorem kitem_len {x : List Int} (h : x.length = 12) : (kitem x).length = 8 := by simp [kitem, h]
theorem key_cut {x : List Int} (h : x.length = 12) : x = [x.getD 0 0, x.getD 1 0] ++ kitem x ++ [x.getD 10 0, x.getD 11 0] := by
  obtain ⟨a, b, c, d, e, f, g, i, j, k, l, m, rfl⟩ : ∃ a b c d e f g i j k l m, x = [a, b, c, d, e, f, g, i, j, k, l, m] := by
    match x, h with
    | [a, b, c, d, e, f, g, i, j, k, l, m], _ => exact ⟨a, b, c, d, e, f, g, i, j, k, l, m, rfl⟩
  rfl
theorem key_item {x : List Int} (h : x.length = 12) : (((KA x).toList.drop 2).take 8).toArray = ic .u8 (kitem x) := by
  obtain ⟨a, b, c, d, e, f, g, i, j, k, l, m, rfl⟩ : ∃ a b c d e f g i j k l m, x = [a, b, c, d, e, f, g, i, j, k, l, m] := by
    match x, h with
    | [a, b, c, d, e, f, g, i, j, k, l, m], _ => exact ⟨a, b, c, d, e, f, g, i, j, k, l, m, rfl⟩
  rfl
def mkKey (s c : Nat) (l : List Int) (r q : Nat) : List Int := [(s : Int), (c : Int)] ++ l ++ [(r : Int), (q : Int)]
theorem mkKey_len {s c r q : Nat} {l : List Int} (h : l.length = 8) : (mkKey s c l r q).length = 12 := by simp [mkKey, h]
theorem mkKey_ok {s c r q : Nat} {l : List Int} (h : l.length = 8) (hl : Byt l) (hs : s < 256) (hc : c < 65536) (hr : r < 256) (hq : q < 4294967296) : KeyOk (mkKey s c l r q) := by
  match l, h with
  | [_, _, _, _, _, _, _, _], _ => exact ⟨rfl, rfl, hs, rfl, hc, hl, rfl, hr, rfl, hq⟩
section
variable {s c r q : Nat} {l : List Int}
theorem mk_0 : kn (mkKey s c l r q) 0 = s := rfl
theorem mk_1 : kn (mkKey s c l r q) 1 = c := rfl
theorem mk_item (h : l.length = 8) : kitem (mkKey s c l r q) = l := by
  match l, h with
  | [_, _, _, _, _, _, _, _], _ => rfl
theorem mk_10 (h : l.length = 8) : kn (mkKey s c l r q) 10 = r := by
  match l, h with
  | [_, _, _, _, _, _, _, _], _ => rfl
theorem mk_11 (h : l.length = 8) : kn (mkKey s c l r q) 11 = q := by
  match l, h with
  | [_, _, _, _, _, _, _, _], _ => rfl
end
theorem key_mk {x : List Int} (h : KeyOk x) : x = mkKey (kn x 0) (kn x 1) (kitem x) (kn x 10) (kn x 11) := by
  have := key_cut h.len
  rw [h.e0, h.e1, h.e10, h.e11] at this
  exact this
def dotN (x : List Int) : Nat := 4294967296 * kn x 10 + kn x 11
def headN (x : List Int) : Nat := 65536 * kn x 0 + kn x 1
theorem dotN_lt {x : List Int} (h : KeyOk x) : dotN x < 1099511627776 := by have := h.b10; have := h.b11; unfold dotN; omega
def wordsL (x : List Int) : List Int := [(headN x : Int), (numN (kitem x) : Int), (dotN x : Int)]
def bareK (x : List Int) : List Int := mkKey (kn x 0) (kn x 1) nm0 0 0
def keyR (x : List Int) : Bool :=
  if kn x 0 = 4 then decide (x = bareK x) else
  if kn x 0 = 1 then decide (kn x 11 ≠ 0) && nright (kitem x) && decide (kn x 10 < 16) else
  if kn x 0 = 2 ∨ kn x 0 = 3 then decide (kn x 11 = 0) && nright (kitem x) && decide (kn x 10 < 16) else false
def lexLt : List Int → List Int → Bool
  | a :: x, b :: y => if a = b then lexLt x y else decide (a < b)
  | _, _ => false
theorem lexLt_at : ∀ {a b : List Int} {k : Nat}, k < a.length → k < b.length → (∀ j, j < k → a.getD j 0 = b.getD j 0) → a.getD k 0 ≠ b.getD k 0 → lexLt a b = decide (a.getD k 0 < b.getD k 0)
  | [], _, k, h, _, _, _ => by simp at h
  | _ :: _, [], k, _, h, _, _ => by simp at h
  | a :: x, b :: y, 0, _, _, _, hne => by simp at hne; simp [lexLt, hne]
  | a :: x, b :: y, k + 1, h1, h2, he, hne => by
    have e0 : a = b := by simpa using he 0 (by omega)
    rw [lexLt, if_pos e0]
    have := lexLt_at (a := x) (b := y) (k := k) (by simpa using h1) (by simpa using h2) (fun j hj => by simpa using he (j + 1) (by omega)) (by simpa using hne)
    simpa using this
theorem lexLt_same : ∀ (a : List Int), lexLt a a = false
  | [] => rfl
  | _ :: a => by rw [lexLt, if_pos rfl, lexLt_same a]
theorem w3_ext {a b : List Int} (ha : a.length = 3) (hb : b.length = 3) (h : ∀ j, j < 3 → a.getD j 0 = b.getD j 0) : a = b := by
  match a, b, ha, hb with
  | [_, _, _], [_, _, _], _, _ =>
    have h0 := h 0 (by omega); have h1 := h 1 (by omega); have h2 := h 2 (by omega)
    simp at h0 h1 h2; rw [h0, h1, h2]
theorem lexLt_eq {a b : List Int} (h : a.length = b.length) (he : ∀ j, j < a.length → a.getD j 0 = b.getD j 0) : lexLt a b = false := by
  have : a = b := by
    refine List.ext_getElem h fun i h1 h2 => ?_
    have := he i h1
    simpa [List.getD_eq_getElem?_getD, List.getElem?_eq_getElem h1, List.getElem?_eq_getElem h2] using this
  rw [this, lexLt_same]
def key0 : List Int := mkKey 0 0 nm0 0 0
def keyLt (x y : List Int) : Bool := lexLt (wordsL x) (wordsL y)
end Go.Proofs.YtpekghaodmeemaaGreat
set_option linter.unusedSimpArgs false
set_option linter.unusedVariables false
set_option maxHeartbeats 800000
set_option maxRecDepth 100000
namespace Go.Proofs.YtpekghaodmeemaaGreat
open Go.RowKit
theorem c_keyDot (x : List Int) (hk : KeyOk x)  (w0 : World) :
    CallR Tryz.prog 147 #[.agg (KA x)] w0 fun v w' => v = .int .u64 (dotN x : Int) ∧ Ext w0 w' := by
 have hS : St NoB w0 w0 [] := St.start w0
 refine c_enter (l := [.agg (KA x), undef, undef, undef, undef, undef, undef, undef, undef, undef, undef]) Tryz.func147 rfl (by simp only [Tryz.ntmps147, List.size_toArray, List.length_cons, List.length_nil, Nat.reduceAdd, Nat.reduceSub, Array.replicate_succ, Array.replicate_zero, List.push_toArray, List.append_toArray, List.nil_append, List.cons_append]) ?_
 refine x_seq fun K1 hK1 => x_region ?_
 refine m_box hS (fun w1 g1 hS => ?_)
 try simp only [nY, aY] at hS ⊢
 refine s_go s_assign ?_
 try simp only [nY]
 refine x_nil (hK1 _ _ ?_)
 refine x_seq fun K2 hK2 => x_region ?_
 have hkl := hk.len
 have hb10 := hk.b10
 have hb11 := hk.b11
 refine s_go (m_fieldAddr U61 (hi := ti5)) ?_
 try simp only [nY, fY, gY]
 refine s_go (m_load_obj U5 (hS := hS) (hv := by exact zi_get rfl (by omega))) ?_
 try simp only [nY, gY]
 rw [hk.e10]
 refine s_go (s_conv U5 U62 (hc := by exact wr_u64 (by omega) (by omega))) ?_
 try simp only [nY]
 refine s_go (s_shl (hc := shl_lt64 (r := kn x 10) (n := 32) rfl (by omega))) ?_
 try simp only [nY]
 refine s_go (m_fieldAddr U61 (hi := ti51)) ?_
 try simp only [nY, fY, gY]
 refine s_go (m_load_obj U51 (hS := hS) (hv := by exact zi_get rfl (by omega))) ?_
 try simp only [nY, gY]
 rw [hk.e11]
 refine s_go (s_conv U51 U62 (hc := by exact wr_u64 (by omega) (by omega))) ?_
 try simp only [nY]
 refine s_go (s_bits (by simp) (hc := or_hi64 (n := 32) hb11 (by omega))) ?_
 try simp only [nY]
 refine s_go s_assign ?_
 try simp only [nY]
 refine x_nil (hK2 _ _ ?_)
 refine x_ret (r_tmp rfl ?_)
 exact ⟨rfl, hS.ext_of⟩
end Go.Proofs.YtpekghaodmeemaaGreat
set_option linter.unusedSimpArgs false
set_option linter.unusedVariables false
set_option maxHeartbeats 800000
set_option maxRecDepth 100000
namespace Go.Proofs.YtpekghaodmeemaaGreat
open Go.RowKit
theorem c_keyWords (x : List Int) (hk : KeyOk x)  (w0 : World) :
    CallR Tryz.prog 140 #[.agg (KA x)] w0 fun v w' => v = .agg (ic .u64 (wordsL x)) ∧ Ext w0 w' := by
 have hS : St NoB w0 w0 [] := St.start w0
 refine c_enter (l := [.agg (KA x), undef, undef, undef, undef, undef, undef, undef, undef, undef, undef, undef, undef, undef, undef, undef, undef]) Tryz.func140 rfl (by simp only [Tryz.ntmps140, List.size_toArray, List.length_cons, List.length_nil, Nat.reduceAdd, Nat.reduceSub, Array.replicate_succ, Array.replicate_zero, List.push_toArray, List.append_toArray, List.nil_append, List.cons_append]) ?_
 refine x_seq fun K1 hK1 => x_region ?_
 have hkl := hk.len
 have hb0 := hk.b0
 have hb1 := hk.b1
 have hb10 := hk.b10
 have hb11 := hk.b11
 have hil := kitem_len hk.len
 have hib := hk.item
 refine m_box hS (fun w1 g1 hS => ?_)
 try simp only [nY, aY] at hS ⊢
 refine m_alloc ti100 hS (fun w2 g2 hS => ?_)
 try simp only [nY, aY] at hS ⊢
 have hS : St NoB w0 w2 [.obj g2 (.cells (ic .u64 [0, 0, 0]) 100 (0, 0)), .obj g1 (.cells (KA x) 61 (0, 0))] := hS
 refine x_nil (hK1 _ _ ?_)
 refine x_seq fun K2 hK2 => ?_
 refine x_mixed_f [14] 0 [3, 4, 5, 6, 7, 8, 9, 10, 11, 12, 13, 14, 15, 16] (fun f w => St NoB w0 w [.obj g2 (.cells (ic .u64 (wordsL x)) 100 (0, 0)), .obj g1 (.cells (KA x) 61 (0, 0))]) (by kernel_rfl) (by kernel_rfl) (by kernel_rfl) (by decide) hS (fun w3 hS => ?mixpre101) ?mixrest101
 case mixpre101 =>
  refine p_nil ?_
  simp only [List.length_cons, List.length_nil, Nat.reduceAdd, Nat.reduceSub]
  refine any_go (i := 0) (by rfl) (by decide +kernel) (by decide +kernel) (by unfold noLate; decide) (go_yields w_none (fun w hS => m_fieldAddr U61 (hi := ti5))) ?_
  try simp only [nY, fY, gY]
  refine any_go (i := 1) (by rfl) (by decide +kernel) (by decide +kernel) (by unfold noLate; decide) (go_yields w_none (fun w hS => m_load_obj U5 (hS := hS) (hv := by exact zi_get rfl (by omega)))) ?_
  try simp only [nY, gY]
  rw [hk.e0]
  refine any_go (i := 2) (by rfl) (by decide +kernel) (by decide +kernel) (by unfold noLate; decide) (go_yields w_none (fun w hS => s_conv U5 U62 (hc := by exact wr_u64 (by omega) (by omega)))) ?_
  try simp only [nY]
  refine any_go (i := 3) (by rfl) (by decide +kernel) (by decide +kernel) (by unfold noLate; decide) (go_yields w_none (fun w hS => s_shl (hc := shl_lt64 (r := kn x 0) (n := 16) rfl (by omega)))) ?_
  try simp only [nY]
  refine any_go (i := 4) (by rfl) (by decide +kernel) (by decide +kernel) (by unfold noLate; decide) (go_yields w_none (fun w hS => m_fieldAddr U61 (hi := ti23))) ?_
  try simp only [nY, fY, gY]
  refine any_go (i := 5) (by rfl) (by decide +kernel) (by decide +kernel) (by unfold noLate; decide) (go_yields w_none (fun w hS => m_load_obj U23 (hS := hS) (hv := by exact zi_get rfl (by omega)))) ?_
  try simp only [nY, gY]
  rw [hk.e1]
  refine any_go (i := 6) (by rfl) (by decide +kernel) (by decide +kernel) (by unfold noLate; decide) (go_yields w_none (fun w hS => s_conv U23 U62 (hc := by exact wr_u64 (by omega) (by omega)))) ?_
  try simp only [nY]
  refine any_go (i := 7) (by rfl) (by decide +kernel) (by decide +kernel) (by unfold noLate; decide) (go_yields w_none (fun w hS => s_bits (by simp) (hc := or_hi64 (n := 16) (show kn x 1 < 2 ^ 16 from hb1) (by omega)))) ?_
  try simp only [nY]
  refine any_go (i := 8) (by rfl) (by decide +kernel) (by decide +kernel) (by unfold noLate; decide) (go_yields w_none (fun w hS => m_fieldAddr U61 (hi := ti25))) ?_
  try simp only [nY, fY, gY]
  refine any_go (i := 9) (by rfl) (by decide +kernel) (by decide +kernel) (by unfold noLate; decide) (go_yields w_none (fun w hS => m_loada_obj U25 (hi := ti25) (hS := hS) (hfit := by (rw [zi_size (by omega)]; decide)))) ?_
  try simp only [nY, gY]
  rw [key_item hkl]
  apply any_go (i := 10) (by rfl) (by decide +kernel) (by decide +kernel) (by unfold noLate; decide) (call_yields w_none en129 ?H1) ?K1
  case H1 =>
    intro w hS
    try simp only [nY, mY]
    refine CallR.mono (c_nameNumber _ hil hib _) ?_
    rintro _ w1 ⟨rfl, hE⟩; exact ⟨rfl, hE⟩
  try simp only [nY]
  refine any_go (i := 11) (by rfl) (by decide +kernel) (by decide +kernel) (by unfold noLate; decide) (go_yields w_none (fun w hS => m_load_row U61 (hi := ti61) (hS := hS) (hfit := by (rw [zi_size (by omega)]; rfl)))) ?_
  try simp only [nY, gY]
  apply any_go (i := 12) (by rfl) (by decide +kernel) (by decide +kernel) (by unfold noLate; decide) (call_yields w_none en147 ?H2) ?K2
  case H2 =>
    intro w hS
    try simp only [nY, mY]
    refine CallR.mono (c_keyDot x hk _) ?_
    rintro _ w1 ⟨rfl, hE⟩; exact ⟨rfl, hE⟩
  try simp only [nY]
  refine any_go (i := 13) (by rfl) (by decide +kernel) (by decide +kernel) (by unfold noLate; decide) (go_yields w_none (fun w hS => s_build_arr (cells := #[_, _, _]) U100 ti100 ti62 (hc := by simp only [List.map_toArray, List.map_cons, List.map_nil, nY, List.toList_toArray]; (repeat (refine fill_cons rfl rfl (Nat.le_of_ble_eq_true rfl) ?_)); rfl))) ?_
  try simp only [nY]
  rw [show (#[.int .u64 ((2 ^ 16 * kn x 0 + kn x 1 : Nat) : Int), .int .u64 (numN (kitem x) : Int), .int .u64 (dotN x : Int)] : Array Value) = ic .u64 (wordsL x) from rfl]
  refine any_step [14] (by kernel_rfl) (by decide) (fun w4 hE => ⟨fun _ => (hS.ext hE).sel (by repeat (first | exact Sel.nil | (refine Sel.cons (by repeat (exact Del.head)) ?_))), ?_⟩)
  replace hS := hS.ext hE
  intro i hi
  simp only [List.mem_cons, List.not_mem_nil, or_false] at hi
  subst hi
  refine any_op (by rfl) ?_
  refine m_store_obj ti100 (hS := hS) (hc := by (exact splice_whole (by rfl))) (hv := by rfl) (hfit := by (simp only [ic_size, List.length_map, List.size_toArray]; decide)) (h1 := by exact ic_one _ _) (h := fun w5 hS => ?_)
  try simp only [nY, aY] at hS ⊢
  refine x_nil ?_
  refine any_nil (by kernel_rfl) (fun w6 hE => ?_)
  replace hS := hS.ext hE
  refine ⟨fun hl => absurd (hl 14 (by decide)) (by decide +kernel), ?_⟩
  refine mix_leaf (by simp only [clob, List.foldl, nZ]) ?_
  try simp only [n1, n2]
  exact hS.sel (by repeat (first | exact Sel.nil | (refine Sel.cons (by repeat (exact Del.head)) ?_)))
 intro fm1 w7 hM
 replace hS := hM
 simp only [clob, List.foldl, n3, n4]
 refine hK2 _ _ ?_
 refine x_ret ?_
 refine r_cell_agg rfl U100 ti100 (hS := hS) (hfit := by rfl) (hR := ?_)
 exact ⟨rfl, hS.ext_of⟩
theorem c_ref08Words (x : List Int) (hk : KeyOk x)  (w0 : World) :
    CallR Tryz.prog 66 #[.agg (KA x)] w0 fun v w' => v = .agg (ic .u64 (wordsL x)) ∧ Ext w0 w' := by
 have hS : St NoB w0 w0 [] := St.start w0
 refine c_enter (l := [.agg (KA x), undef, undef, undef, undef, undef, undef, undef, undef, undef, undef, undef, undef, undef, undef, undef, undef, undef, undef, undef, undef, undef, undef]) Tryz.func66 rfl (by simp only [Tryz.ntmps66, List.size_toArray, List.length_cons, List.length_nil, Nat.reduceAdd, Nat.reduceSub, Array.replicate_succ, Array.replicate_zero, List.push_toArray, List.append_toArray, List.nil_append, List.cons_append]) ?_
 refine x_seq fun K1 hK1 => x_region ?_
 have hkl := hk.len
 have hb0 := hk.b0
 have hb1 := hk.b1
 have hb10 := hk.b10
 have hb11 := hk.b11
 have hil := kitem_len hk.len
 have hib := hk.item
 refine m_box hS (fun w1 g1 hS => ?_)
 try simp only [nY, aY] at hS ⊢
 refine m_alloc ti100 hS (fun w2 g2 hS => ?_)
 try simp only [nY, aY] at hS ⊢
 have hS : St NoB w0 w2 [.obj g2 (.cells (ic .u64 [0, 0, 0]) 100 (0, 0)), .obj g1 (.cells (KA x) 61 (0, 0))] := hS
 refine x_nil (hK1 _ _ ?_)
 refine x_seq fun K2 hK2 => ?_
 refine x_mixed_f [20] 0 [3, 4, 5, 6, 7, 8, 9, 10, 11, 12, 13, 14, 15, 16, 17, 18, 19, 20, 21, 22] (fun f w => St NoB w0 w [.obj g2 (.cells (ic .u64 (wordsL x)) 100 (0, 0)), .obj g1 (.cells (KA x) 61 (0, 0))]) (by kernel_rfl) (by kernel_rfl) (by kernel_rfl) (by decide) hS (fun w3 hS => ?mixpre101) ?mixrest101
 case mixpre101 =>
  refine p_nil ?_
  simp only [List.length_cons, List.length_nil, Nat.reduceAdd, Nat.reduceSub]
  refine any_go (i := 0) (by rfl) (by decide +kernel) (by decide +kernel) (by unfold noLate; decide) (go_yields w_none (fun w hS => m_fieldAddr U61 (hi := ti5))) ?_
  try simp only [nY, fY, gY]
  refine any_go (i := 1) (by rfl) (by decide +kernel) (by decide +kernel) (by unfold noLate; decide) (go_yields w_none (fun w hS => m_load_obj U5 (hS := hS) (hv := by exact zi_get rfl (by omega)))) ?_
  try simp only [nY, gY]
  rw [hk.e0]
  refine any_go (i := 2) (by rfl) (by decide +kernel) (by decide +kernel) (by unfold noLate; decide) (go_yields w_none (fun w hS => s_conv U5 U62 (hc := by exact wr_u64 (by omega) (by omega)))) ?_
  try simp only [nY]
  refine any_go (i := 3) (by rfl) (by decide +kernel) (by decide +kernel) (by unfold noLate; decide) (go_yields w_none (fun w hS => s_mul (hc := by exact wr_u64 (by omega) (by omega)))) ?_
  try simp only [nY]
  refine any_go (i := 4) (by rfl) (by decide +kernel) (by decide +kernel) (by unfold noLate; decide) (go_yields w_none (fun w hS => m_fieldAddr U61 (hi := ti23))) ?_
  try simp only [nY, fY, gY]
  refine any_go (i := 5) (by rfl) (by decide +kernel) (by decide +kernel) (by unfold noLate; decide) (go_yields w_none (fun w hS => m_load_obj U23 (hS := hS) (hv := by exact zi_get rfl (by omega)))) ?_
  try simp only [nY, gY]
  rw [hk.e1]
  refine any_go (i := 6) (by rfl) (by decide +kernel) (by decide +kernel) (by unfold noLate; decide) (go_yields w_none (fun w hS => s_conv U23 U62 (hc := by exact wr_u64 (by omega) (by omega)))) ?_
  try simp only [nY]
  refine any_go (i := 7) (by rfl) (by decide +kernel) (by decide +kernel) (by unfold noLate; decide) (go_yields w_none (fun w hS => s_add (hc := by exact wr_u64 (by omega) (by omega)))) ?_
  try simp only [nY]
  rw [show (kn x 0 : Int) * 65536 + (kn x 1 : Int) = (headN x : Int) by unfold headN; omega]
  refine any_go (i := 8) (by rfl) (by decide +kernel) (by decide +kernel) (by unfold noLate; decide) (go_yields w_none (fun w hS => m_fieldAddr U61 (hi := ti25))) ?_
  try simp only [nY, fY, gY]
  refine any_go (i := 9) (by rfl) (by decide +kernel) (by decide +kernel) (by unfold noLate; decide) (go_yields w_none (fun w hS => m_loada_obj U25 (hi := ti25) (hS := hS) (hfit := by (rw [zi_size (by omega)]; decide)))) ?_
  try simp only [nY, gY]
  rw [key_item hkl]
  apply any_go (i := 10) (by rfl) (by decide +kernel) (by decide +kernel) (by unfold noLate; decide) (call_yields w_none en98 ?H1) ?K1
  case H1 =>
    intro w hS
    try simp only [nY, mY]
    refine CallR.mono (c_ref06Number _ hil hib _) ?_
    rintro _ w1 ⟨rfl, hE⟩; exact ⟨rfl, hE⟩
  try simp only [nY]
  refine any_go (i := 11) (by rfl) (by decide +kernel) (by decide +kernel) (by unfold noLate; decide) (go_yields w_none (fun w hS => m_fieldAddr U61 (hi := ti5))) ?_
  try simp only [nY, fY, gY]
  refine any_go (i := 12) (by rfl) (by decide +kernel) (by decide +kernel) (by unfold noLate; decide) (go_yields w_none (fun w hS => m_load_obj U5 (hS := hS) (hv := by exact zi_get rfl (by omega)))) ?_
  try simp only [nY, gY]
  rw [hk.e10]
  refine any_go (i := 13) (by rfl) (by decide +kernel) (by decide +kernel) (by unfold noLate; decide) (go_yields w_none (fun w hS => s_conv U5 U62 (hc := by exact wr_u64 (by omega) (by omega)))) ?_
  try simp only [nY]
  refine any_go (i := 14) (by rfl) (by decide +kernel) (by decide +kernel) (by unfold noLate; decide) (go_yields w_none (fun w hS => s_mul (hc := by exact wr_u64 (by omega) (by omega)))) ?_
  try simp only [nY]
  refine any_go (i := 15) (by rfl) (by decide +kernel) (by decide +kernel) (by unfold noLate; decide) (go_yields w_none (fun w hS => m_fieldAddr U61 (hi := ti51))) ?_
  try simp only [nY, fY, gY]
  refine any_go (i := 16) (by rfl) (by decide +kernel) (by decide +kernel) (by unfold noLate; decide) (go_yields w_none (fun w hS => m_load_obj U51 (hS := hS) (hv := by exact zi_get rfl (by omega)))) ?_
  try simp only [nY, gY]
  rw [hk.e11]
  refine any_go (i := 17) (by rfl) (by decide +kernel) (by decide +kernel) (by unfold noLate; decide) (go_yields w_none (fun w hS => s_conv U51 U62 (hc := by exact wr_u64 (by omega) (by omega)))) ?_
  try simp only [nY]
  refine any_go (i := 18) (by rfl) (by decide +kernel) (by decide +kernel) (by unfold noLate; decide) (go_yields w_none (fun w hS => s_add (hc := by exact wr_u64 (by omega) (by omega)))) ?_
  try simp only [nY]
  rw [show (kn x 10 : Int) * 4294967296 + (kn x 11 : Int) = (dotN x : Int) by unfold dotN; omega]
  refine any_go (i := 19) (by rfl) (by decide +kernel) (by decide +kernel) (by unfold noLate; decide) (go_yields w_none (fun w hS => s_build_arr (cells := #[_, _, _]) U100 ti100 ti62 (hc := by simp only [List.map_toArray, List.map_cons, List.map_nil, nY, List.toList_toArray]; (repeat (refine fill_cons rfl rfl (Nat.le_of_ble_eq_true rfl) ?_)); rfl))) ?_
  try simp only [nY]
  rw [show (#[.int .u64 (headN x : Int), .int .u64 (numN (kitem x) : Int), .int .u64 (dotN x : Int)] : Array Value) = ic .u64 (wordsL x) from rfl]
  refine any_step [20] (by kernel_rfl) (by decide) (fun w4 hE => ⟨fun _ => (hS.ext hE).sel (by repeat (first | exact Sel.nil | (refine Sel.cons (by repeat (exact Del.head)) ?_))), ?_⟩)
  replace hS := hS.ext hE
  intro i hi
  simp only [List.mem_cons, List.not_mem_nil, or_false] at hi
  subst hi
  refine any_op (by rfl) ?_
  refine m_store_obj ti100 (hS := hS) (hc := by (exact splice_whole (by rfl))) (hv := by rfl) (hfit := by (simp only [ic_size, List.length_map, List.size_toArray]; decide)) (h1 := by exact ic_one _ _) (h := fun w5 hS => ?_)
  try simp only [nY, aY] at hS ⊢
  refine x_nil ?_
  refine any_nil (by kernel_rfl) (fun w6 hE => ?_)
  replace hS := hS.ext hE
  refine ⟨fun hl => absurd (hl 20 (by decide)) (by decide +kernel), ?_⟩
  refine mix_leaf (by simp only [clob, List.foldl, nZ]) ?_
  try simp only [n1, n2]
  exact hS.sel (by repeat (first | exact Sel.nil | (refine Sel.cons (by repeat (exact Del.head)) ?_)))
 intro fm1 w7 hM
 replace hS := hM
 simp only [clob, List.foldl, n3, n4]
 refine hK2 _ _ ?_
 refine x_ret ?_
 refine r_cell_agg rfl U100 ti100 (hS := hS) (hfit := by rfl) (hR := ?_)
 exact ⟨rfl, hS.ext_of⟩

theorem rgt_a {p q : Prop} [Decidable p] [Decidable q] {b : Bool} (h : ¬ p) : false = (decide p && b && decide q) := by simp [h]
theorem rgt_b {p q : Prop} [Decidable p] [Decidable q] {b : Bool} (h : b = false) : false = (decide p && b && decide q) := by simp [h]
theorem rgt_c {p q q' : Prop} [Decidable p] [Decidable q] [Decidable q'] {b : Bool} (h : p) (hb : b = true) (hq : q' ↔ q) : decide q' = (decide p && b && decide q) := by simp [h, hb, hq]
theorem rgt_d {p p' q : Prop} [Decidable p] [Decidable p'] [Decidable q] {b : Bool} (h : q) (hb : b = true) (hq : p' ↔ p) : decide p' = (decide p && b && decide q) := by simp [h, hb, hq]
theorem rgt_e {p q : Prop} [Decidable p] [Decidable q] {b : Bool} (h : ¬ q) : false = (decide p && b && decide q) := by simp [h]
theorem c_keyRight (x : List Int) (hk : KeyOk x)  (w0 : World) :
    CallR Tryz.prog 104 #[.agg (KA x)] w0 fun v w' => v = .bool (keyR x) ∧ Ext w0 w' := by
 have hS : St NoB w0 w0 [] := St.start w0
 refine c_enter (l := [.agg (KA x), undef, undef, undef, undef, undef, undef, undef, undef, undef, undef, undef, undef, undef, undef, undef, undef, undef, undef, undef, undef, undef, undef, undef, undef, undef, undef, undef, undef, undef, undef, undef, undef, undef, undef, undef, undef, undef, undef, undef, undef, undef, undef, undef, undef, undef, undef]) Tryz.func104 rfl (by simp only [Tryz.ntmps104, List.size_toArray, List.length_cons, List.length_nil, Nat.reduceAdd, Nat.reduceSub, Array.replicate_succ, Array.replicate_zero, List.push_toArray, List.append_toArray, List.nil_append, List.cons_append]) ?_
 refine x_seq fun K1 hK1 => x_region ?_
 have hkl := hk.len
 have hb0 := hk.b0
 have hb1 := hk.b1
 have hb10 := hk.b10
 have hb11 := hk.b11
 have hil := kitem_len hk.len
 have hib := hk.item
 refine m_box hS (fun w1 g1 hS => ?_)
 try simp only [nY, aY] at hS ⊢
 refine s_go s_assign ?_
 try simp only [nY]
 refine x_nil (hK1 _ _ ?_)
 refine x_seq fun K2 hK2 => x_region ?_
 refine s_go (m_fieldAddr U61 (hi := ti5)) ?_
 try simp only [nY, fY, gY]
 refine s_go (m_load_obj U5 (hS := hS) (hv := by exact zi_get rfl (by omega))) ?_
 try simp only [nY, gY]
 rw [hk.e0]
 refine s_go (m_fieldAddr U61 (hi := ti23)) ?_
 try simp only [nY, fY, gY]
 refine s_go (m_load_obj U23 (hS := hS) (hv := by exact zi_get rfl (by omega))) ?_
 try simp only [nY, gY]
 rw [hk.e1]
 refine s_go (s_build_struct (cells := #[_, _, .int .u8 0, .int .u8 0, .int .u8 0, .int .u8 0, .int .u8 0, .int .u8 0, .int .u8 0, .int .u8 0, .int .u8 0, .int .u32 0]) U61 ti61 bp61 (hc := by simp only [List.map_toArray, List.map_cons, List.map_nil, nY, List.toList_toArray]; (repeat (refine fill_cons rfl rfl (Nat.le_of_ble_eq_true rfl) ?_)); rfl)) ?_
 try simp only [nY]
 rw [show (#[.int .u8 (kn x 0 : Int), .int .u16 (kn x 1 : Int), .int .u8 0, .int .u8 0, .int .u8 0, .int .u8 0, .int .u8 0, .int .u8 0, .int .u8 0, .int .u8 0, .int .u8 0, .int .u32 0] : Array Value) = KA (bareK x) from rfl]
 have hbl : (bareK x).length = 12 := rfl
 refine m_alloc ti61 hS (fun w2 g2 hS => ?_)
 try simp only [nY, aY] at hS ⊢
 refine m_store_obj ti61 (hS := hS) (hc := by (exact splice_whole (by rfl))) (hv := by rfl) (hfit := by (simp only [ic_size, List.length_map, List.size_toArray]; decide)) (h1 := by exact zi_one _ _) (h := fun w3 hS => ?_)
 try simp only [nY, aY] at hS ⊢
 have hS : St NoB w0 w3 [.obj g2 (.cells (KA (bareK x)) 61 (0, 0)), .obj g1 (.cells (KA x) 61 (0, 0))] := hS
 refine x_nil (hK2 _ _ ?_)
 refine x_seq fun K3 hK3 => ?_
 refine x_seq fun K4 hK4 => x_region ?_
 refine s_go (m_fieldAddr U61 (hi := ti5)) ?_
 try simp only [nY, fY, gY]
 refine s_go (m_load_obj U5 (hS := hS) (hv := by exact zi_get rfl (by omega))) ?_
 try simp only [nY, gY]
 rw [hk.e0]
 refine x_nil (hK4 _ _ ?_)
 refine x_block ?_
 refine x_seq fun K5 hK5 => x_region ?_
 refine s_go s_eql ?_
 try simp only [nY]
 refine s_go s_assign ?_
 try simp only [nY]
 refine x_nil (hK5 _ _ ?_)
 refine x_cond (ht := fun hc1 => ?_) (hf := fun hc1 => ?_)
 ·
  try simp only [dY] at hc1
  have hR : keyR x = decide (x = bareK x) := by rw [keyR, if_pos (by omega)]
  refine x_seq fun K6 hK6 => x_region ?_
  refine s_go (m_load_row U61 (hi := ti61) (hS := hS) (hfit := by (rw [zi_size (by omega)]; rfl))) ?_
  try simp only [nY, gY]
  refine s_go (m_load_row U61 (hi := ti61) (hS := hS) (hfit := by (rw [zi_size (by omega)]; rfl))) ?_
  try simp only [nY, gY]
  refine s_go (s_eql_agg eqv61 (hg := eg61) (hX := rfl) (hY := rfl) (h1 := by assumption) (h2 := by assumption)) ?_
  try simp only [nY]
  refine s_go s_assign ?_
  try simp only [nY]
  refine x_nil (hK6 _ _ ?_)
  refine x_ret (r_tmp rfl ?_)
  exact ⟨by rw [hR]; rfl, hS.ext_of⟩
 try simp only [dY] at hc1
 refine x_seq fun K7 hK7 => x_region ?_
 refine s_go s_eql ?_
 try simp only [nY]
 refine s_go s_assign ?_
 try simp only [nY]
 refine x_nil (hK7 _ _ ?_)
 refine x_cond (ht := fun hc2 => ?_) (hf := fun hc2 => ?_)
 ·
  try simp only [dY] at hc2
  have hR : keyR x = (decide (kn x 11 ≠ 0) && nright (kitem x) && decide (kn x 10 < 16)) := by rw [keyR, if_neg (by omega), if_pos (by omega)]
  refine x_seq fun K8 hK8 => x_region ?_
  refine s_go (m_fieldAddr U61 (hi := ti51)) ?_
  try simp only [nY, fY, gY]
  refine s_go (m_load_obj U51 (hS := hS) (hv := by exact zi_get rfl (by omega))) ?_
  try simp only [nY, gY]
  rw [hk.e11]
  refine s_go s_neq ?_
  try simp only [nY]
  refine s_go s_move ?_
  try simp only [nY]
  refine s_part 21 rfl (fun hp1 => ?_) (fun hp1 => ?_)
  ·
   try simp only [n3, n4]
   try simp only [dZ, ne_eq] at hp1
   refine g_on (yi (t := 21) rfl rfl) ?_
   refine s_go (m_fieldAddr U61 (hi := ti25)) ?_
   try simp only [nY, fY, gY]
   refine g_on (yi (t := 21) rfl rfl) ?_
   refine s_go (m_loada_obj U25 (hi := ti25) (hS := hS) (hfit := by (rw [zi_size (by omega)]; decide))) ?_
   try simp only [nY, gY]
   rw [key_item hkl]
   refine g_on (yi (t := 21) rfl rfl) ?_
   refine s_call en39 ?_
   try simp only [nY, mY]
   refine CallR.mono (c_nameRight _ hil hib _) ?_
   rintro _ w4 ⟨rfl, hE4⟩
   replace hS := hS.ext hE4
   try simp only [nY]
   refine s_go s_pick_t ?_
   try simp only [nY]
   refine s_go s_move ?_
   try simp only [nY]
   refine s_part 26 rfl (fun hp2 => ?_) (fun hp2 => ?_)
   ·
    try simp only [n3, n4]
    try simp only [dZ, ne_eq] at hp2
    refine g_on (yi (t := 26) rfl rfl) ?_
    refine s_go (m_fieldAddr U61 (hi := ti5)) ?_
    try simp only [nY, fY, gY]
    refine g_on (yi (t := 26) rfl rfl) ?_
    refine s_go (m_load_obj U5 (hS := hS) (hv := by exact zi_get rfl (by omega))) ?_
    try simp only [nY, gY]
    rw [hk.e10]
    refine g_on (yi (t := 26) rfl rfl) ?_
    refine s_go s_lss ?_
    try simp only [nY]
    refine s_go s_pick_t ?_
    try simp only [nY]
    refine s_go s_assign ?_
    try simp only [nY]
    refine x_nil (hK8 _ _ ?_)
    refine x_ret (r_tmp rfl ?_)
    exact ⟨congrArg Value.bool (by rw [hR]; exact rgt_c (by omega) (by assumption) (by omega)), hS.ext_of⟩
   try simp only [n3, n4]
   try simp only [dZ, ne_eq] at hp2
   refine g_off (yi (t := 26) rfl rfl) ?_
   try simp only [nY]
   refine g_off (yi (t := 26) rfl rfl) ?_
   try simp only [nY]
   refine g_off (yi (t := 26) rfl rfl) ?_
   try simp only [nY]
   refine s_go s_pick_f ?_
   try simp only [nY]
   refine s_go s_assign ?_
   try simp only [nY]
   refine x_nil (hK8 _ _ ?_)
   refine x_ret (r_tmp rfl ?_)
   exact ⟨congrArg Value.bool (by rw [hR]; exact rgt_b (by assumption)), hS.ext_of⟩
  try simp only [n3, n4]
  try simp only [dZ, ne_eq] at hp1
  refine g_off (yi (t := 21) rfl rfl) ?_
  try simp only [nY]
  refine g_off (yi (t := 21) rfl rfl) ?_
  try simp only [nY]
  refine g_off (yi (t := 21) rfl rfl) ?_
  try simp only [nY]
  refine s_go s_pick_f ?_
  try simp only [nY]
  refine s_go s_move ?_
  try simp only [nY]
  refine g_off (yi (t := 26) rfl rfl) ?_
  try simp only [nY]
  refine g_off (yi (t := 26) rfl rfl) ?_
  try simp only [nY]
  refine g_off (yi (t := 26) rfl rfl) ?_
  try simp only [nY]
  refine s_go s_pick_f ?_
  try simp only [nY]
  refine s_go s_assign ?_
  try simp only [nY]
  refine x_nil (hK8 _ _ ?_)
  refine x_ret (r_tmp rfl ?_)
  exact ⟨congrArg Value.bool (by rw [hR]; exact rgt_a (by omega)), hS.ext_of⟩
 try simp only [dY] at hc2
 refine x_seq fun K9 hK9 => ?_
 refine x_seq fun K10 hK10 => x_region ?_
 refine s_go s_eql ?_
 try simp only [nY]
 refine s_go s_assign ?_
 try simp only [nY]
 refine x_nil (hK10 _ _ ?_)
 refine x_cond (ht := fun hc3 => ?_) (hf := fun hc3 => ?_)
 ·
  try simp only [dY] at hc3
  try have hR : keyR x = (decide (kn x 11 = 0) && nright (kitem x) && decide (kn x 10 < 16)) := by rw [keyR, if_neg (by omega), if_neg (by omega), if_pos (by omega)]
  refine x_skip ?_
  refine hK9 _ _ ?_
  refine x_cond (ht := fun hc4 => ?_) (hf := fun hc4 => ?_)
  ·
   try simp only [dY] at hc4
   try have hR : keyR x = (decide (kn x 11 = 0) && nright (kitem x) && decide (kn x 10 < 16)) := by rw [keyR, if_neg (by omega), if_neg (by omega), if_pos (by omega)]
   refine x_seq fun K11 hK11 => x_region ?_
   refine s_go (m_fieldAddr U61 (hi := ti51)) ?_
   try simp only [nY, fY, gY]
   refine s_go (m_load_obj U51 (hS := hS) (hv := by exact zi_get rfl (by omega))) ?_
   try simp only [nY, gY]
   rw [hk.e11]
   refine s_go s_eql ?_
   try simp only [nY]
   refine s_go s_move ?_
   try simp only [nY]
   refine s_part 37 rfl (fun hp3 => ?_) (fun hp3 => ?_)
   ·
    try simp only [n3, n4]
    try simp only [dZ, ne_eq] at hp3
    refine g_on (yi (t := 37) rfl rfl) ?_
    refine s_go (m_fieldAddr U61 (hi := ti25)) ?_
    try simp only [nY, fY, gY]
    refine g_on (yi (t := 37) rfl rfl) ?_
    refine s_go (m_loada_obj U25 (hi := ti25) (hS := hS) (hfit := by (rw [zi_size (by omega)]; decide))) ?_
    try simp only [nY, gY]
    rw [key_item hkl]
    refine g_on (yi (t := 37) rfl rfl) ?_
    refine s_call en39 ?_
    try simp only [nY, mY]
    refine CallR.mono (c_nameRight _ hil hib _) ?_
    rintro _ w5 ⟨rfl, hE5⟩
    replace hS := hS.ext hE5
    try simp only [nY]
    refine s_go s_pick_t ?_
    try simp only [nY]
    refine s_go s_move ?_
    try simp only [nY]
    refine s_part 42 rfl (fun hp4 => ?_) (fun hp4 => ?_)
    ·
     try simp only [n3, n4]
     try simp only [dZ, ne_eq] at hp4
     refine g_on (yi (t := 42) rfl rfl) ?_
     refine s_go (m_fieldAddr U61 (hi := ti5)) ?_
     try simp only [nY, fY, gY]
     refine g_on (yi (t := 42) rfl rfl) ?_
     refine s_go (m_load_obj U5 (hS := hS) (hv := by exact zi_get rfl (by omega))) ?_
     try simp only [nY, gY]
     rw [hk.e10]
     refine g_on (yi (t := 42) rfl rfl) ?_
     refine s_go s_lss ?_
     try simp only [nY]
     refine s_go s_pick_t ?_
     try simp only [nY]
     refine s_go s_assign ?_
     try simp only [nY]
     refine x_nil (hK11 _ _ ?_)
     refine x_ret (r_tmp rfl ?_)
     exact ⟨congrArg Value.bool (by rw [hR]; exact rgt_c (by omega) (by assumption) (by omega)), hS.ext_of⟩
    try simp only [n3, n4]
    try simp only [dZ, ne_eq] at hp4
    refine g_off (yi (t := 42) rfl rfl) ?_
    try simp only [nY]
    refine g_off (yi (t := 42) rfl rfl) ?_
    try simp only [nY]
    refine g_off (yi (t := 42) rfl rfl) ?_
    try simp only [nY]
    refine s_go s_pick_f ?_
    try simp only [nY]
    refine s_go s_assign ?_
    try simp only [nY]
    refine x_nil (hK11 _ _ ?_)
    refine x_ret (r_tmp rfl ?_)
    exact ⟨congrArg Value.bool (by rw [hR]; exact rgt_b (by assumption)), hS.ext_of⟩
   try simp only [n3, n4]
   try simp only [dZ, ne_eq] at hp3
   refine g_off (yi (t := 37) rfl rfl) ?_
   try simp only [nY]
   refine g_off (yi (t := 37) rfl rfl) ?_
   try simp only [nY]
   refine g_off (yi (t := 37) rfl rfl) ?_
   try simp only [nY]
   refine s_go s_pick_f ?_
   try simp only [nY]
   refine s_go s_move ?_
   try simp only [nY]
   refine g_off (yi (t := 42) rfl rfl) ?_
   try simp only [nY]
   refine g_off (yi (t := 42) rfl rfl) ?_
   try simp only [nY]
   refine g_off (yi (t := 42) rfl rfl) ?_
   try simp only [nY]
   refine s_go s_pick_f ?_
   try simp only [nY]
   refine s_go s_assign ?_
   try simp only [nY]
   refine x_nil (hK11 _ _ ?_)
   refine x_ret (r_tmp rfl ?_)
   exact ⟨congrArg Value.bool (by rw [hR]; exact rgt_a (by omega)), hS.ext_of⟩
  try simp only [dY] at hc4
  (exfalso; omega)
 try simp only [dY] at hc3
 try have hR : keyR x = false := by rw [keyR, if_neg (by omega), if_neg (by omega), if_neg (by omega)]
 refine x_region ?_
 refine s_go s_eql ?_
 try simp only [nY]
 refine s_go s_assign ?_
 try simp only [nY]
 refine x_nil (hK9 _ _ ?_)
 refine x_cond (ht := fun hc5 => ?_) (hf := fun hc5 => ?_)
 ·
  try simp only [dY] at hc5
  try have hR : keyR x = (decide (kn x 11 = 0) && nright (kitem x) && decide (kn x 10 < 16)) := by rw [keyR, if_neg (by omega), if_neg (by omega), if_pos (by omega)]
  refine x_seq fun K13 hK13 => x_region ?_
  refine s_go (m_fieldAddr U61 (hi := ti51)) ?_
  try simp only [nY, fY, gY]
  refine s_go (m_load_obj U51 (hS := hS) (hv := by exact zi_get rfl (by omega))) ?_
  try simp only [nY, gY]
  rw [hk.e11]
  refine s_go s_eql ?_
  try simp only [nY]
  refine s_go s_move ?_
  try simp only [nY]
  refine s_part 37 rfl (fun hp5 => ?_) (fun hp5 => ?_)
  ·
   try simp only [n3, n4]
   try simp only [dZ, ne_eq] at hp5
   refine g_on (yi (t := 37) rfl rfl) ?_
   refine s_go (m_fieldAddr U61 (hi := ti25)) ?_
   try simp only [nY, fY, gY]
   refine g_on (yi (t := 37) rfl rfl) ?_
   refine s_go (m_loada_obj U25 (hi := ti25) (hS := hS) (hfit := by (rw [zi_size (by omega)]; decide))) ?_
   try simp only [nY, gY]
   rw [key_item hkl]
   refine g_on (yi (t := 37) rfl rfl) ?_
   refine s_call en39 ?_
   try simp only [nY, mY]
   refine CallR.mono (c_nameRight _ hil hib _) ?_
   rintro _ w6 ⟨rfl, hE6⟩
   replace hS := hS.ext hE6
   try simp only [nY]
   refine s_go s_pick_t ?_
   try simp only [nY]
   refine s_go s_move ?_
   try simp only [nY]
   refine s_part 42 rfl (fun hp6 => ?_) (fun hp6 => ?_)
   ·
    try simp only [n3, n4]
    try simp only [dZ, ne_eq] at hp6
    refine g_on (yi (t := 42) rfl rfl) ?_
    refine s_go (m_fieldAddr U61 (hi := ti5)) ?_
    try simp only [nY, fY, gY]
    refine g_on (yi (t := 42) rfl rfl) ?_
    refine s_go (m_load_obj U5 (hS := hS) (hv := by exact zi_get rfl (by omega))) ?_
    try simp only [nY, gY]
    rw [hk.e10]
    refine g_on (yi (t := 42) rfl rfl) ?_
    refine s_go s_lss ?_
    try simp only [nY]
    refine s_go s_pick_t ?_
    try simp only [nY]
    refine s_go s_assign ?_
    try simp only [nY]
    refine x_nil (hK13 _ _ ?_)
    refine x_ret (r_tmp rfl ?_)
    exact ⟨congrArg Value.bool (by rw [hR]; exact rgt_c (by omega) (by assumption) (by omega)), hS.ext_of⟩
   try simp only [n3, n4]
   try simp only [dZ, ne_eq] at hp6
   refine g_off (yi (t := 42) rfl rfl) ?_
   try simp only [nY]
   refine g_off (yi (t := 42) rfl rfl) ?_
   try simp only [nY]
   refine g_off (yi (t := 42) rfl rfl) ?_
   try simp only [nY]
   refine s_go s_pick_f ?_
   try simp only [nY]
   refine s_go s_assign ?_
   try simp only [nY]
   refine x_nil (hK13 _ _ ?_)
   refine x_ret (r_tmp rfl ?_)
   exact ⟨congrArg Value.bool (by rw [hR]; exact rgt_b (by assumption)), hS.ext_of⟩
  try simp only [n3, n4]
  try simp only [dZ, ne_eq] at hp5
  refine g_off (yi (t := 37) rfl rfl) ?_
  try simp only [nY]
  refine g_off (yi (t := 37) rfl rfl) ?_
  try simp only [nY]
  refine g_off (yi (t := 37) rfl rfl) ?_
  try simp only [nY]
  refine s_go s_pick_f ?_
  try simp only [nY]
  refine s_go s_move ?_
  try simp only [nY]
  refine g_off (yi (t := 42) rfl rfl) ?_
  try simp only [nY]
  refine g_off (yi (t := 42) rfl rfl) ?_
  try simp only [nY]
  refine g_off (yi (t := 42) rfl rfl) ?_
  try simp only [nY]
  refine s_go s_pick_f ?_
  try simp only [nY]
  refine s_go s_assign ?_
  try simp only [nY]
  refine x_nil (hK13 _ _ ?_)
  refine x_ret (r_tmp rfl ?_)
  exact ⟨congrArg Value.bool (by rw [hR]; exact rgt_a (by omega)), hS.ext_of⟩
 try simp only [dY] at hc5
 try have hR : keyR x = false := by rw [keyR, if_neg (by omega), if_neg (by omega), if_neg (by omega)]
 refine x_skip ?_
 refine hK3 _ _ ?_
 refine x_seq fun K14 hK14 => x_region ?_
 refine s_go s_assign ?_
 try simp only [nY]
 refine x_nil (hK14 _ _ ?_)
 refine x_ret (r_tmp rfl ?_)
 exact ⟨by rw [hR]; rfl, hS.ext_of⟩
theorem c_ref08Right (x : List Int) (hk : KeyOk x)  (w0 : World) :
    CallR Tryz.prog 51 #[.agg (KA x)] w0 fun v w' => v = .bool (keyR x) ∧ Ext w0 w' := by
 have hS : St NoB w0 w0 [] := St.start w0
 refine c_enter (l := [.agg (KA x), undef, undef, undef, undef, undef, undef, undef, undef, undef, undef, undef, undef, undef, undef, undef, undef, undef, undef, undef, undef, undef, undef, undef, undef, undef, undef, undef, undef, undef, undef, undef, undef, undef, undef, undef, undef, undef, undef, undef, undef, undef, undef]) Tryz.func51 rfl (by simp only [Tryz.ntmps51, List.size_toArray, List.length_cons, List.length_nil, Nat.reduceAdd, Nat.reduceSub, Array.replicate_succ, Array.replicate_zero, List.push_toArray, List.append_toArray, List.nil_append, List.cons_append]) ?_
 refine x_seq fun K1 hK1 => x_region ?_
 have hkl := hk.len
 have hb0 := hk.b0
 have hb1 := hk.b1
 have hb10 := hk.b10
 have hb11 := hk.b11
 have hil := kitem_len hk.len
 have hib := hk.item
 refine m_box hS (fun w1 g1 hS => ?_)
 try simp only [nY, aY] at hS ⊢
 refine s_go s_assign ?_
 try simp only [nY]
 refine x_nil (hK1 _ _ ?_)
 refine x_seq fun K2 hK2 => ?_
 refine x_seq fun K3 hK3 => x_region ?_
 refine s_go (m_fieldAddr U61 (hi := ti5)) ?_
 try simp only [nY, fY, gY]
 refine s_go (m_load_obj U5 (hS := hS) (hv := by exact zi_get rfl (by omega))) ?_
 try simp only [nY, gY]
 rw [hk.e0]
 refine x_nil (hK3 _ _ ?_)
 refine x_block ?_
 refine x_seq fun K4 hK4 => x_region ?_
 refine s_go s_eql ?_
 try simp only [nY]
 refine s_go s_assign ?_
 try simp only [nY]
 refine x_nil (hK4 _ _ ?_)
 refine x_cond (ht := fun hc1 => ?_) (hf := fun hc1 => ?_)
 ·
  try simp only [dY] at hc1
  have hR : keyR x = (decide (kn x 11 ≠ 0) && nright (kitem x) && decide (kn x 10 < 16)) := by rw [keyR, if_neg (by omega), if_pos (by omega)]
  refine x_seq fun K5 hK5 => x_region ?_
  refine s_go (m_fieldAddr U61 (hi := ti25)) ?_
  try simp only [nY, fY, gY]
  refine s_go (m_loada_obj U25 (hi := ti25) (hS := hS) (hfit := by (rw [zi_size (by omega)]; decide))) ?_
  try simp only [nY, gY]
  rw [key_item hkl]
  refine s_call en41 ?_
  try simp only [nY, mY]
  refine CallR.mono (c_ref06Right _ hil hib _) ?_
  rintro _ w2 ⟨rfl, hE2⟩
  replace hS := hS.ext hE2
  try simp only [nY]
  refine s_go s_move ?_
  try simp only [nY]
  refine s_part 10 rfl (fun hp1 => ?_) (fun hp1 => ?_)
  ·
   try simp only [n3, n4]
   try simp only [dZ, ne_eq] at hp1
   refine g_on (yi (t := 10) rfl rfl) ?_
   refine s_go (m_fieldAddr U61 (hi := ti5)) ?_
   try simp only [nY, fY, gY]
   refine g_on (yi (t := 10) rfl rfl) ?_
   refine s_go (m_load_obj U5 (hS := hS) (hv := by exact zi_get rfl (by omega))) ?_
   try simp only [nY, gY]
   rw [hk.e10]
   refine g_on (yi (t := 10) rfl rfl) ?_
   refine s_go s_lss ?_
   try simp only [nY]
   refine s_go s_pick_t ?_
   try simp only [nY]
   refine s_go s_move ?_
   try simp only [nY]
   refine s_part 15 rfl (fun hp2 => ?_) (fun hp2 => ?_)
   ·
    try simp only [n3, n4]
    try simp only [dZ, ne_eq] at hp2
    refine g_on (yi (t := 15) rfl rfl) ?_
    refine s_go (m_fieldAddr U61 (hi := ti51)) ?_
    try simp only [nY, fY, gY]
    refine g_on (yi (t := 15) rfl rfl) ?_
    refine s_go (m_load_obj U51 (hS := hS) (hv := by exact zi_get rfl (by omega))) ?_
    try simp only [nY, gY]
    rw [hk.e11]
    refine g_on (yi (t := 15) rfl rfl) ?_
    refine s_go s_gtr ?_
    try simp only [nY]
    refine s_go s_pick_t ?_
    try simp only [nY]
    refine s_go s_assign ?_
    try simp only [nY]
    refine x_nil (hK5 _ _ ?_)
    refine x_ret (r_tmp rfl ?_)
    exact ⟨congrArg Value.bool (by rw [hR]; exact rgt_d (by omega) (by assumption) (by omega)), hS.ext_of⟩
   try simp only [n3, n4]
   try simp only [dZ, ne_eq] at hp2
   refine g_off (yi (t := 15) rfl rfl) ?_
   try simp only [nY]
   refine g_off (yi (t := 15) rfl rfl) ?_
   try simp only [nY]
   refine g_off (yi (t := 15) rfl rfl) ?_
   try simp only [nY]
   refine s_go s_pick_f ?_
   try simp only [nY]
   refine s_go s_assign ?_
   try simp only [nY]
   refine x_nil (hK5 _ _ ?_)
   refine x_ret (r_tmp rfl ?_)
   exact ⟨congrArg Value.bool (by rw [hR]; exact rgt_e (by omega)), hS.ext_of⟩
  try simp only [n3, n4]
  try simp only [dZ, ne_eq] at hp1
  refine g_off (yi (t := 10) rfl rfl) ?_
  try simp only [nY]
  refine g_off (yi (t := 10) rfl rfl) ?_
  try simp only [nY]
  refine g_off (yi (t := 10) rfl rfl) ?_
  try simp only [nY]
  refine s_go s_pick_f ?_
  try simp only [nY]
  refine s_go s_move ?_
  try simp only [nY]
  refine g_off (yi (t := 15) rfl rfl) ?_
  try simp only [nY]
  refine g_off (yi (t := 15) rfl rfl) ?_
  try simp only [nY]
  refine g_off (yi (t := 15) rfl rfl) ?_
  try simp only [nY]
  refine s_go s_pick_f ?_
  try simp only [nY]
  refine s_go s_assign ?_
  try simp only [nY]
  refine x_nil (hK5 _ _ ?_)
  refine x_ret (r_tmp rfl ?_)
  exact ⟨congrArg Value.bool (by rw [hR]; exact rgt_b (by assumption)), hS.ext_of⟩
 try simp only [dY] at hc1
 refine x_seq fun K6 hK6 => ?_
 refine x_seq fun K7 hK7 => x_region ?_
 refine s_go s_eql ?_
 try simp only [nY]
 refine s_go s_assign ?_
 try simp only [nY]
 refine x_nil (hK7 _ _ ?_)
 refine x_cond (ht := fun hc2 => ?_) (hf := fun hc2 => ?_)
 ·
  try simp only [dY] at hc2
  try have hR : keyR x = (decide (kn x 11 = 0) && nright (kitem x) && decide (kn x 10 < 16)) := by rw [keyR, if_neg (by omega), if_neg (by omega), if_pos (by omega)]
  refine x_skip ?_
  refine hK6 _ _ ?_
  refine x_cond (ht := fun hc3 => ?_) (hf := fun hc3 => ?_)
  ·
   try simp only [dY] at hc3
   try have hR : keyR x = (decide (kn x 11 = 0) && nright (kitem x) && decide (kn x 10 < 16)) := by rw [keyR, if_neg (by omega), if_neg (by omega), if_pos (by omega)]
   refine x_seq fun K8 hK8 => x_region ?_
   refine s_go (m_fieldAddr U61 (hi := ti25)) ?_
   try simp only [nY, fY, gY]
   refine s_go (m_loada_obj U25 (hi := ti25) (hS := hS) (hfit := by (rw [zi_size (by omega)]; decide))) ?_
   try simp only [nY, gY]
   rw [key_item hkl]
   refine s_call en41 ?_
   try simp only [nY, mY]
   refine CallR.mono (c_ref06Right _ hil hib _) ?_
   rintro _ w3 ⟨rfl, hE3⟩
   replace hS := hS.ext hE3
   try simp only [nY]
   refine s_go s_move ?_
   try simp only [nY]
   refine s_part 26 rfl (fun hp3 => ?_) (fun hp3 => ?_)
   ·
    try simp only [n3, n4]
    try simp only [dZ, ne_eq] at hp3
    refine g_on (yi (t := 26) rfl rfl) ?_
    refine s_go (m_fieldAddr U61 (hi := ti5)) ?_
    try simp only [nY, fY, gY]
    refine g_on (yi (t := 26) rfl rfl) ?_
    refine s_go (m_load_obj U5 (hS := hS) (hv := by exact zi_get rfl (by omega))) ?_
    try simp only [nY, gY]
    rw [hk.e10]
    refine g_on (yi (t := 26) rfl rfl) ?_
    refine s_go s_lss ?_
    try simp only [nY]
    refine s_go s_pick_t ?_
    try simp only [nY]
    refine s_go s_move ?_
    try simp only [nY]
    refine s_part 31 rfl (fun hp4 => ?_) (fun hp4 => ?_)
    ·
     try simp only [n3, n4]
     try simp only [dZ, ne_eq] at hp4
     refine g_on (yi (t := 31) rfl rfl) ?_
     refine s_go (m_fieldAddr U61 (hi := ti51)) ?_
     try simp only [nY, fY, gY]
     refine g_on (yi (t := 31) rfl rfl) ?_
     refine s_go (m_load_obj U51 (hS := hS) (hv := by exact zi_get rfl (by omega))) ?_
     try simp only [nY, gY]
     rw [hk.e11]
     refine g_on (yi (t := 31) rfl rfl) ?_
     refine s_go s_eql ?_
     try simp only [nY]
     refine s_go s_pick_t ?_
     try simp only [nY]
     refine s_go s_assign ?_
     try simp only [nY]
     refine x_nil (hK8 _ _ ?_)
     refine x_ret (r_tmp rfl ?_)
     exact ⟨congrArg Value.bool (by rw [hR]; exact rgt_d (by omega) (by assumption) (by omega)), hS.ext_of⟩
    try simp only [n3, n4]
    try simp only [dZ, ne_eq] at hp4
    refine g_off (yi (t := 31) rfl rfl) ?_
    try simp only [nY]
    refine g_off (yi (t := 31) rfl rfl) ?_
    try simp only [nY]
    refine g_off (yi (t := 31) rfl rfl) ?_
    try simp only [nY]
    refine s_go s_pick_f ?_
    try simp only [nY]
    refine s_go s_assign ?_
    try simp only [nY]
    refine x_nil (hK8 _ _ ?_)
    refine x_ret (r_tmp rfl ?_)
    exact ⟨congrArg Value.bool (by rw [hR]; exact rgt_e (by omega)), hS.ext_of⟩
   try simp only [n3, n4]
   try simp only [dZ, ne_eq] at hp3
   refine g_off (yi (t := 26) rfl rfl) ?_
   try simp only [nY]
   refine g_off (yi (t := 26) rfl rfl) ?_
   try simp only [nY]
   refine g_off (yi (t := 26) rfl rfl) ?_
   try simp only [nY]
   refine s_go s_pick_f ?_
   try simp only [nY]
   refine s_go s_move ?_
   try simp only [nY]
   refine g_off (yi (t := 31) rfl rfl) ?_
   try simp only [nY]
   refine g_off (yi (t := 31) rfl rfl) ?_
   try simp only [nY]
   refine g_off (yi (t := 31) rfl rfl) ?_
   try simp only [nY]
   refine s_go s_pick_f ?_
   try simp only [nY]
   refine s_go s_assign ?_
   try simp only [nY]
   refine x_nil (hK8 _ _ ?_)
   refine x_ret (r_tmp rfl ?_)
   exact ⟨congrArg Value.bool (by rw [hR]; exact rgt_b (by assumption)), hS.ext_of⟩
  try simp only [dY] at hc3
  (exfalso; omega)
 try simp only [dY] at hc2
 refine x_region ?_
 refine s_go s_eql ?_
 try simp only [nY]
 refine s_go s_assign ?_
 try simp only [nY]
 refine x_nil (hK6 _ _ ?_)
 refine x_cond (ht := fun hc5 => ?_) (hf := fun hc5 => ?_)
 ·
  try simp only [dY] at hc5
  try have hR : keyR x = (decide (kn x 11 = 0) && nright (kitem x) && decide (kn x 10 < 16)) := by rw [keyR, if_neg (by omega), if_neg (by omega), if_pos (by omega)]
  refine x_seq fun K12 hK12 => x_region ?_
  refine s_go (m_fieldAddr U61 (hi := ti25)) ?_
  try simp only [nY, fY, gY]
  refine s_go (m_loada_obj U25 (hi := ti25) (hS := hS) (hfit := by (rw [zi_size (by omega)]; decide))) ?_
  try simp only [nY, gY]
  rw [key_item hkl]
  refine s_call en41 ?_
  try simp only [nY, mY]
  refine CallR.mono (c_ref06Right _ hil hib _) ?_
  rintro _ w4 ⟨rfl, hE4⟩
  replace hS := hS.ext hE4
  try simp only [nY]
  refine s_go s_move ?_
  try simp only [nY]
  refine s_part 26 rfl (fun hp5 => ?_) (fun hp5 => ?_)
  ·
   try simp only [n3, n4]
   try simp only [dZ, ne_eq] at hp5
   refine g_on (yi (t := 26) rfl rfl) ?_
   refine s_go (m_fieldAddr U61 (hi := ti5)) ?_
   try simp only [nY, fY, gY]
   refine g_on (yi (t := 26) rfl rfl) ?_
   refine s_go (m_load_obj U5 (hS := hS) (hv := by exact zi_get rfl (by omega))) ?_
   try simp only [nY, gY]
   rw [hk.e10]
   refine g_on (yi (t := 26) rfl rfl) ?_
   refine s_go s_lss ?_
   try simp only [nY]
   refine s_go s_pick_t ?_
   try simp only [nY]
   refine s_go s_move ?_
   try simp only [nY]
   refine s_part 31 rfl (fun hp6 => ?_) (fun hp6 => ?_)
   ·
    try simp only [n3, n4]
    try simp only [dZ, ne_eq] at hp6
    refine g_on (yi (t := 31) rfl rfl) ?_
    refine s_go (m_fieldAddr U61 (hi := ti51)) ?_
    try simp only [nY, fY, gY]
    refine g_on (yi (t := 31) rfl rfl) ?_
    refine s_go (m_load_obj U51 (hS := hS) (hv := by exact zi_get rfl (by omega))) ?_
    try simp only [nY, gY]
    rw [hk.e11]
    refine g_on (yi (t := 31) rfl rfl) ?_
    refine s_go s_eql ?_
    try simp only [nY]
    refine s_go s_pick_t ?_
    try simp only [nY]
    refine s_go s_assign ?_
    try simp only [nY]
    refine x_nil (hK12 _ _ ?_)
    refine x_ret (r_tmp rfl ?_)
    exact ⟨congrArg Value.bool (by rw [hR]; exact rgt_d (by omega) (by assumption) (by omega)), hS.ext_of⟩
   try simp only [n3, n4]
   try simp only [dZ, ne_eq] at hp6
   refine g_off (yi (t := 31) rfl rfl) ?_
   try simp only [nY]
   refine g_off (yi (t := 31) rfl rfl) ?_
   try simp only [nY]
   refine g_off (yi (t := 31) rfl rfl) ?_
   try simp only [nY]
   refine s_go s_pick_f ?_
   try simp only [nY]
   refine s_go s_assign ?_
   try simp only [nY]
   refine x_nil (hK12 _ _ ?_)
   refine x_ret (r_tmp rfl ?_)
   exact ⟨congrArg Value.bool (by rw [hR]; exact rgt_e (by omega)), hS.ext_of⟩
  try simp only [n3, n4]
  try simp only [dZ, ne_eq] at hp5
  refine g_off (yi (t := 26) rfl rfl) ?_
  try simp only [nY]
  refine g_off (yi (t := 26) rfl rfl) ?_
  try simp only [nY]
  refine g_off (yi (t := 26) rfl rfl) ?_
  try simp only [nY]
  refine s_go s_pick_f ?_
  try simp only [nY]
  refine s_go s_move ?_
  try simp only [nY]
  refine g_off (yi (t := 31) rfl rfl) ?_
  try simp only [nY]
  refine g_off (yi (t := 31) rfl rfl) ?_
  try simp only [nY]
  refine g_off (yi (t := 31) rfl rfl) ?_
  try simp only [nY]
  refine s_go s_pick_f ?_
  try simp only [nY]
  refine s_go s_assign ?_
  try simp only [nY]
  refine x_nil (hK12 _ _ ?_)
  refine x_ret (r_tmp rfl ?_)
  exact ⟨congrArg Value.bool (by rw [hR]; exact rgt_b (by assumption)), hS.ext_of⟩
 try simp only [dY] at hc5
 refine x_seq fun K13 hK13 => x_region ?_
 refine s_go s_eql ?_
 try simp only [nY]
 refine s_go s_assign ?_
 try simp only [nY]
 refine x_nil (hK13 _ _ ?_)
 refine x_cond (ht := fun hc6 => ?_) (hf := fun hc6 => ?_)
 ·
  try simp only [dY] at hc6
  have hR : keyR x = decide (x = bareK x) := by rw [keyR, if_pos (by omega)]
  refine x_seq fun K14 hK14 => x_region ?_
  refine s_go (m_load_row U61 (hi := ti61) (hS := hS) (hfit := by (rw [zi_size (by omega)]; rfl))) ?_
  try simp only [nY, gY]
  refine s_go (m_fieldAddr U61 (hi := ti23)) ?_
  try simp only [nY, fY, gY]
  refine s_go (m_load_obj U23 (hS := hS) (hv := by exact zi_get rfl (by omega))) ?_
  try simp only [nY, gY]
  rw [hk.e1]
  have hbl : (bareK x).length = 12 := rfl
  refine s_go (s_build_struct (cells := #[_, _, .int .u8 0, .int .u8 0, .int .u8 0, .int .u8 0, .int .u8 0, .int .u8 0, .int .u8 0, .int .u8 0, .int .u8 0, .int .u32 0]) U61 ti61 bp61 (hc := by simp only [List.map_toArray, List.map_cons, List.map_nil, nY, List.toList_toArray]; (repeat (refine fill_cons rfl rfl (Nat.le_of_ble_eq_true rfl) ?_)); rfl)) ?_
  try simp only [nY]
  rw [show (#[.int .u8 4, .int .u16 (kn x 1 : Int), .int .u8 0, .int .u8 0, .int .u8 0, .int .u8 0, .int .u8 0, .int .u8 0, .int .u8 0, .int .u8 0, .int .u8 0, .int .u32 0] : Array Value) = KA (bareK x) by rw [bareK, show kn x 0 = 4 by omega]; rfl]
  refine s_go (s_eql_agg eqv61 (hg := eg61) (hX := rfl) (hY := rfl) (h1 := by assumption) (h2 := by assumption)) ?_
  try simp only [nY]
  refine s_go s_assign ?_
  try simp only [nY]
  refine x_nil (hK14 _ _ ?_)
  refine x_ret (r_tmp rfl ?_)
  exact ⟨by rw [hR]; rfl, hS.ext_of⟩
 try simp only [dY] at hc6
 have hR : keyR x = false := by rw [keyR, if_neg (by omega), if_neg (by omega), if_neg (by omega)]
 refine x_skip ?_
 refine hK2 _ _ ?_
 refine x_seq fun K15 hK15 => x_region ?_
 refine s_go s_assign ?_
 try simp only [nY]
 refine x_nil (hK15 _ _ ?_)
 refine x_ret (r_tmp rfl ?_)
 exact ⟨by rw [hR]; rfl, hS.ext_of⟩
end Go.Proofs.YtpekghaodmeemaaGreat
namespace Go.Proofs.YtpekghaodmeemaaGreat
abbrev valKs : List IntKind := [.u64, .u8, .u8, .u8, .u8, .u8, .u8, .u8, .u8]
abbrev VA (v : List Int) : Array Value := (zi valKs v).toArray
abbrev atomKs : List IntKind := [.u8, .u16, .u8, .u8, .u8, .u8, .u8, .u8, .u8, .u8, .u8, .u32, .u64, .u8, .u8, .u8, .u8, .u8, .u8, .u8, .u8]
abbrev AA (a : List Int) : Array Value := (zi atomKs a).toArray
def akey (a : List Int) : List Int := a.take 12
def aval (a : List Int) : List Int := a.drop 12
def vtext (v : List Int) : List Int := v.drop 1
structure ValOk (v : List Int) : Prop where
  len : v.length = 9
  e0 : v.getD 0 0 = (kn v 0 : Int)
  b0 : kn v 0 < 18446744073709551616
  text : Byt (vtext v)
structure AtomOk (a : List Int) : Prop where
  len : a.length = 21
  key : KeyOk (akey a)
  val : ValOk (aval a)
theorem vtext_len {v : List Int} (h : v.length = 9) : (vtext v).length = 8 := by simp [vtext, h]
theorem atom_key {a : List Int} (h : a.length = 21) : (((AA a).toList.drop 0).take 12).toArray = KA (akey a) := by
  have := zi_part (k1 := []) (k2 := keyKs) (k3 := valKs) (a := []) (b := a.take 12) (c := a.drop 12) rfl (by simp [h])
  simpa [akey] using this
theorem atom_val {a : List Int} (h : a.length = 21) : (((AA a).toList.drop 12).take 9).toArray = VA (aval a) := by
  have := zi_part (k1 := keyKs) (k2 := valKs) (k3 := []) (a := a.take 12) (b := a.drop 12) (c := []) (by simp [h]) (by simp [h])
  simpa [aval] using this
theorem val_text {v : List Int} (h : v.length = 9) : (((VA v).toList.drop 1).take 8).toArray = ic .u8 (vtext v) := by
  match v, h with
  | [_, _, _, _, _, _, _, _, _], _ => rfl
theorem aval_0 {a : List Int} (h : a.length = 21) : a.getD 12 0 = (aval a).getD 0 0 := by
  simp [aval, List.getD_eq_getElem?_getD]
theorem atom_text {a : List Int} (h : a.length = 21) : (((AA a).toList.drop 13).take 8).toArray = ic .u8 (vtext (aval a)) := by
  have h1 := val_text (v := aval a) (by simp [aval, h])
  have h2 := atom_val h
  rw [← h1]
  have e : ∀ (L : List Value), L.length = 21 → (L.drop 13).take 8 = ((((L.drop 12).take 9)).drop 1).take 8 := fun L hL => by
    rw [List.drop_take, List.drop_drop, List.take_take]; simp
  have hL : (AA a).toList.length = 21 := by simp [zi, h]
  rw [e _ hL]
  have h3 : ((AA a).toList.drop 12).take 9 = (VA (aval a)).toList := by
    have := congrArg Array.toList h2; simpa using this
  rw [h3]
def stampE (n : Nat) : Int := if 16 ≤ n % 256 ∨ 1099511627775 < n then 2 else if n / 256 % 4294967296 = 0 then 3 else 0
theorem stampE_0 {n : Nat} : stampE n = 0 ↔ n % 256 < 16 ∧ 1 ≤ n / 256 ∧ n / 256 ≤ 4294967295 := by
  unfold stampE
  split
  · simp; omega
  · split
    · simp; omega
    · simp; omega
def bareV (v : List Int) : Bool := decide (vtext v = nm0)
def valR (s : Nat) (v : List Int) : Bool :=
  if s = 1 then bareV v && decide (kn v 0 = 1 ∨ kn v 0 = 2) else
  if s = 2 ∨ s = 3 then bareV v && decide (1 ≤ kn v 0 ∧ kn v 0 ≤ 4294967295) else
  if s = 4 then decide (stampE (kn v 0) = 0) && (bareV v || nright (vtext v)) else false
def atomR (a : List Int) : Bool := keyR (akey a) && valR (kn a 0) (aval a)
def overV (x y : List Int) : Bool := decide (kn y 0 < kn x 0) || (decide (kn x 0 = kn y 0) && !decide (numN (vtext x) < numN (vtext y)))
def moreV (x y : List Int) : List Int := if overV x y then x else y
end Go.Proofs.YtpekghaodmeemaaGreat
set_option linter.unusedSimpArgs false
set_option linter.unusedVariables false
set_option maxHeartbeats 800000
set_option maxRecDepth 100000
namespace Go.Proofs.YtpekghaodmeemaaGreat
open Go.RowKit
theorem c_atomStamp (n r : Nat) (hn : n < 4294967296) (hr : r < 256) (w0 : World) :
    CallR Tryz.prog 95 #[.int .u32 (n : Int), .int .u8 (r : Int)] w0 fun v w' => v = .int .u64 ((256 * n + r : Nat) : Int) ∧ Ext w0 w' := by
 have hS : St NoB w0 w0 [] := St.start w0
 refine c_enter (l := [.int .u32 (n : Int), .int .u8 (r : Int), undef, undef, undef, undef, undef, undef, undef, undef, undef]) Tryz.func95 rfl (by simp only [Tryz.ntmps95, List.size_toArray, List.length_cons, List.length_nil, Nat.reduceAdd, Nat.reduceSub, Array.replicate_succ, Array.replicate_zero, List.push_toArray, List.append_toArray, List.nil_append, List.cons_append]) ?_
 refine x_seq fun K1 hK1 => x_region ?_
 refine s_go s_assign ?_
 try simp only [nY]
 refine x_nil (hK1 _ _ ?_)
 refine x_seq fun K2 hK2 => x_region ?_
 refine s_go s_move ?_
 try simp only [nY]
 refine s_go (s_conv U51 U62 (hc := by exact wr_u64 (by omega) (by omega))) ?_
 try simp only [nY]
 refine s_go (s_shl (hc := shl_lt64 (r := n) (n := 8) rfl (by omega))) ?_
 try simp only [nY]
 refine s_go s_move ?_
 try simp only [nY]
 refine s_go (s_conv U5 U62 (hc := by exact wr_u64 (by omega) (by omega))) ?_
 try simp only [nY]
 refine s_go (s_bits (by simp) (hc := or_hi64 (n := 8) hr (by omega))) ?_
 try simp only [nY]
 refine s_go s_assign ?_
 try simp only [nY]
 refine x_nil (hK2 _ _ ?_)
 refine x_ret (r_tmp rfl ?_)
 exact ⟨rfl, hS.ext_of⟩
theorem c_atomUnstamp (x : Nat) (hx : x < 18446744073709551616)  (w0 : World) :
    CallR Tryz.prog 116 #[.int .u64 (x : Int)] w0 fun v w' => v = .tuple #[.int .u32 ((x / 256 % 4294967296 : Nat) : Int), .int .u8 ((x % 256 : Nat) : Int)] ∧ Ext w0 w' := by
 have hS : St NoB w0 w0 [] := St.start w0
 refine c_enter (l := [.int .u64 (x : Int), undef, undef, undef, undef, undef, undef, undef, undef]) Tryz.func116 rfl (by simp only [Tryz.ntmps116, List.size_toArray, List.length_cons, List.length_nil, Nat.reduceAdd, Nat.reduceSub, Array.replicate_succ, Array.replicate_zero, List.push_toArray, List.append_toArray, List.nil_append, List.cons_append]) ?_
 refine x_seq fun K1 hK1 => x_region ?_
 refine s_go s_assign ?_
 try simp only [nY]
 refine s_go s_assign ?_
 try simp only [nY]
 refine x_nil (hK1 _ _ ?_)
 refine x_seq fun K2 hK2 => x_region ?_
 refine s_go s_move ?_
 try simp only [nY]
 refine s_go (s_shr (hc := shr_u .u64 (r := x) (p := 256) (s := x / 256) rfl)) ?_
 try simp only [nY]
 refine s_go (s_conv U62 U51 (hc := cv_u32 rfl)) ?_
 try simp only [nY]
 refine s_go s_move ?_
 try simp only [nY]
 refine s_go (s_conv U62 U5 (hc := cv_u8 rfl)) ?_
 try simp only [nY]
 refine s_go s_assign ?_
 try simp only [nY]
 refine s_go s_assign ?_
 try simp only [nY]
 refine x_nil (hK2 _ _ ?_)
 refine x_ret (r_tmp2 rfl ?_)
 exact ⟨rfl, hS.ext_of⟩
theorem c_atomStamped (x : Nat) (hx : x < 18446744073709551616)  (w0 : World) :
    CallR Tryz.prog 123 #[.int .u64 (x : Int)] w0 fun v w' => v = .int .i64 (stampE x) ∧ Ext w0 w' := by
 have hS : St NoB w0 w0 [] := St.start w0
 refine c_enter (l := [.int .u64 (x : Int), undef, undef, undef, undef, undef, undef, undef, undef, undef, undef, undef, undef, undef, undef, undef, undef, undef]) Tryz.func123 rfl (by simp only [Tryz.ntmps123, List.size_toArray, List.length_cons, List.length_nil, Nat.reduceAdd, Nat.reduceSub, Array.replicate_succ, Array.replicate_zero, List.push_toArray, List.append_toArray, List.nil_append, List.cons_append]) ?_
 refine x_seq fun K1 hK1 => x_region ?_
 refine s_go s_assign ?_
 try simp only [nY]
 refine x_nil (hK1 _ _ ?_)
 refine x_seq fun K2 hK2 => x_region ?_
 refine s_go s_move ?_
 try simp only [nY]
 refine s_call en116 ?_
 try simp only [nY, mY]
 refine CallR.mono (c_atomUnstamp x hx _) ?_
 rintro _ w1 ⟨rfl, hE1⟩
 replace hS := hS.ext hE1
 try simp only [nY]
 refine s_go s_move ?_
 try simp only [nY]
 refine s_go (s_extract (hv := rfl)) ?_
 try simp only [gY]
 try simp only [nY]
 refine s_go (s_extract (hv := rfl)) ?_
 try simp only [gY]
 try simp only [nY]
 refine s_go s_assign ?_
 try simp only [nY]
 refine s_go s_assign ?_
 try simp only [nY]
 refine x_nil (hK2 _ _ ?_)
 refine x_seq fun K3 hK3 => ?_
 refine x_block ?_
 refine x_seq fun K4 hK4 => ?_
 refine x_seq fun K5 hK5 => x_region ?_
 refine s_go s_move ?_
 try simp only [nY]
 refine s_go s_geq ?_
 try simp only [nY]
 refine s_go s_assign ?_
 try simp only [nY]
 refine x_nil (hK5 _ _ ?_)
 refine x_cond (ht := fun hc1 => ?_) (hf := fun hc1 => ?_)
 ·
  try simp only [dY] at hc1
  refine x_skip ?_
  refine hK4 _ _ ?_
  refine x_cond (ht := fun hc2 => ?_) (hf := fun hc2 => ?_)
  ·
   try simp only [dY] at hc2
   refine x_seq fun K6 hK6 => x_region ?_
   refine s_go s_assign ?_
   try simp only [nY]
   refine x_nil (hK6 _ _ ?_)
   refine x_ret (r_tmp rfl ?_)
   exact ⟨congrArg (Value.int .i64) (by rw [stampE, if_pos (by omega)]), hS.ext_of⟩
  try simp only [dY] at hc2
  (exfalso; omega)
 try simp only [dY] at hc1
 refine x_region ?_
 refine s_go s_move ?_
 try simp only [nY]
 refine s_go s_gtr ?_
 try simp only [nY]
 refine s_go s_assign ?_
 try simp only [nY]
 refine x_nil (hK4 _ _ ?_)
 refine x_cond (ht := fun hc4 => ?_) (hf := fun hc4 => ?_)
 ·
  try simp only [dY] at hc4
  refine x_seq fun K10 hK10 => x_region ?_
  refine s_go s_assign ?_
  try simp only [nY]
  refine x_nil (hK10 _ _ ?_)
  refine x_ret (r_tmp rfl ?_)
  exact ⟨congrArg (Value.int .i64) (by rw [stampE, if_pos (by omega)]), hS.ext_of⟩
 try simp only [dY] at hc4
 refine x_seq fun K11 hK11 => x_region ?_
 refine s_go s_move ?_
 try simp only [nY]
 refine s_go s_eql ?_
 try simp only [nY]
 refine s_go s_assign ?_
 try simp only [nY]
 refine x_nil (hK11 _ _ ?_)
 refine x_cond (ht := fun hc5 => ?_) (hf := fun hc5 => ?_)
 ·
  try simp only [dY] at hc5
  refine x_seq fun K12 hK12 => x_region ?_
  refine s_go s_assign ?_
  try simp only [nY]
  refine x_nil (hK12 _ _ ?_)
  refine x_ret (r_tmp rfl ?_)
  exact ⟨congrArg (Value.int .i64) (by rw [stampE, if_neg (by omega), if_pos (by omega)]), hS.ext_of⟩
 try simp only [dY] at hc5
 refine x_skip ?_
 refine hK3 _ _ ?_
 refine x_seq fun K13 hK13 => x_region ?_
 refine s_go s_assign ?_
 try simp only [nY]
 refine x_nil (hK13 _ _ ?_)
 refine x_ret (r_tmp rfl ?_)
 exact ⟨congrArg (Value.int .i64) (by rw [stampE, if_neg (by omega), if_neg (by omega)]), hS.ext_of⟩
theorem c_rule1 (v : List Int) (hv : ValOk v)  (w0 : World) :
    CallR Tryz.prog 118 #[.agg (VA v)] w0 fun u w' => u = .bool (bareV v) ∧ Ext w0 w' := by
 have hS : St NoB w0 w0 [] := St.start w0
 refine c_enter (l := [.agg (VA v), undef, undef, undef, undef, undef, undef]) Tryz.func118 rfl (by simp only [Tryz.ntmps118, List.size_toArray, List.length_cons, List.length_nil, Nat.reduceAdd, Nat.reduceSub, Array.replicate_succ, Array.replicate_zero, List.push_toArray, List.append_toArray, List.nil_append, List.cons_append]) ?_
 refine x_seq fun K1 hK1 => x_region ?_
 have hvl := hv.len
 have htl := vtext_len hv.len
 have htb := hv.text
 have hvb := hv.b0
 refine m_box hS (fun w1 g1 hS => ?_)
 try simp only [nY, aY] at hS ⊢
 refine s_go s_assign ?_
 try simp only [nY]
 refine x_nil (hK1 _ _ ?_)
 refine x_seq fun K2 hK2 => x_region ?_
 refine s_go (m_fieldAddr U64 (hi := ti25)) ?_
 try simp only [nY, fY, gY]
 refine s_go (m_loada_obj U25 (hi := ti25) (hS := hS) (hfit := by (rw [zi_size (by omega)]; decide))) ?_
 try simp only [nY, gY]
 rw [val_text hvl]
 refine s_call en40 ?_
 try simp only [nY, mY]
 refine CallR.mono (c_nameSome _ htl htb _) ?_
 rintro _ w2 ⟨rfl, hE2⟩
 replace hS := hS.ext hE2
 try simp only [nY]
 refine s_go s_not ?_
 try simp only [nY]
 refine s_go s_assign ?_
 try simp only [nY]
 refine x_nil (hK2 _ _ ?_)
 refine x_ret (r_tmp rfl ?_)
 exact ⟨congrArg Value.bool (by simp [bareV]), hS.ext_of⟩
theorem c_rule2 (w0 : World) (v : List Int) (hv : ValOk v) (q : Nat) (hq : Rd w0 (some ⟨q, 0, none⟩) 1 1 [.func (.func 118) #[] #[]]) :
    CallR Tryz.prog 119 #[.agg (VA v), .pointer (some ⟨q, 0, none⟩)] w0 fun u w' => u = .bool (bareV v && decide (1 ≤ kn v 0 ∧ kn v 0 ≤ 4294967295)) ∧ Ext w0 w' := by
 have hS := St.rd1 (S := NoB) hq
 refine c_enter (l := [.agg (VA v), .pointer (some ⟨q, 0, none⟩), undef, undef, undef, undef, undef, undef, undef, undef, undef, undef, undef, undef, undef, undef, undef]) Tryz.func119 rfl (by simp only [Tryz.ntmps119, List.size_toArray, List.length_cons, List.length_nil, Nat.reduceAdd, Nat.reduceSub, Array.replicate_succ, Array.replicate_zero, List.push_toArray, List.append_toArray, List.nil_append, List.cons_append]) ?_
 refine x_seq fun K1 hK1 => x_region ?_
 have hvl := hv.len
 have htl := vtext_len hv.len
 have htb := hv.text
 have hvb := hv.b0
 refine m_box hS (fun w1 g1 hS => ?_)
 try simp only [nY, aY] at hS ⊢
 refine s_go s_assign ?_
 try simp only [nY]
 refine x_nil (hK1 _ _ ?_)
 refine x_seq fun K2 hK2 => x_region ?_
 refine s_go (m_load_bx U128 (hS := hS) (hv := by rfl)) ?_
 try simp only [nY, gY]
 refine s_go (m_load_row U64 (hi := ti64) (hS := hS) (hfit := by (rw [zi_size (by omega)]; rfl))) ?_
 try simp only [nY, gY]
 refine s_callv (hv := rfl) en118 ?_
 try simp only [nY, mY]
 refine CallR.mono (c_rule1 v hv _) ?_
 rintro _ w2 ⟨rfl, hE2⟩
 replace hS := hS.ext hE2
 try simp only [nY]
 refine s_go s_move ?_
 try simp only [nY]
 refine s_part 7 rfl (fun hp1 => ?_) (fun hp1 => ?_)
 ·
  try simp only [n3, n4]
  try simp only [dZ, ne_eq] at hp1
  refine g_on (yi (t := 7) rfl rfl) ?_
  refine s_go (m_fieldAddr U64 (hi := ti62)) ?_
  try simp only [nY, fY, gY]
  refine g_on (yi (t := 7) rfl rfl) ?_
  refine s_go (m_load_obj U62 (hS := hS) (hv := by exact zi_get rfl (by omega))) ?_
  try simp only [nY, gY]
  rw [hv.e0]
  refine g_on (yi (t := 7) rfl rfl) ?_
  refine s_go s_geq ?_
  try simp only [nY]
  refine s_go s_pick_t ?_
  try simp only [nY]
  refine s_go s_move ?_
  try simp only [nY]
  refine s_part 12 rfl (fun hp2 => ?_) (fun hp2 => ?_)
  ·
   try simp only [n3, n4]
   try simp only [dZ, ne_eq] at hp2
   refine g_on (yi (t := 12) rfl rfl) ?_
   refine s_go (m_fieldAddr U64 (hi := ti62)) ?_
   try simp only [nY, fY, gY]
   refine g_on (yi (t := 12) rfl rfl) ?_
   refine s_go (m_load_obj U62 (hS := hS) (hv := by exact zi_get rfl (by omega))) ?_
   try simp only [nY, gY]
   rw [hv.e0]
   refine g_on (yi (t := 12) rfl rfl) ?_
   refine s_go s_leq ?_
   try simp only [nY]
   refine s_go s_pick_t ?_
   try simp only [nY]
   refine s_go s_assign ?_
   try simp only [nY]
   refine x_nil (hK2 _ _ ?_)
   refine x_ret (r_tmp rfl ?_)
   exact ⟨congrArg Value.bool (by (simp only [*, Bool.false_and, Bool.true_and]; exact decide_eq_decide.2 (by omega))), hS.ext_of⟩
  try simp only [n3, n4]
  try simp only [dZ, ne_eq] at hp2
  refine g_off (yi (t := 12) rfl rfl) ?_
  try simp only [nY]
  refine g_off (yi (t := 12) rfl rfl) ?_
  try simp only [nY]
  refine g_off (yi (t := 12) rfl rfl) ?_
  try simp only [nY]
  refine s_go s_pick_f ?_
  try simp only [nY]
  refine s_go s_assign ?_
  try simp only [nY]
  refine x_nil (hK2 _ _ ?_)
  refine x_ret (r_tmp rfl ?_)
  exact ⟨congrArg Value.bool (by (simp only [*, Bool.false_and, Bool.true_and]; exact (decide_eq_false (by omega)).symm)), hS.ext_of⟩
 try simp only [n3, n4]
 try simp only [dZ, ne_eq] at hp1
 refine g_off (yi (t := 7) rfl rfl) ?_
 try simp only [nY]
 refine g_off (yi (t := 7) rfl rfl) ?_
 try simp only [nY]
 refine g_off (yi (t := 7) rfl rfl) ?_
 try simp only [nY]
 refine s_go s_pick_f ?_
 try simp only [nY]
 refine s_go s_move ?_
 try simp only [nY]
 refine g_off (yi (t := 12) rfl rfl) ?_
 try simp only [nY]
 refine g_off (yi (t := 12) rfl rfl) ?_
 try simp only [nY]
 refine g_off (yi (t := 12) rfl rfl) ?_
 try simp only [nY]
 refine s_go s_pick_f ?_
 try simp only [nY]
 refine s_go s_assign ?_
 try simp only [nY]
 refine x_nil (hK2 _ _ ?_)
 refine x_ret (r_tmp rfl ?_)
 exact ⟨congrArg Value.bool (by (simp only [*, Bool.false_and, Bool.true_and, Bool.true_or, Bool.false_or]; done)), hS.ext_of⟩
theorem c_rule4 (w0 : World) (v : List Int) (hv : ValOk v) (q : Nat) (hq : Rd w0 (some ⟨q, 0, none⟩) 1 1 [.func (.func 118) #[] #[]]) :
    CallR Tryz.prog 121 #[.agg (VA v), .pointer (some ⟨q, 0, none⟩)] w0 fun u w' => u = .bool (bareV v && decide (kn v 0 = 1 ∨ kn v 0 = 2)) ∧ Ext w0 w' := by
 have hS := St.rd1 (S := NoB) hq
 refine c_enter (l := [.agg (VA v), .pointer (some ⟨q, 0, none⟩), undef, undef, undef, undef, undef, undef, undef, undef, undef, undef, undef, undef, undef, undef, undef]) Tryz.func121 rfl (by simp only [Tryz.ntmps121, List.size_toArray, List.length_cons, List.length_nil, Nat.reduceAdd, Nat.reduceSub, Array.replicate_succ, Array.replicate_zero, List.push_toArray, List.append_toArray, List.nil_append, List.cons_append]) ?_
 refine x_seq fun K1 hK1 => x_region ?_
 have hvl := hv.len
 have htl := vtext_len hv.len
 have htb := hv.text
 have hvb := hv.b0
 refine m_box hS (fun w1 g1 hS => ?_)
 try simp only [nY, aY] at hS ⊢
 refine s_go s_assign ?_
 try simp only [nY]
 refine x_nil (hK1 _ _ ?_)
 refine x_seq fun K2 hK2 => x_region ?_
 refine s_go (m_load_bx U128 (hS := hS) (hv := by rfl)) ?_
 try simp only [nY, gY]
 refine s_go (m_load_row U64 (hi := ti64) (hS := hS) (hfit := by (rw [zi_size (by omega)]; rfl))) ?_
 try simp only [nY, gY]
 refine s_callv (hv := rfl) en118 ?_
 try simp only [nY, mY]
 refine CallR.mono (c_rule1 v hv _) ?_
 rintro _ w2 ⟨rfl, hE2⟩
 replace hS := hS.ext hE2
 try simp only [nY]
 refine s_go s_move ?_
 try simp only [nY]
 refine s_part 7 rfl (fun hp1 => ?_) (fun hp1 => ?_)
 ·
  try simp only [n3, n4]
  try simp only [dZ, ne_eq] at hp1
  refine g_on (yi (t := 7) rfl rfl) ?_
  refine s_go (m_fieldAddr U64 (hi := ti62)) ?_
  try simp only [nY, fY, gY]
  refine g_on (yi (t := 7) rfl rfl) ?_
  refine s_go (m_load_obj U62 (hS := hS) (hv := by exact zi_get rfl (by omega))) ?_
  try simp only [nY, gY]
  rw [hv.e0]
  refine g_on (yi (t := 7) rfl rfl) ?_
  refine s_go s_eql ?_
  try simp only [nY]
  refine g_on (yi (t := 7) rfl rfl) ?_
  refine s_go s_move ?_
  try simp only [nY]
  refine s_part 11 rfl (fun hp2 => ?_) (fun hp2 => ?_)
  ·
   try simp only [n3, n4]
   try simp only [dZ, ne_eq] at hp2
   refine g_off (yi (t := 11) rfl rfl) ?_
   try simp only [nY]
   refine g_off (yi (t := 11) rfl rfl) ?_
   try simp only [nY]
   refine g_off (yi (t := 11) rfl rfl) ?_
   try simp only [nY]
   refine g_on (yi (t := 7) rfl rfl) ?_
   refine s_go s_pick_t ?_
   try simp only [nY]
   refine s_go s_pick_t ?_
   try simp only [nY]
   refine s_go s_assign ?_
   try simp only [nY]
   refine x_nil (hK2 _ _ ?_)
   refine x_ret (r_tmp rfl ?_)
   exact ⟨congrArg Value.bool (by (simp only [*, Bool.false_and, Bool.true_and]; exact (decide_eq_true (by omega)).symm)), hS.ext_of⟩
  try simp only [n3, n4]
  try simp only [dZ, ne_eq] at hp2
  refine g_on (yi (t := 11) rfl rfl) ?_
  refine s_go (m_fieldAddr U64 (hi := ti62)) ?_
  try simp only [nY, fY, gY]
  refine g_on (yi (t := 11) rfl rfl) ?_
  refine s_go (m_load_obj U62 (hS := hS) (hv := by exact zi_get rfl (by omega))) ?_
  try simp only [nY, gY]
  rw [hv.e0]
  refine g_on (yi (t := 11) rfl rfl) ?_
  refine s_go s_eql ?_
  try simp only [nY]
  refine g_on (yi (t := 7) rfl rfl) ?_
  refine s_go s_pick_f ?_
  try simp only [nY]
  refine s_go s_pick_t ?_
  try simp only [nY]
  refine s_go s_assign ?_
  try simp only [nY]
  refine x_nil (hK2 _ _ ?_)
  refine x_ret (r_tmp rfl ?_)
  exact ⟨congrArg Value.bool (by (simp only [*, Bool.false_and, Bool.true_and]; exact decide_eq_decide.2 (by omega))), hS.ext_of⟩
 try simp only [n3, n4]
 try simp only [dZ, ne_eq] at hp1
 refine g_off (yi (t := 7) rfl rfl) ?_
 try simp only [nY]
 refine g_off (yi (t := 7) rfl rfl) ?_
 try simp only [nY]
 refine g_off (yi (t := 7) rfl rfl) ?_
 try simp only [nY]
 refine g_off (yi (t := 7) rfl rfl) ?_
 try simp only [nY]
 refine g_un (yn (t := 11) rfl rfl) ?_
 try simp only [nY]
 refine g_un (yn (t := 11) rfl rfl) ?_
 try simp only [nY]
 refine g_un (yn (t := 11) rfl rfl) ?_
 try simp only [nY]
 refine g_off (yi (t := 7) rfl rfl) ?_
 try simp only [nY]
 refine s_go s_pick_f ?_
 try simp only [nY]
 refine s_go s_assign ?_
 try simp only [nY]
 refine x_nil (hK2 _ _ ?_)
 refine x_ret (r_tmp rfl ?_)
 exact ⟨congrArg Value.bool (by (simp only [*, Bool.false_and, Bool.true_and, Bool.true_or, Bool.false_or]; done)), hS.ext_of⟩
theorem c_rule5 (w0 : World) (v : List Int) (hv : ValOk v) (q : Nat) (hq : Rd w0 (some ⟨q, 0, none⟩) 1 1 [.func (.func 118) #[] #[]]) :
    CallR Tryz.prog 122 #[.agg (VA v), .pointer (some ⟨q, 0, none⟩)] w0 fun u w' => u = .bool (decide (stampE (kn v 0) = 0) && (bareV v || nright (vtext v))) ∧ Ext w0 w' := by
 have hS := St.rd1 (S := NoB) hq
 refine c_enter (l := [.agg (VA v), .pointer (some ⟨q, 0, none⟩), undef, undef, undef, undef, undef, undef, undef, undef, undef, undef, undef, undef, undef, undef, undef, undef]) Tryz.func122 rfl (by simp only [Tryz.ntmps122, List.size_toArray, List.length_cons, List.length_nil, Nat.reduceAdd, Nat.reduceSub, Array.replicate_succ, Array.replicate_zero, List.push_toArray, List.append_toArray, List.nil_append, List.cons_append]) ?_
 refine x_seq fun K1 hK1 => x_region ?_
 have hvl := hv.len
 have htl := vtext_len hv.len
 have htb := hv.text
 have hvb := hv.b0
 refine m_box hS (fun w1 g1 hS => ?_)
 try simp only [nY, aY] at hS ⊢
 refine s_go s_assign ?_
 try simp only [nY]
 refine x_nil (hK1 _ _ ?_)
 refine x_seq fun K2 hK2 => x_region ?_
 refine s_go (m_fieldAddr U64 (hi := ti62)) ?_
 try simp only [nY, fY, gY]
 refine s_go (m_load_obj U62 (hS := hS) (hv := by exact zi_get rfl (by omega))) ?_
 try simp only [nY, gY]
 rw [hv.e0]
 refine s_call en123 ?_
 try simp only [nY, mY]
 refine CallR.mono (c_atomStamped _ hvb _) ?_
 rintro _ w2 ⟨rfl, hE2⟩
 replace hS := hS.ext hE2
 try simp only [nY]
 refine s_go s_eql ?_
 try simp only [nY]
 refine s_go s_move ?_
 try simp only [nY]
 refine s_part 8 rfl (fun hp1 => ?_) (fun hp1 => ?_)
 ·
  try simp only [n3, n4]
  try simp only [dZ, ne_eq] at hp1
  refine g_on (yi (t := 8) rfl rfl) ?_
  refine s_go (m_load_bx U128 (hS := hS) (hv := by rfl)) ?_
  try simp only [nY, gY]
  refine g_on (yi (t := 8) rfl rfl) ?_
  refine s_go (m_load_row U64 (hi := ti64) (hS := hS) (hfit := by (rw [zi_size (by omega)]; rfl))) ?_
  try simp only [nY, gY]
  refine g_on (yi (t := 8) rfl rfl) ?_
  refine s_callv (hv := rfl) en118 ?_
  try simp only [nY, mY]
  refine CallR.mono (c_rule1 v hv _) ?_
  rintro _ w3 ⟨rfl, hE3⟩
  replace hS := hS.ext hE3
  try simp only [nY]
  refine g_on (yi (t := 8) rfl rfl) ?_
  refine s_go s_move ?_
  try simp only [nY]
  refine s_part 12 rfl (fun hp2 => ?_) (fun hp2 => ?_)
  ·
   try simp only [n3, n4]
   try simp only [dZ, ne_eq] at hp2
   refine g_off (yi (t := 12) rfl rfl) ?_
   try simp only [nY]
   refine g_off (yi (t := 12) rfl rfl) ?_
   try simp only [nY]
   refine g_off (yi (t := 12) rfl rfl) ?_
   try simp only [nY]
   refine g_on (yi (t := 8) rfl rfl) ?_
   refine s_go s_pick_t ?_
   try simp only [nY]
   refine s_go s_pick_t ?_
   try simp only [nY]
   refine s_go s_assign ?_
   try simp only [nY]
   refine x_nil (hK2 _ _ ?_)
   refine x_ret (r_tmp rfl ?_)
   exact ⟨congrArg Value.bool (by (simp only [*, Bool.false_and, Bool.true_and]; rfl)), hS.ext_of⟩
  try simp only [n3, n4]
  try simp only [dZ, ne_eq] at hp2
  refine g_on (yi (t := 12) rfl rfl) ?_
  refine s_go (m_fieldAddr U64 (hi := ti25)) ?_
  try simp only [nY, fY, gY]
  refine g_on (yi (t := 12) rfl rfl) ?_
  refine s_go (m_loada_obj U25 (hi := ti25) (hS := hS) (hfit := by (rw [zi_size (by omega)]; decide))) ?_
  try simp only [nY, gY]
  rw [val_text hvl]
  refine g_on (yi (t := 12) rfl rfl) ?_
  refine s_call en39 ?_
  try simp only [nY, mY]
  refine CallR.mono (c_nameRight _ htl htb _) ?_
  rintro _ w4 ⟨rfl, hE4⟩
  replace hS := hS.ext hE4
  try simp only [nY]
  refine g_on (yi (t := 8) rfl rfl) ?_
  refine s_go s_pick_f ?_
  try simp only [nY]
  refine s_go s_pick_t ?_
  try simp only [nY]
  refine s_go s_assign ?_
  try simp only [nY]
  refine x_nil (hK2 _ _ ?_)
  refine x_ret (r_tmp rfl ?_)
  exact ⟨congrArg Value.bool (by (simp only [*, Bool.false_and, Bool.true_and]; rfl)), hS.ext_of⟩
 try simp only [n3, n4]
 try simp only [dZ, ne_eq] at hp1
 refine g_off (yi (t := 8) rfl rfl) ?_
 try simp only [nY]
 refine g_off (yi (t := 8) rfl rfl) ?_
 try simp only [nY]
 refine g_off (yi (t := 8) rfl rfl) ?_
 try simp only [nY]
 refine g_off (yi (t := 8) rfl rfl) ?_
 try simp only [nY]
 refine g_un (yn (t := 12) rfl rfl) ?_
 try simp only [nY]
 refine g_un (yn (t := 12) rfl rfl) ?_
 try simp only [nY]
 refine g_un (yn (t := 12) rfl rfl) ?_
 try simp only [nY]
 refine g_off (yi (t := 8) rfl rfl) ?_
 try simp only [nY]
 refine s_go s_pick_f ?_
 try simp only [nY]
 refine s_go s_assign ?_
 try simp only [nY]
 refine x_nil (hK2 _ _ ?_)
 refine x_ret (r_tmp rfl ?_)
 exact ⟨congrArg Value.bool (by (simp only [*, Bool.false_and, Bool.true_and]; rfl)), hS.ext_of⟩
end Go.Proofs.YtpekghaodmeemaaGreat
set_option linter.unusedSimpArgs false
set_option linter.unusedVariables false
set_option maxHeartbeats 800000
set_option maxRecDepth 100000
namespace Go.Proofs.YtpekghaodmeemaaGreat
open Go.RowKit
theorem c_atomRules  (w0 : World) :
    CallR Tryz.prog 105 #[] w0 fun v w' => ∃ q, v = .agg #[.func (.func 120) #[] #[], .func (.func 121) #[] #[.pointer (some ⟨q, 0, none⟩)], .func (.func 119) #[] #[.pointer (some ⟨q, 0, none⟩)], .func (.func 119) #[] #[.pointer (some ⟨q, 0, none⟩)], .func (.func 122) #[] #[.pointer (some ⟨q, 0, none⟩)]] ∧ St NoB w0 w' [.obj q (.cells #[.func (.func 118) #[] #[]] 128 (0, 0))] := by
 have hS : St NoB w0 w0 [] := St.start w0
 refine c_enter (l := [undef, undef, undef, undef, undef, undef, undef, undef, undef]) Tryz.func105 rfl (by simp only [Tryz.ntmps105, List.size_toArray, List.length_cons, List.length_nil, Nat.reduceAdd, Nat.reduceSub, Array.replicate_succ, Array.replicate_zero, List.push_toArray, List.append_toArray, List.nil_append, List.cons_append]) ?_
 refine x_seq fun K1 hK1 => x_region ?_
 refine m_alloc ti129 hS (fun w1 g1 hS => ?_)
 try simp only [nY, aY] at hS ⊢
 refine x_nil (hK1 _ _ ?_)
 refine x_seq fun K2 hK2 => x_region ?_
 refine m_alloc ti128 hS (fun w2 g2 hS => ?_)
 try simp only [nY, aY] at hS ⊢
 refine m_store_obj ti128 (hS := hS) (h := fun w3 hS => ?_)
 try simp only [nY, aY] at hS ⊢
 refine x_nil (hK2 _ _ ?_)
 refine x_seq fun K3 hK3 => x_region ?_
 refine s_go s_makeFunc ?_
 try simp only [nY, List.map_toArray, List.map_cons, List.map_nil]
 refine s_go s_assign ?_
 try simp only [nY]
 refine x_nil (hK3 _ _ ?_)
 refine x_seq fun K4 hK4 => x_region ?_
 refine s_go s_makeFunc ?_
 try simp only [nY, List.map_toArray, List.map_cons, List.map_nil]
 refine s_go s_move ?_
 try simp only [nY]
 refine s_go s_move ?_
 try simp only [nY]
 refine s_go s_makeFunc ?_
 try simp only [nY, List.map_toArray, List.map_cons, List.map_nil]
 refine s_go (s_build_arr (cells := #[_, _, _, _, _]) U129 ti129 ti128 (hc := by simp only [List.map_toArray, List.map_cons, List.map_nil, nY, List.toList_toArray]; (repeat (refine fill_cons rfl rfl (Nat.le_of_ble_eq_true rfl) ?_)); rfl)) ?_
 try simp only [nY]
 refine m_store_obj ti129 (hS := hS) (h := fun w4 hS => ?_)
 try simp only [nY, aY] at hS ⊢
 refine x_nil (hK4 _ _ ?_)
 refine x_ret ?_
 refine r_cell_agg rfl U129 ti129 (hS := hS) (hR := ?_)
 exact ⟨_, rfl, hS.sel (by repeat (first | exact Sel.nil | (refine Sel.cons (by repeat (exact Del.head)) ?_)))⟩

def ruleN (s : Nat) : FuncId := if s = 1 then 121 else if s = 4 then 122 else 119
theorem rule_en {s : Nat} (h : 1 ≤ s ∧ s ≤ 4) : Enters Tryz.prog (ruleN s) := by
  have : s = 1 ∨ s = 2 ∨ s = 3 ∨ s = 4 := by omega
  rcases this with rfl | rfl | rfl | rfl
  · exact en121
  · exact en119
  · exact en119
  · exact en122
theorem rule_at {s q : Nat} (h : 1 ≤ s ∧ s ≤ 4) : (#[.func (.func 120) #[] #[], .func (.func 121) #[] #[.pointer (some ⟨q, 0, none⟩)], .func (.func 119) #[] #[.pointer (some ⟨q, 0, none⟩)], .func (.func 119) #[] #[.pointer (some ⟨q, 0, none⟩)], .func (.func 122) #[] #[.pointer (some ⟨q, 0, none⟩)]] : Array Value)[s * 1]? = some (.func (.func (ruleN s)) #[] #[.pointer (some ⟨q, 0, none⟩)]) := by
  have : s = 1 ∨ s = 2 ∨ s = 3 ∨ s = 4 := by omega
  rcases this with rfl | rfl | rfl | rfl <;> rfl
theorem c_rule (w0 : World) (s : Nat) (h : 1 ≤ s ∧ s ≤ 4) (v : List Int) (hv : ValOk v) (q : Nat) (hq : Rd w0 (some ⟨q, 0, none⟩) 1 1 [.func (.func 118) #[] #[]]) : CallR Tryz.prog (ruleN s) #[.agg (VA v), .pointer (some ⟨q, 0, none⟩)] w0 fun u w' => u = .bool (valR s v) ∧ Ext w0 w' := by
  have : s = 1 ∨ s = 2 ∨ s = 3 ∨ s = 4 := by omega
  rcases this with rfl | rfl | rfl | rfl
  · exact c_rule4 w0 v hv q hq
  · exact c_rule2 w0 v hv q hq
  · exact c_rule2 w0 v hv q hq
  · exact c_rule5 w0 v hv q hq
theorem keyR_sort {x : List Int} (h : keyR x = true) : 1 ≤ kn x 0 ∧ kn x 0 ≤ 4 := by
  unfold keyR at h
  split at h
  · omega
  split at h
  · omega
  split at h
  · omega
  · cases h
theorem akey_0 {a : List Int} (h : a.length = 21) : a.getD 0 0 = (akey a).getD 0 0 ∧ kn a 0 = kn (akey a) 0 := by
  match a, h with
  | _ :: _, _ => exact ⟨rfl, rfl⟩

theorem c_atomRight (a : List Int) (ha : AtomOk a)  (w0 : World) :
    CallR Tryz.prog 84 #[.agg (AA a)] w0 fun v w' => v = .bool (atomR a) ∧ Ext w0 w' := by
 have hS : St NoB w0 w0 [] := St.start w0
 refine c_enter (l := [.agg (AA a), undef, undef, undef, undef, undef, undef, undef, undef, undef, undef, undef, undef, undef, undef, undef]) Tryz.func84 rfl (by simp only [Tryz.ntmps84, List.size_toArray, List.length_cons, List.length_nil, Nat.reduceAdd, Nat.reduceSub, Array.replicate_succ, Array.replicate_zero, List.push_toArray, List.append_toArray, List.nil_append, List.cons_append]) ?_
 refine x_seq fun K1 hK1 => x_region ?_
 have hal := ha.len
 have hk := ha.key
 have hv := ha.val
 have hvl := hv.len
 have hkl := hk.len
 have h00 := akey_0 hal
 have htl := vtext_len hvl
 have htb := hv.text
 have hvb := hv.b0
 refine m_box hS (fun w1 g1 hS => ?_)
 try simp only [nY, aY] at hS ⊢
 refine s_go s_assign ?_
 try simp only [nY]
 refine x_nil (hK1 _ _ ?_)
 refine x_seq fun K2 hK2 => ?_
 refine x_mixed_f [] 0 [2, 3, 4, 5, 6, 7, 8, 9, 10, 11, 12, 13, 14, 15] (fun f w => f 2 = .bool (atomR a) ∧ Ext w0 w) (by kernel_rfl) (by kernel_rfl) (by kernel_rfl) (by decide) hS (fun w2 hS => ?mixpre101) ?mixrest101
 case mixpre101 =>
  refine p_nil ?_
  simp only [List.length_cons, List.length_nil, Nat.reduceAdd, Nat.reduceSub]
  refine any_gn 0 rfl (go_yields w_none (fun w hS => m_fieldAddr U66 (hi := ti61))) ?_
  try simp only [nY, fY, gY]
  refine any_gn 1 rfl (go_yields w_none (fun w hS => m_loada_obj U61 (hi := ti61) (hS := hS) (hfit := by (rw [zi_size (by omega)]; decide)))) ?_
  try simp only [nY, gY]
  rw [atom_key hal]
  apply any_gn 2 rfl (call_yields w_none en104 ?H1) ?K1
  case H1 =>
    intro w hS
    try simp only [nY, mY]
    refine CallR.mono (c_keyRight _ hk _) ?_
    rintro _ w1 ⟨rfl, hE⟩; exact ⟨rfl, hE⟩
  try simp only [nY]
  refine any_gn 3 rfl (go_yields w_none (fun w hS => s_move)) ?_
  try simp only [nY]
  refine any_part 6 rfl (fun hp1 => ?_) (fun hp1 => ?_)
  ·
   try simp only [n3, n4]
   try simp only [dZ, ne_eq] at hp1
   have hs := keyR_sort hp1
   rw [← h00.2] at hs
   refine any_gn 5 rfl (go_yields (w_on (yi (t := 6) rfl rfl)) (fun w hS => m_fieldAddr U66 (hi := ti61))) ?_
   try simp only [nY, fY, gY]
   refine any_gn 6 rfl (go_yields (w_on (yi (t := 6) rfl rfl)) (fun w hS => m_fieldAddr U61 (hi := ti5))) ?_
   try simp only [nY, fY, gY]
   refine any_gn 7 rfl (go_yields (w_on (yi (t := 6) rfl rfl)) (fun w hS => m_load_obj U5 (hS := hS) (hv := by exact zi_get rfl (by omega)))) ?_
   try simp only [nY, gY]
   rw [h00.1, hk.e0, ← h00.2]
   refine any_gn 9 rfl (go_yields (w_on (yi (t := 6) rfl rfl)) (fun w hS => m_fieldAddr U66 (hi := ti64))) ?_
   try simp only [nY, fY, gY]
   refine any_gn 10 rfl (go_yields (w_on (yi (t := 6) rfl rfl)) (fun w hS => m_loada_obj U64 (hi := ti64) (hS := hS) (hfit := by (rw [zi_size (by omega)]; decide)))) ?_
   try simp only [nY, gY]
   rw [atom_val hal]
   refine any_step [4] (by kernel_rfl) (by decide) (fun w3 hE => ⟨fun _ => (hS.ext hE).sel (by repeat (first | exact Sel.nil | (refine Sel.cons (by repeat (exact Del.head)) ?_))), ?_⟩)
   replace hS := hS.ext hE
   intro i hi
   simp only [List.mem_cons, List.not_mem_nil, or_false] at hi
   subst hi
   refine any_op (by rfl) ?_
   refine g_on (yi (t := 6) rfl rfl) ?_
   refine s_call en105 ?_
   try simp only [nY, mY]
   refine CallR.mono (c_atomRules _) ?_
   rintro _ w4 ⟨q, rfl, hC4⟩
   replace hS := hS.call hC4
   simp only [List.cons_append, List.nil_append] at hS
   try simp only [nY]
   refine x_nil ?_
   refine any_step [8] (by kernel_rfl) (by decide) (fun w5 hE => ⟨fun _ => (hS.ext hE).sel (by repeat (first | exact Sel.nil | (refine Sel.cons (by repeat (first | exact Del.head | apply Del.tail)) ?_))), ?_⟩)
   replace hS := hS.ext hE
   intro i hi
   simp only [List.mem_cons, List.not_mem_nil, or_false] at hi
   subst hi
   refine any_op (by rfl) ?_
   refine g_on (yi (t := 6) rfl rfl) ?_
   refine s_go (s_index_one U129 ti128 U128 (hv := by rw [Int.toNat_natCast]; exact rule_at hs)) ?_
   try simp only [nY]
   refine x_nil ?_
   refine any_step [11] (by kernel_rfl) (by decide) (fun w6 hE => ⟨fun _ => (hS.ext hE).sel (by repeat (first | exact Sel.nil | (refine Sel.cons (by repeat (first | exact Del.head | apply Del.tail)) ?_))), ?_⟩)
   replace hS := hS.ext hE
   intro i hi
   simp only [List.mem_cons, List.not_mem_nil, or_false] at hi
   subst hi
   refine any_op (by rfl) ?_
   refine g_on (yi (t := 6) rfl rfl) ?_
   refine s_callv (hv := rfl) (rule_en hs) ?_
   try simp only [nY, mY]
   refine CallR.mono (c_rule _ _ hs _ hv q (by exact hS.objRd (g := q) (cs := #[.func (.func 118) #[] #[]]) (by repeat (exact Has.head)))) ?_
   rintro _ w7 ⟨rfl, hE7⟩
   replace hS := hS.ext hE7
   try simp only [nY]
   refine x_nil ?_
   refine any_gn 12 rfl (go_yields w_none (fun w hS => s_pick_t)) ?_
   try simp only [nY]
   refine any_gn 13 rfl (go_yields w_none (fun w hS => s_assign)) ?_
   try simp only [nY]
   refine any_nil (by kernel_rfl) (fun w8 hE => ?_)
   replace hS := hS.ext hE
   refine ⟨fun _ => hS.selA, ?_⟩
   refine mix_leaf (by simp only [clob, List.foldl, nZ]) ?_
   try simp only [n1, n2]
   exact ⟨congrArg Value.bool (by simp only [atomR, *, Bool.false_and, Bool.true_and]), hS.ext_of⟩
  try simp only [n3, n4]
  try simp only [dZ, ne_eq] at hp1
  refine any_gn 4 rfl (off_yields (yi (t := 6) rfl rfl)) ?_
  try simp only [nY]
  refine any_gn 5 rfl (off_yields (yi (t := 6) rfl rfl)) ?_
  try simp only [nY]
  refine any_gn 6 rfl (off_yields (yi (t := 6) rfl rfl)) ?_
  try simp only [nY]
  refine any_gn 7 rfl (off_yields (yi (t := 6) rfl rfl)) ?_
  try simp only [nY]
  refine any_gn 8 rfl (off_yields (yi (t := 6) rfl rfl)) ?_
  try simp only [nY]
  refine any_gn 9 rfl (off_yields (yi (t := 6) rfl rfl)) ?_
  try simp only [nY]
  refine any_gn 10 rfl (off_yields (yi (t := 6) rfl rfl)) ?_
  try simp only [nY]
  refine any_gn 11 rfl (off_yields (yi (t := 6) rfl rfl)) ?_
  try simp only [nY]
  refine any_gn 12 rfl (go_yields w_none (fun w hS => s_pick_f)) ?_
  try simp only [nY]
  refine any_gn 13 rfl (go_yields w_none (fun w hS => s_assign)) ?_
  try simp only [nY]
  refine any_nil (by kernel_rfl) (fun w9 hE => ?_)
  replace hS := hS.ext hE
  refine ⟨fun _ => hS.sel (by repeat (first | exact Sel.nil | (refine Sel.cons (by repeat (exact Del.head)) ?_))), ?_⟩
  refine mix_leaf (by simp only [clob, List.foldl, nZ]) ?_
  try simp only [n1, n2]
  exact ⟨congrArg Value.bool (by simp only [atomR, *, Bool.false_and, Bool.true_and]), hS.ext_of⟩
 intro fm1 w10 hM
 obtain ⟨h2, hEE⟩ := hM
 simp only [clob, List.foldl, n3, n4, h2]
 refine hK2 _ _ ?_
 refine x_ret (r_tmp rfl ?_)
 exact ⟨rfl, hEE⟩
end Go.Proofs.YtpekghaodmeemaaGreat
set_option linter.unusedSimpArgs false
set_option linter.unusedVariables false
set_option maxHeartbeats 800000
set_option maxRecDepth 100000
namespace Go.Proofs.YtpekghaodmeemaaGreat
open Go.RowKit

def a9 : List Int := [1, 1, 97, 0, 0, 0, 0, 0, 0, 0, 2, 3, 1, 0, 0, 0, 0, 0, 0, 0, 0]
end Go.Proofs.YtpekghaodmeemaaGreat
set_option linter.unusedSimpArgs false
set_option linter.unusedVariables false
set_option maxHeartbeats 800000
set_option maxRecDepth 100000
namespace Go.Proofs.YtpekghaodmeemaaGreat
open Go.RowKit
theorem c_atomOver (x y : List Int) (hx : ValOk x) (hy : ValOk y)  (w0 : World) :
    CallR Tryz.prog 106 #[.agg (VA x), .agg (VA y)] w0 fun v w' => v = .bool (overV x y) ∧ Ext w0 w' := by
 have hS : St NoB w0 w0 [] := St.start w0
 refine c_enter (l := [.agg (VA x), .agg (VA y), undef, undef, undef, undef, undef, undef, undef, undef, undef, undef, undef, undef, undef, undef, undef, undef, undef, undef, undef, undef, undef, undef, undef]) Tryz.func106 rfl (by simp only [Tryz.ntmps106, List.size_toArray, List.length_cons, List.length_nil, Nat.reduceAdd, Nat.reduceSub, Array.replicate_succ, Array.replicate_zero, List.push_toArray, List.append_toArray, List.nil_append, List.cons_append]) ?_
 refine x_seq fun K1 hK1 => x_region ?_
 have hxl := hx.len
 have hyl := hy.len
 have hxt := vtext_len hxl
 have hyt := vtext_len hyl
 have hxb := hx.text
 have hyb := hy.text
 refine m_box hS (fun w1 g1 hS => ?_)
 try simp only [nY, aY] at hS ⊢
 refine m_box hS (fun w2 g2 hS => ?_)
 try simp only [nY, aY] at hS ⊢
 refine s_go s_assign ?_
 try simp only [nY]
 refine x_nil (hK1 _ _ ?_)
 refine x_seq fun K2 hK2 => x_region ?_
 refine s_go (m_fieldAddr U64 (hi := ti62)) ?_
 try simp only [nY, fY, gY]
 refine s_go (m_load_obj U62 (hS := hS) (hv := by exact zi_get rfl (by omega))) ?_
 try simp only [nY, gY]
 rw [hx.e0]
 refine s_go (m_fieldAddr U64 (hi := ti62)) ?_
 try simp only [nY, fY, gY]
 refine s_go (m_load_obj U62 (hS := hS) (hv := by exact zi_get rfl (by omega))) ?_
 try simp only [nY, gY]
 rw [hy.e0]
 refine s_go s_gtr ?_
 try simp only [nY]
 refine s_go s_move ?_
 try simp only [nY]
 refine s_part 10 rfl (fun hp1 => ?_) (fun hp1 => ?_)
 ·
  try simp only [n3, n4]
  try simp only [dZ, ne_eq] at hp1
  refine g_off (yi (t := 10) rfl rfl) ?_
  try simp only [nY]
  refine g_off (yi (t := 10) rfl rfl) ?_
  try simp only [nY]
  refine g_off (yi (t := 10) rfl rfl) ?_
  try simp only [nY]
  refine g_off (yi (t := 10) rfl rfl) ?_
  try simp only [nY]
  refine g_off (yi (t := 10) rfl rfl) ?_
  try simp only [nY]
  refine g_off (yi (t := 10) rfl rfl) ?_
  try simp only [nY]
  refine g_un (yn (t := 16) rfl rfl) ?_
  try simp only [nY]
  refine g_un (yn (t := 16) rfl rfl) ?_
  try simp only [nY]
  refine g_un (yn (t := 16) rfl rfl) ?_
  try simp only [nY]
  refine g_un (yn (t := 16) rfl rfl) ?_
  try simp only [nY]
  refine g_un (yn (t := 16) rfl rfl) ?_
  try simp only [nY]
  refine g_un (yn (t := 16) rfl rfl) ?_
  try simp only [nY]
  refine g_off (yi (t := 10) rfl rfl) ?_
  try simp only [nY]
  refine s_go s_pick_t ?_
  try simp only [nY]
  refine s_go s_assign ?_
  try simp only [nY]
  refine x_nil (hK2 _ _ ?_)
  refine x_ret (r_tmp rfl ?_)
  exact ⟨congrArg Value.bool (by unfold overV; rw [decide_eq_true (show kn y 0 < kn x 0 by omega), Bool.true_or]), hS.ext_of⟩
 try simp only [n3, n4]
 try simp only [dZ, ne_eq] at hp1
 refine g_on (yi (t := 10) rfl rfl) ?_
 refine s_go (m_fieldAddr U64 (hi := ti62)) ?_
 try simp only [nY, fY, gY]
 refine g_on (yi (t := 10) rfl rfl) ?_
 refine s_go (m_load_obj U62 (hS := hS) (hv := by exact zi_get rfl (by omega))) ?_
 try simp only [nY, gY]
 rw [hx.e0]
 refine g_on (yi (t := 10) rfl rfl) ?_
 refine s_go (m_fieldAddr U64 (hi := ti62)) ?_
 try simp only [nY, fY, gY]
 refine g_on (yi (t := 10) rfl rfl) ?_
 refine s_go (m_load_obj U62 (hS := hS) (hv := by exact zi_get rfl (by omega))) ?_
 try simp only [nY, gY]
 rw [hy.e0]
 refine g_on (yi (t := 10) rfl rfl) ?_
 refine s_go s_eql ?_
 try simp only [nY]
 refine g_on (yi (t := 10) rfl rfl) ?_
 refine s_go s_move ?_
 try simp only [nY]
 refine s_part 16 rfl (fun hp2 => ?_) (fun hp2 => ?_)
 ·
  try simp only [n3, n4]
  try simp only [dZ, ne_eq] at hp2
  refine g_on (yi (t := 16) rfl rfl) ?_
  refine s_go (m_fieldAddr U64 (hi := ti25)) ?_
  try simp only [nY, fY, gY]
  refine g_on (yi (t := 16) rfl rfl) ?_
  refine s_go (m_loada_obj U25 (hi := ti25) (hS := hS) (hfit := by (rw [zi_size (by omega)]; decide))) ?_
  try simp only [nY, gY]
  rw [val_text hxl]
  refine g_on (yi (t := 16) rfl rfl) ?_
  refine s_go (m_fieldAddr U64 (hi := ti25)) ?_
  try simp only [nY, fY, gY]
  refine g_on (yi (t := 16) rfl rfl) ?_
  refine s_go (m_loada_obj U25 (hi := ti25) (hS := hS) (hfit := by (rw [zi_size (by omega)]; decide))) ?_
  try simp only [nY, gY]
  rw [val_text hyl]
  refine g_on (yi (t := 16) rfl rfl) ?_
  refine s_call en124 ?_
  try simp only [nY, mY]
  refine CallR.mono (c_nameLess _ _ hxt hyt hxb hyb _) ?_
  rintro _ w3 ⟨rfl, hE3⟩
  replace hS := hS.ext hE3
  try simp only [nY]
  refine g_on (yi (t := 16) rfl rfl) ?_
  refine s_go s_not ?_
  try simp only [nY]
  refine g_on (yi (t := 10) rfl rfl) ?_
  refine s_go s_pick_t ?_
  try simp only [nY]
  refine s_go s_pick_f ?_
  try simp only [nY]
  refine s_go s_assign ?_
  try simp only [nY]
  refine x_nil (hK2 _ _ ?_)
  refine x_ret (r_tmp rfl ?_)
  exact ⟨congrArg Value.bool (by unfold overV; rw [decide_eq_false (show ¬ kn y 0 < kn x 0 by omega), Bool.false_or, decide_eq_true (show kn x 0 = kn y 0 by omega), Bool.true_and]), hS.ext_of⟩
 try simp only [n3, n4]
 try simp only [dZ, ne_eq] at hp2
 refine g_off (yi (t := 16) rfl rfl) ?_
 try simp only [nY]
 refine g_off (yi (t := 16) rfl rfl) ?_
 try simp only [nY]
 refine g_off (yi (t := 16) rfl rfl) ?_
 try simp only [nY]
 refine g_off (yi (t := 16) rfl rfl) ?_
 try simp only [nY]
 refine g_off (yi (t := 16) rfl rfl) ?_
 try simp only [nY]
 refine g_off (yi (t := 16) rfl rfl) ?_
 try simp only [nY]
 refine g_on (yi (t := 10) rfl rfl) ?_
 refine s_go s_pick_f ?_
 try simp only [nY]
 refine s_go s_pick_f ?_
 try simp only [nY]
 refine s_go s_assign ?_
 try simp only [nY]
 refine x_nil (hK2 _ _ ?_)
 refine x_ret (r_tmp rfl ?_)
 exact ⟨congrArg Value.bool (by unfold overV; rw [decide_eq_false (show ¬ kn y 0 < kn x 0 by omega), Bool.false_or, decide_eq_false (show ¬ kn x 0 = kn y 0 by omega), Bool.false_and]), hS.ext_of⟩
theorem c_ref09Over (x y : List Int) (hx : ValOk x) (hy : ValOk y)  (w0 : World) :
    CallR Tryz.prog 67 #[.agg (VA x), .agg (VA y)] w0 fun v w' => v = .bool (overV x y) ∧ Ext w0 w' := by
 have hS : St NoB w0 w0 [] := St.start w0
 refine c_enter (l := [.agg (VA x), .agg (VA y), undef, undef, undef, undef, undef, undef, undef, undef, undef, undef, undef, undef, undef, undef, undef, undef, undef, undef, undef, undef]) Tryz.func67 rfl (by simp only [Tryz.ntmps67, List.size_toArray, List.length_cons, List.length_nil, Nat.reduceAdd, Nat.reduceSub, Array.replicate_succ, Array.replicate_zero, List.push_toArray, List.append_toArray, List.nil_append, List.cons_append]) ?_
 refine x_seq fun K1 hK1 => x_region ?_
 have hxl := hx.len
 have hyl := hy.len
 have hxt := vtext_len hxl
 have hyt := vtext_len hyl
 have hxb := hx.text
 have hyb := hy.text
 refine m_box hS (fun w1 g1 hS => ?_)
 try simp only [nY, aY] at hS ⊢
 refine m_box hS (fun w2 g2 hS => ?_)
 try simp only [nY, aY] at hS ⊢
 refine s_go s_assign ?_
 try simp only [nY]
 refine x_nil (hK1 _ _ ?_)
 refine x_seq fun K2 hK2 => ?_
 refine x_seq fun K3 hK3 => x_region ?_
 refine s_go (m_fieldAddr U64 (hi := ti62)) ?_
 try simp only [nY, fY, gY]
 refine s_go (m_load_obj U62 (hS := hS) (hv := by exact zi_get rfl (by omega))) ?_
 try simp only [nY, gY]
 rw [hx.e0]
 refine s_go (m_fieldAddr U64 (hi := ti62)) ?_
 try simp only [nY, fY, gY]
 refine s_go (m_load_obj U62 (hS := hS) (hv := by exact zi_get rfl (by omega))) ?_
 try simp only [nY, gY]
 rw [hy.e0]
 refine s_go s_neq ?_
 try simp only [nY]
 refine x_nil (hK3 _ _ ?_)
 refine x_cond (ht := fun hc1 => ?_) (hf := fun hc1 => ?_)
 ·
  try simp only [dY] at hc1
  refine x_seq fun K4 hK4 => x_region ?_
  refine s_go (m_fieldAddr U64 (hi := ti62)) ?_
  try simp only [nY, fY, gY]
  refine s_go (m_load_obj U62 (hS := hS) (hv := by exact zi_get rfl (by omega))) ?_
  try simp only [nY, gY]
  rw [hx.e0]
  refine s_go (m_fieldAddr U64 (hi := ti62)) ?_
  try simp only [nY, fY, gY]
  refine s_go (m_load_obj U62 (hS := hS) (hv := by exact zi_get rfl (by omega))) ?_
  try simp only [nY, gY]
  rw [hy.e0]
  refine s_go s_gtr ?_
  try simp only [nY]
  refine s_go s_assign ?_
  try simp only [nY]
  refine x_nil (hK4 _ _ ?_)
  refine x_ret (r_tmp rfl ?_)
  exact ⟨congrArg Value.bool (by unfold overV; rw [decide_eq_false (show ¬ kn x 0 = kn y 0 by omega), Bool.false_and, Bool.or_false]; exact decide_eq_decide.2 (by omega)), hS.ext_of⟩
 try simp only [dY] at hc1
 refine x_skip ?_
 refine hK2 _ _ ?_
 refine x_seq fun K5 hK5 => ?_
 refine x_quiet (by kernel_rfl) (by kernel_rfl) hS ?_
 refine q_go (fun w hS => m_fieldAddr U64 (hi := ti25)) ?_
 try simp only [nY, fY, gY]
 refine q_go (fun w hS => m_loada_obj U25 (hi := ti25) (hS := hS) (hfit := by (rw [zi_size (by omega)]; decide))) ?_
 try simp only [nY, gY]
 rw [val_text hxl]
 apply q_call en98
 case H =>
   intro w hS
   try simp only [nY, mY]
   refine CallR.mono (c_ref06Number _ hxt hxb _) ?_
   rintro _ w1 ⟨rfl, hE⟩; exact ⟨rfl, hS.ext hE⟩
 try simp only [nY]
 refine q_go (fun w hS => m_fieldAddr U64 (hi := ti25)) ?_
 try simp only [nY, fY, gY]
 refine q_go (fun w hS => m_loada_obj U25 (hi := ti25) (hS := hS) (hfit := by (rw [zi_size (by omega)]; decide))) ?_
 try simp only [nY, gY]
 rw [val_text hyl]
 apply q_call en98
 case H =>
   intro w hS
   try simp only [nY, mY]
   refine CallR.mono (c_ref06Number _ hyt hyb _) ?_
   rintro _ w1 ⟨rfl, hE⟩; exact ⟨rfl, hS.ext hE⟩
 try simp only [nY]
 refine q_go (fun w hS => s_geq) ?_
 try simp only [nY]
 refine q_go (fun w hS => s_assign) ?_
 try simp only [nY]
 clear hS
 refine q_nil fun w3 hS => ?_
 refine hK5 _ _ ?_
 refine x_ret (r_tmp rfl ?_)
 exact ⟨congrArg Value.bool (by unfold overV; rw [decide_eq_false (show ¬ kn y 0 < kn x 0 by omega), Bool.false_or, decide_eq_true (show kn x 0 = kn y 0 by omega), Bool.true_and, ← decide_not]; exact decide_eq_decide.2 (by omega)), hS.ext_of⟩
theorem c_atomMore (x y : List Int) (hx : ValOk x) (hy : ValOk y)  (w0 : World) :
    CallR Tryz.prog 85 #[.agg (VA x), .agg (VA y)] w0 fun v w' => v = .agg (VA (moreV x y)) ∧ Ext w0 w' := by
 have hS : St NoB w0 w0 [] := St.start w0
 refine c_enter (l := [.agg (VA x), .agg (VA y), undef, undef, undef, undef, undef, undef, undef, undef]) Tryz.func85 rfl (by simp only [Tryz.ntmps85, List.size_toArray, List.length_cons, List.length_nil, Nat.reduceAdd, Nat.reduceSub, Array.replicate_succ, Array.replicate_zero, List.push_toArray, List.append_toArray, List.nil_append, List.cons_append]) ?_
 refine x_seq fun K1 hK1 => x_region ?_
 have hxl := hx.len
 have hyl := hy.len
 have hxt := vtext_len hxl
 have hyt := vtext_len hyl
 have hxb := hx.text
 have hyb := hy.text
 have h0l : (List.replicate 9 (0 : Int)).length = 9 := rfl
 refine m_box hS (fun w1 g1 hS => ?_)
 try simp only [nY, aY] at hS ⊢
 refine m_box hS (fun w2 g2 hS => ?_)
 try simp only [nY, aY] at hS ⊢
 refine m_alloc ti64 hS (fun w3 g3 hS => ?_)
 try simp only [nY, aY] at hS ⊢
 have hS : St NoB w0 w3 [.obj g3 (.cells (VA (List.replicate 9 0)) 64 (0, 0)), .obj g2 (.cells (VA y) 64 (0, 0)), .obj g1 (.cells (VA x) 64 (0, 0))] := hS
 refine x_nil (hK1 _ _ ?_)
 refine x_seq fun K2 hK2 => ?_
 refine x_seq fun K3 hK3 => x_region ?_
 refine s_go (m_load_row U64 (hi := ti64) (hS := hS) (hfit := by (rw [zi_size (by omega)]; rfl))) ?_
 try simp only [nY, gY]
 refine s_go (m_load_row U64 (hi := ti64) (hS := hS) (hfit := by (rw [zi_size (by omega)]; rfl))) ?_
 try simp only [nY, gY]
 refine s_call en106 ?_
 try simp only [nY, mY]
 refine CallR.mono (c_atomOver x y hx hy _) ?_
 rintro _ w4 ⟨rfl, hE4⟩
 replace hS := hS.ext hE4
 try simp only [nY]
 refine x_nil (hK3 _ _ ?_)
 refine x_cond (ht := fun hc1 => ?_) (hf := fun hc1 => ?_)
 ·
  try simp only [dY] at hc1
  have hM : moreV x y = x := by simp [moreV, hc1]
  refine x_seq fun K4 hK4 => x_region ?_
  refine s_go (m_load_row U64 (hi := ti64) (hS := hS) (hfit := by (rw [zi_size (by omega)]; rfl))) ?_
  try simp only [nY, gY]
  refine m_store_obj ti64 (hS := hS) (hc := by exact zi_whole (by omega) (by omega)) (hv := by (show (zi _ _).toArray.size = _; rw [zi_size (by omega)]; rfl)) (hfit := by (rw [zi_size (by omega)]; decide)) (h1 := by exact zi_one _ _) (h := fun w5 hS => ?_)
  try simp only [nY, aY] at hS ⊢
  refine x_nil (hK4 _ _ ?_)
  refine x_ret ?_
  refine r_cell_agg rfl U64 ti64 (hS := hS) (hfit := by (rw [zi_size (by omega)]; rfl)) (hR := ?_)
  exact ⟨by rw [hM], hS.ext_of⟩
 try simp only [dY] at hc1
 have hM : moreV x y = y := by simp [moreV, hc1]
 refine x_skip ?_
 refine hK2 _ _ ?_
 refine x_seq fun K5 hK5 => x_region ?_
 refine s_go (m_load_row U64 (hi := ti64) (hS := hS) (hfit := by (rw [zi_size (by omega)]; rfl))) ?_
 try simp only [nY, gY]
 refine m_store_obj ti64 (hS := hS) (hc := by exact zi_whole (by omega) (by omega)) (hv := by (show (zi _ _).toArray.size = _; rw [zi_size (by omega)]; rfl)) (hfit := by (rw [zi_size (by omega)]; decide)) (h1 := by exact zi_one _ _) (h := fun w6 hS => ?_)
 try simp only [nY, aY] at hS ⊢
 refine x_nil (hK5 _ _ ?_)
 refine x_ret ?_
 refine r_cell_agg rfl U64 ti64 (hS := hS) (hfit := by (rw [zi_size (by omega)]; rfl)) (hR := ?_)
 exact ⟨by rw [hM], hS.ext_of⟩
theorem c_ref09More (x y : List Int) (hx : ValOk x) (hy : ValOk y)  (w0 : World) :
    CallR Tryz.prog 37 #[.agg (VA x), .agg (VA y)] w0 fun v w' => v = .agg (VA (moreV x y)) ∧ Ext w0 w' := by
 have hS : St NoB w0 w0 [] := St.start w0
 refine c_enter (l := [.agg (VA x), .agg (VA y), undef, undef, undef, undef, undef, undef, undef, undef]) Tryz.func37 rfl (by simp only [Tryz.ntmps37, List.size_toArray, List.length_cons, List.length_nil, Nat.reduceAdd, Nat.reduceSub, Array.replicate_succ, Array.replicate_zero, List.push_toArray, List.append_toArray, List.nil_append, List.cons_append]) ?_
 refine x_seq fun K1 hK1 => x_region ?_
 have hxl := hx.len
 have hyl := hy.len
 have hxt := vtext_len hxl
 have hyt := vtext_len hyl
 have hxb := hx.text
 have hyb := hy.text
 have h0l : (List.replicate 9 (0 : Int)).length = 9 := rfl
 refine m_box hS (fun w1 g1 hS => ?_)
 try simp only [nY, aY] at hS ⊢
 refine m_box hS (fun w2 g2 hS => ?_)
 try simp only [nY, aY] at hS ⊢
 refine m_alloc ti64 hS (fun w3 g3 hS => ?_)
 try simp only [nY, aY] at hS ⊢
 have hS : St NoB w0 w3 [.obj g3 (.cells (VA (List.replicate 9 0)) 64 (0, 0)), .obj g2 (.cells (VA y) 64 (0, 0)), .obj g1 (.cells (VA x) 64 (0, 0))] := hS
 refine x_nil (hK1 _ _ ?_)
 refine x_seq fun K2 hK2 => ?_
 refine x_seq fun K3 hK3 => x_region ?_
 refine s_go (m_load_row U64 (hi := ti64) (hS := hS) (hfit := by (rw [zi_size (by omega)]; rfl))) ?_
 try simp only [nY, gY]
 refine s_go (m_load_row U64 (hi := ti64) (hS := hS) (hfit := by (rw [zi_size (by omega)]; rfl))) ?_
 try simp only [nY, gY]
 refine s_call en67 ?_
 try simp only [nY, mY]
 refine CallR.mono (c_ref09Over x y hx hy _) ?_
 rintro _ w4 ⟨rfl, hE4⟩
 replace hS := hS.ext hE4
 try simp only [nY]
 refine x_nil (hK3 _ _ ?_)
 refine x_cond (ht := fun hc1 => ?_) (hf := fun hc1 => ?_)
 ·
  try simp only [dY] at hc1
  have hM : moreV x y = x := by simp [moreV, hc1]
  refine x_seq fun K4 hK4 => x_region ?_
  refine s_go (m_load_row U64 (hi := ti64) (hS := hS) (hfit := by (rw [zi_size (by omega)]; rfl))) ?_
  try simp only [nY, gY]
  refine m_store_obj ti64 (hS := hS) (hc := by exact zi_whole (by omega) (by omega)) (hv := by (show (zi _ _).toArray.size = _; rw [zi_size (by omega)]; rfl)) (hfit := by (rw [zi_size (by omega)]; decide)) (h1 := by exact zi_one _ _) (h := fun w5 hS => ?_)
  try simp only [nY, aY] at hS ⊢
  refine x_nil (hK4 _ _ ?_)
  refine x_ret ?_
  refine r_cell_agg rfl U64 ti64 (hS := hS) (hfit := by (rw [zi_size (by omega)]; rfl)) (hR := ?_)
  exact ⟨by rw [hM], hS.ext_of⟩
 try simp only [dY] at hc1
 have hM : moreV x y = y := by simp [moreV, hc1]
 refine x_skip ?_
 refine hK2 _ _ ?_
 refine x_seq fun K5 hK5 => x_region ?_
 refine s_go (m_load_row U64 (hi := ti64) (hS := hS) (hfit := by (rw [zi_size (by omega)]; rfl))) ?_
 try simp only [nY, gY]
 refine m_store_obj ti64 (hS := hS) (hc := by exact zi_whole (by omega) (by omega)) (hv := by (show (zi _ _).toArray.size = _; rw [zi_size (by omega)]; rfl)) (hfit := by (rw [zi_size (by omega)]; decide)) (h1 := by exact zi_one _ _) (h := fun w6 hS => ?_)
 try simp only [nY, aY] at hS ⊢
 refine x_nil (hK5 _ _ ?_)
 refine x_ret ?_
 refine r_cell_agg rfl U64 ti64 (hS := hS) (hfit := by (rw [zi_size (by omega)]; rfl)) (hR := ?_)
 exact ⟨by rw [hM], hS.ext_of⟩
theorem c_ref09Right (a : List Int) (ha : AtomOk a)  (w0 : World) :
    CallR Tryz.prog 30 #[.agg (AA a)] w0 fun v w' => v = .bool (atomR a) ∧ Ext w0 w' := by
 have hS : St NoB w0 w0 [] := St.start w0
 refine c_enter (l := [.agg (AA a), undef, undef, undef, undef, undef, undef, undef, undef, undef, undef, undef, undef, undef, undef, undef, undef, undef, undef, undef, undef, undef, undef, undef, undef, undef, undef, undef, undef, undef, undef, undef, undef, undef, undef, undef, undef, undef, undef, undef, undef, undef, undef, undef, undef, undef, undef, undef, undef, undef, undef, undef, undef, undef, undef, undef, undef, undef, undef, undef, undef, undef, undef, undef, undef, undef, undef, undef, undef, undef, undef, undef, undef, undef, undef]) Tryz.func30 rfl (by simp only [Tryz.ntmps30, List.size_toArray, List.length_cons, List.length_nil, Nat.reduceAdd, Nat.reduceSub, Array.replicate_succ, Array.replicate_zero, List.push_toArray, List.append_toArray, List.nil_append, List.cons_append]) ?_
 refine x_seq fun K1 hK1 => x_region ?_
 have hal := ha.len
 have hk := ha.key
 have hv := ha.val
 have hvl := hv.len
 have hkl := hk.len
 have h00 := akey_0 hal
 have htl := vtext_len hvl
 have htb := hv.text
 have hvb := hv.b0
 refine m_box hS (fun w1 g1 hS => ?_)
 try simp only [nY, aY] at hS ⊢
 refine s_go s_assign ?_
 try simp only [nY]
 refine x_nil (hK1 _ _ ?_)
 refine x_seq fun K2 hK2 => ?_
 refine x_seq fun K3 hK3 => x_region ?_
 refine s_go (m_fieldAddr U66 (hi := ti61)) ?_
 try simp only [nY, fY, gY]
 refine s_go (m_loada_obj U61 (hi := ti61) (hS := hS) (hfit := by (rw [zi_size (by omega)]; decide))) ?_
 try simp only [nY, gY]
 rw [atom_key hal]
 refine s_call en51 ?_
 try simp only [nY, mY]
 refine CallR.mono (c_ref08Right _ hk _) ?_
 rintro _ w2 ⟨rfl, hE2⟩
 replace hS := hS.ext hE2
 try simp only [nY]
 refine s_go s_not ?_
 try simp only [nY]
 refine x_nil (hK3 _ _ ?_)
 refine x_cond (ht := fun hc1 => ?_) (hf := fun hc1 => ?_)
 ·
  try simp only [dY] at hc1
  have hV : atomR a = false := by simp only [atomR, hc1, Bool.false_and]
  refine x_seq fun K4 hK4 => x_region ?_
  refine s_go s_assign ?_
  try simp only [nY]
  refine x_nil (hK4 _ _ ?_)
  refine x_ret (r_tmp rfl ?_)
  exact ⟨by rw [hV]; rfl, hS.ext_of⟩
 try simp only [dY] at hc1
 have hV : atomR a = valR (kn a 0) (aval a) := by simp only [atomR, hc1, Bool.true_and]
 have hs := keyR_sort hc1
 rw [← h00.2] at hs
 refine x_skip ?_
 refine hK2 _ _ ?_
 refine x_seq fun K5 hK5 => x_region ?_
 refine s_go (m_fieldAddr U66 (hi := ti64)) ?_
 try simp only [nY, fY, gY]
 refine s_go (m_fieldAddr U64 (hi := ti25)) ?_
 try simp only [nY, fY, gY]
 refine s_go (m_loada_obj U25 (hi := ti25) (hS := hS) (hfit := by (rw [zi_size (by omega)]; decide))) ?_
 try simp only [nY, gY]
 rw [atom_text hal]
 refine s_go (s_build_arr (cells := #[.int .u8 0, .int .u8 0, .int .u8 0, .int .u8 0, .int .u8 0, .int .u8 0, .int .u8 0, .int .u8 0]) U25 ti25 ti5 (hc := by simp only [List.map_toArray, List.map_cons, List.map_nil, nY, List.toList_toArray]; (repeat (refine fill_cons rfl rfl (Nat.le_of_ble_eq_true rfl) ?_)); rfl)) ?_
 try simp only [nY]
 rw [show (#[.int .u8 0, .int .u8 0, .int .u8 0, .int .u8 0, .int .u8 0, .int .u8 0, .int .u8 0, .int .u8 0] : Array Value) = ic .u8 nm0 from rfl]
 refine s_go (s_eql_agg eqv25 (hg := eg25) (hX := zi_ic (by assumption)) (hY := zi_ic (by rfl)) (h1 := by assumption) (h2 := by rfl)) ?_
 try simp only [nY]
 rw [show decide (vtext (aval a) = nm0) = bareV (aval a) from rfl]
 refine s_go s_assign ?_
 try simp only [nY]
 refine x_nil (hK5 _ _ ?_)
 refine x_seq fun K6 hK6 => ?_
 refine x_seq fun K7 hK7 => x_region ?_
 refine s_go (m_fieldAddr U66 (hi := ti61)) ?_
 try simp only [nY, fY, gY]
 refine s_go (m_fieldAddr U61 (hi := ti5)) ?_
 try simp only [nY, fY, gY]
 refine s_go (m_load_obj U5 (hS := hS) (hv := by exact zi_get rfl (by omega))) ?_
 try simp only [nY, gY]
 rw [h00.1, hk.e0, ← h00.2]
 refine x_nil (hK7 _ _ ?_)
 refine x_block ?_
 refine x_seq fun K8 hK8 => x_region ?_
 refine s_go s_eql ?_
 try simp only [nY]
 refine s_go s_assign ?_
 try simp only [nY]
 refine x_nil (hK8 _ _ ?_)
 refine x_cond (ht := fun hc2 => ?_) (hf := fun hc2 => ?_)
 ·
  try simp only [dY] at hc2
  have hV1 : valR (kn a 0) (aval a) = (bareV (aval a) && decide (kn (aval a) 0 = 1 ∨ kn (aval a) 0 = 2)) := by rw [valR, if_pos (by omega)]
  refine x_seq fun K9 hK9 => x_region ?_
  refine s_go s_move ?_
  try simp only [nY]
  refine s_go s_move ?_
  try simp only [nY]
  refine s_part 19 rfl (fun hp1 => ?_) (fun hp1 => ?_)
  ·
   try simp only [n3, n4]
   try simp only [dZ, ne_eq] at hp1
   have hba := hp1
   refine g_on (yi (t := 19) rfl rfl) ?_
   refine s_go (m_fieldAddr U66 (hi := ti64)) ?_
   try simp only [nY, fY, gY]
   refine g_on (yi (t := 19) rfl rfl) ?_
   refine s_go (m_fieldAddr U64 (hi := ti62)) ?_
   try simp only [nY, fY, gY]
   refine g_on (yi (t := 19) rfl rfl) ?_
   refine s_go (m_load_obj U62 (hS := hS) (hv := by exact zi_get rfl (by omega))) ?_
   try simp only [nY, gY]
   rw [aval_0 hal, hv.e0]
   refine g_on (yi (t := 19) rfl rfl) ?_
   refine s_go s_eql ?_
   try simp only [nY]
   refine g_on (yi (t := 19) rfl rfl) ?_
   refine s_go s_move ?_
   try simp only [nY]
   refine s_part 24 rfl (fun hp2 => ?_) (fun hp2 => ?_)
   ·
    try simp only [n3, n4]
    try simp only [dZ, ne_eq] at hp2
    refine g_off (yi (t := 24) rfl rfl) ?_
    try simp only [nY]
    refine g_off (yi (t := 24) rfl rfl) ?_
    try simp only [nY]
    refine g_off (yi (t := 24) rfl rfl) ?_
    try simp only [nY]
    refine g_off (yi (t := 24) rfl rfl) ?_
    try simp only [nY]
    refine g_on (yi (t := 19) rfl rfl) ?_
    refine s_go s_pick_t ?_
    try simp only [nY]
    refine s_go s_pick_t ?_
    try simp only [nY]
    refine s_go s_assign ?_
    try simp only [nY]
    refine x_nil (hK9 _ _ ?_)
    refine x_ret (r_tmp rfl ?_)
    exact ⟨congrArg Value.bool (by rw [hV, hV1, hba, Bool.true_and]; exact (decide_eq_true (by omega)).symm), hS.ext_of⟩
   try simp only [n3, n4]
   try simp only [dZ, ne_eq] at hp2
   refine g_on (yi (t := 24) rfl rfl) ?_
   refine s_go (m_fieldAddr U66 (hi := ti64)) ?_
   try simp only [nY, fY, gY]
   refine g_on (yi (t := 24) rfl rfl) ?_
   refine s_go (m_fieldAddr U64 (hi := ti62)) ?_
   try simp only [nY, fY, gY]
   refine g_on (yi (t := 24) rfl rfl) ?_
   refine s_go (m_load_obj U62 (hS := hS) (hv := by exact zi_get rfl (by omega))) ?_
   try simp only [nY, gY]
   rw [aval_0 hal, hv.e0]
   refine g_on (yi (t := 24) rfl rfl) ?_
   refine s_go s_eql ?_
   try simp only [nY]
   refine g_on (yi (t := 19) rfl rfl) ?_
   refine s_go s_pick_f ?_
   try simp only [nY]
   refine s_go s_pick_t ?_
   try simp only [nY]
   refine s_go s_assign ?_
   try simp only [nY]
   refine x_nil (hK9 _ _ ?_)
   refine x_ret (r_tmp rfl ?_)
   exact ⟨congrArg Value.bool (by rw [hV, hV1, hba, Bool.true_and]; exact decide_eq_decide.2 (by omega)), hS.ext_of⟩
  try simp only [n3, n4]
  try simp only [dZ, ne_eq] at hp1
  have hba := hp1
  refine g_off (yi (t := 19) rfl rfl) ?_
  try simp only [nY]
  refine g_off (yi (t := 19) rfl rfl) ?_
  try simp only [nY]
  refine g_off (yi (t := 19) rfl rfl) ?_
  try simp only [nY]
  refine g_off (yi (t := 19) rfl rfl) ?_
  try simp only [nY]
  refine g_off (yi (t := 19) rfl rfl) ?_
  try simp only [nY]
  refine g_un (yn (t := 24) rfl rfl) ?_
  try simp only [nY]
  refine g_un (yn (t := 24) rfl rfl) ?_
  try simp only [nY]
  refine g_un (yn (t := 24) rfl rfl) ?_
  try simp only [nY]
  refine g_un (yn (t := 24) rfl rfl) ?_
  try simp only [nY]
  refine g_off (yi (t := 19) rfl rfl) ?_
  try simp only [nY]
  refine s_go s_pick_f ?_
  try simp only [nY]
  refine s_go s_assign ?_
  try simp only [nY]
  refine x_nil (hK9 _ _ ?_)
  refine x_ret (r_tmp rfl ?_)
  exact ⟨congrArg Value.bool (by rw [hV, hV1, hba, Bool.false_and]), hS.ext_of⟩
 try simp only [dY] at hc2
 refine x_seq fun K10 hK10 => ?_
 refine x_seq fun K11 hK11 => x_region ?_
 refine s_go s_eql ?_
 try simp only [nY]
 refine s_go s_assign ?_
 try simp only [nY]
 refine x_nil (hK11 _ _ ?_)
 refine x_cond (ht := fun hc3 => ?_) (hf := fun hc3 => ?_)
 ·
  try simp only [dY] at hc3
  try have hV1 : valR (kn a 0) (aval a) = (bareV (aval a) && decide (1 ≤ kn (aval a) 0 ∧ kn (aval a) 0 ≤ 4294967295)) := by rw [valR, if_neg (by omega), if_pos (by omega)]
  refine x_skip ?_
  refine hK10 _ _ ?_
  refine x_cond (ht := fun hc4 => ?_) (hf := fun hc4 => ?_)
  ·
   try simp only [dY] at hc4
   try have hV1 : valR (kn a 0) (aval a) = (bareV (aval a) && decide (1 ≤ kn (aval a) 0 ∧ kn (aval a) 0 ≤ 4294967295)) := by rw [valR, if_neg (by omega), if_pos (by omega)]
   refine x_seq fun K12 hK12 => x_region ?_
   refine s_go s_move ?_
   try simp only [nY]
   refine s_go s_move ?_
   try simp only [nY]
   refine s_part 35 rfl (fun hp3 => ?_) (fun hp3 => ?_)
   ·
    try simp only [n3, n4]
    try simp only [dZ, ne_eq] at hp3
    have hba := hp3
    refine g_on (yi (t := 35) rfl rfl) ?_
    refine s_go (m_fieldAddr U66 (hi := ti64)) ?_
    try simp only [nY, fY, gY]
    refine g_on (yi (t := 35) rfl rfl) ?_
    refine s_go (m_fieldAddr U64 (hi := ti62)) ?_
    try simp only [nY, fY, gY]
    refine g_on (yi (t := 35) rfl rfl) ?_
    refine s_go (m_load_obj U62 (hS := hS) (hv := by exact zi_get rfl (by omega))) ?_
    try simp only [nY, gY]
    rw [aval_0 hal, hv.e0]
    refine g_on (yi (t := 35) rfl rfl) ?_
    refine s_go s_geq ?_
    try simp only [nY]
    refine s_go s_pick_t ?_
    try simp only [nY]
    refine s_go s_move ?_
    try simp only [nY]
    refine s_part 41 rfl (fun hp4 => ?_) (fun hp4 => ?_)
    ·
     try simp only [n3, n4]
     try simp only [dZ, ne_eq] at hp4
     refine g_on (yi (t := 41) rfl rfl) ?_
     refine s_go (m_fieldAddr U66 (hi := ti64)) ?_
     try simp only [nY, fY, gY]
     refine g_on (yi (t := 41) rfl rfl) ?_
     refine s_go (m_fieldAddr U64 (hi := ti62)) ?_
     try simp only [nY, fY, gY]
     refine g_on (yi (t := 41) rfl rfl) ?_
     refine s_go (m_load_obj U62 (hS := hS) (hv := by exact zi_get rfl (by omega))) ?_
     try simp only [nY, gY]
     rw [aval_0 hal, hv.e0]
     refine g_on (yi (t := 41) rfl rfl) ?_
     refine s_go s_leq ?_
     try simp only [nY]
     refine s_go s_pick_t ?_
     try simp only [nY]
     refine s_go s_assign ?_
     try simp only [nY]
     refine x_nil (hK12 _ _ ?_)
     refine x_ret (r_tmp rfl ?_)
     exact ⟨congrArg Value.bool (by rw [hV, hV1, hba, Bool.true_and]; exact decide_eq_decide.2 (by omega)), hS.ext_of⟩
    try simp only [n3, n4]
    try simp only [dZ, ne_eq] at hp4
    refine g_off (yi (t := 41) rfl rfl) ?_
    try simp only [nY]
    refine g_off (yi (t := 41) rfl rfl) ?_
    try simp only [nY]
    refine g_off (yi (t := 41) rfl rfl) ?_
    try simp only [nY]
    refine g_off (yi (t := 41) rfl rfl) ?_
    try simp only [nY]
    refine s_go s_pick_f ?_
    try simp only [nY]
    refine s_go s_assign ?_
    try simp only [nY]
    refine x_nil (hK12 _ _ ?_)
    refine x_ret (r_tmp rfl ?_)
    exact ⟨congrArg Value.bool (by rw [hV, hV1, hba, Bool.true_and]; exact (decide_eq_false (by omega)).symm), hS.ext_of⟩
   try simp only [n3, n4]
   try simp only [dZ, ne_eq] at hp3
   have hba := hp3
   refine g_off (yi (t := 35) rfl rfl) ?_
   try simp only [nY]
   refine g_off (yi (t := 35) rfl rfl) ?_
   try simp only [nY]
   refine g_off (yi (t := 35) rfl rfl) ?_
   try simp only [nY]
   refine g_off (yi (t := 35) rfl rfl) ?_
   try simp only [nY]
   refine s_go s_pick_f ?_
   try simp only [nY]
   refine s_go s_move ?_
   try simp only [nY]
   refine g_off (yi (t := 41) rfl rfl) ?_
   try simp only [nY]
   refine g_off (yi (t := 41) rfl rfl) ?_
   try simp only [nY]
   refine g_off (yi (t := 41) rfl rfl) ?_
   try simp only [nY]
   refine g_off (yi (t := 41) rfl rfl) ?_
   try simp only [nY]
   refine s_go s_pick_f ?_
   try simp only [nY]
   refine s_go s_assign ?_
   try simp only [nY]
   refine x_nil (hK12 _ _ ?_)
   refine x_ret (r_tmp rfl ?_)
   exact ⟨congrArg Value.bool (by rw [hV, hV1, hba, Bool.false_and]), hS.ext_of⟩
  try simp only [dY] at hc4
  (exfalso; omega)
 try simp only [dY] at hc3
 try have hV1 : valR (kn a 0) (aval a) = (decide (stampE (kn (aval a) 0) = 0) && (bareV (aval a) || nright (vtext (aval a)))) := by rw [valR, if_neg (by omega), if_neg (by omega), if_pos (by omega)]
 refine x_region ?_
 refine s_go s_eql ?_
 try simp only [nY]
 refine s_go s_assign ?_
 try simp only [nY]
 refine x_nil (hK10 _ _ ?_)
 refine x_cond (ht := fun hc5 => ?_) (hf := fun hc5 => ?_)
 ·
  try simp only [dY] at hc5
  try have hV1 : valR (kn a 0) (aval a) = (bareV (aval a) && decide (1 ≤ kn (aval a) 0 ∧ kn (aval a) 0 ≤ 4294967295)) := by rw [valR, if_neg (by omega), if_pos (by omega)]
  refine x_seq fun K14 hK14 => x_region ?_
  refine s_go s_move ?_
  try simp only [nY]
  refine s_go s_move ?_
  try simp only [nY]
  refine s_part 35 rfl (fun hp9 => ?_) (fun hp9 => ?_)
  ·
   try simp only [n3, n4]
   try simp only [dZ, ne_eq] at hp9
   have hba := hp9
   refine g_on (yi (t := 35) rfl rfl) ?_
   refine s_go (m_fieldAddr U66 (hi := ti64)) ?_
   try simp only [nY, fY, gY]
   refine g_on (yi (t := 35) rfl rfl) ?_
   refine s_go (m_fieldAddr U64 (hi := ti62)) ?_
   try simp only [nY, fY, gY]
   refine g_on (yi (t := 35) rfl rfl) ?_
   refine s_go (m_load_obj U62 (hS := hS) (hv := by exact zi_get rfl (by omega))) ?_
   try simp only [nY, gY]
   rw [aval_0 hal, hv.e0]
   refine g_on (yi (t := 35) rfl rfl) ?_
   refine s_go s_geq ?_
   try simp only [nY]
   refine s_go s_pick_t ?_
   try simp only [nY]
   refine s_go s_move ?_
   try simp only [nY]
   refine s_part 41 rfl (fun hp10 => ?_) (fun hp10 => ?_)
   ·
    try simp only [n3, n4]
    try simp only [dZ, ne_eq] at hp10
    refine g_on (yi (t := 41) rfl rfl) ?_
    refine s_go (m_fieldAddr U66 (hi := ti64)) ?_
    try simp only [nY, fY, gY]
    refine g_on (yi (t := 41) rfl rfl) ?_
    refine s_go (m_fieldAddr U64 (hi := ti62)) ?_
    try simp only [nY, fY, gY]
    refine g_on (yi (t := 41) rfl rfl) ?_
    refine s_go (m_load_obj U62 (hS := hS) (hv := by exact zi_get rfl (by omega))) ?_
    try simp only [nY, gY]
    rw [aval_0 hal, hv.e0]
    refine g_on (yi (t := 41) rfl rfl) ?_
    refine s_go s_leq ?_
    try simp only [nY]
    refine s_go s_pick_t ?_
    try simp only [nY]
    refine s_go s_assign ?_
    try simp only [nY]
    refine x_nil (hK14 _ _ ?_)
    refine x_ret (r_tmp rfl ?_)
    exact ⟨congrArg Value.bool (by rw [hV, hV1, hba, Bool.true_and]; exact decide_eq_decide.2 (by omega)), hS.ext_of⟩
   try simp only [n3, n4]
   try simp only [dZ, ne_eq] at hp10
   refine g_off (yi (t := 41) rfl rfl) ?_
   try simp only [nY]
   refine g_off (yi (t := 41) rfl rfl) ?_
   try simp only [nY]
   refine g_off (yi (t := 41) rfl rfl) ?_
   try simp only [nY]
   refine g_off (yi (t := 41) rfl rfl) ?_
   try simp only [nY]
   refine s_go s_pick_f ?_
   try simp only [nY]
   refine s_go s_assign ?_
   try simp only [nY]
   refine x_nil (hK14 _ _ ?_)
   refine x_ret (r_tmp rfl ?_)
   exact ⟨congrArg Value.bool (by rw [hV, hV1, hba, Bool.true_and]; exact (decide_eq_false (by omega)).symm), hS.ext_of⟩
  try simp only [n3, n4]
  try simp only [dZ, ne_eq] at hp9
  have hba := hp9
  refine g_off (yi (t := 35) rfl rfl) ?_
  try simp only [nY]
  refine g_off (yi (t := 35) rfl rfl) ?_
  try simp only [nY]
  refine g_off (yi (t := 35) rfl rfl) ?_
  try simp only [nY]
  refine g_off (yi (t := 35) rfl rfl) ?_
  try simp only [nY]
  refine s_go s_pick_f ?_
  try simp only [nY]
  refine s_go s_move ?_
  try simp only [nY]
  refine g_off (yi (t := 41) rfl rfl) ?_
  try simp only [nY]
  refine g_off (yi (t := 41) rfl rfl) ?_
  try simp only [nY]
  refine g_off (yi (t := 41) rfl rfl) ?_
  try simp only [nY]
  refine g_off (yi (t := 41) rfl rfl) ?_
  try simp only [nY]
  refine s_go s_pick_f ?_
  try simp only [nY]
  refine s_go s_assign ?_
  try simp only [nY]
  refine x_nil (hK14 _ _ ?_)
  refine x_ret (r_tmp rfl ?_)
  exact ⟨congrArg Value.bool (by rw [hV, hV1, hba, Bool.false_and]), hS.ext_of⟩
 try simp only [dY] at hc5
 try have hV1 : valR (kn a 0) (aval a) = (decide (stampE (kn (aval a) 0) = 0) && (bareV (aval a) || nright (vtext (aval a)))) := by rw [valR, if_neg (by omega), if_neg (by omega), if_pos (by omega)]
 refine x_skip ?_
 refine hK6 _ _ ?_
 refine x_seq fun K15 hK15 => x_region ?_
 refine s_go (m_fieldAddr U66 (hi := ti64)) ?_
 try simp only [nY, fY, gY]
 refine s_go (m_fieldAddr U64 (hi := ti62)) ?_
 try simp only [nY, fY, gY]
 refine s_go (m_load_obj U62 (hS := hS) (hv := by exact zi_get rfl (by omega))) ?_
 try simp only [nY, gY]
 rw [aval_0 hal, hv.e0]
 refine s_go (s_rem (hc := rem_nat)) ?_
 try simp only [nY]
 refine s_go s_lss ?_
 try simp only [nY]
 refine s_go s_move ?_
 try simp only [nY]
 refine s_part 52 rfl (fun hp11 => ?_) (fun hp11 => ?_)
 ·
  try simp only [n3, n4]
  try simp only [dZ, ne_eq] at hp11
  refine g_on (yi (t := 52) rfl rfl) ?_
  refine s_go (m_fieldAddr U66 (hi := ti64)) ?_
  try simp only [nY, fY, gY]
  refine g_on (yi (t := 52) rfl rfl) ?_
  refine s_go (m_fieldAddr U64 (hi := ti62)) ?_
  try simp only [nY, fY, gY]
  refine g_on (yi (t := 52) rfl rfl) ?_
  refine s_go (m_load_obj U62 (hS := hS) (hv := by exact zi_get rfl (by omega))) ?_
  try simp only [nY, gY]
  rw [aval_0 hal, hv.e0]
  refine g_on (yi (t := 52) rfl rfl) ?_
  refine s_go (s_quo (hc := quo_u64 (r := kn (aval a) 0) (p := 256) hvb)) ?_
  try simp only [nY]
  refine g_on (yi (t := 52) rfl rfl) ?_
  refine s_go s_geq ?_
  try simp only [nY]
  refine s_go s_pick_t ?_
  try simp only [nY]
  refine s_go s_move ?_
  try simp only [nY]
  refine s_part 59 rfl (fun hp12 => ?_) (fun hp12 => ?_)
  ·
   try simp only [n3, n4]
   try simp only [dZ, ne_eq] at hp12
   refine g_on (yi (t := 59) rfl rfl) ?_
   refine s_go (m_fieldAddr U66 (hi := ti64)) ?_
   try simp only [nY, fY, gY]
   refine g_on (yi (t := 59) rfl rfl) ?_
   refine s_go (m_fieldAddr U64 (hi := ti62)) ?_
   try simp only [nY, fY, gY]
   refine g_on (yi (t := 59) rfl rfl) ?_
   refine s_go (m_load_obj U62 (hS := hS) (hv := by exact zi_get rfl (by omega))) ?_
   try simp only [nY, gY]
   rw [aval_0 hal, hv.e0]
   refine g_on (yi (t := 59) rfl rfl) ?_
   refine s_go (s_quo (hc := quo_u64 (r := kn (aval a) 0) (p := 256) hvb)) ?_
   try simp only [nY]
   refine g_on (yi (t := 59) rfl rfl) ?_
   refine s_go s_leq ?_
   try simp only [nY]
   refine s_go s_pick_t ?_
   try simp only [nY]
   refine s_go s_move ?_
   try simp only [nY]
   refine s_part 66 rfl (fun hp13 => ?_) (fun hp13 => ?_)
   ·
    try simp only [n3, n4]
    try simp only [dZ, ne_eq] at hp13
    refine g_on (yi (t := 66) rfl rfl) ?_
    refine s_go s_move ?_
    try simp only [nY]
    refine g_on (yi (t := 66) rfl rfl) ?_
    refine s_go s_move ?_
    try simp only [nY]
    refine s_part 68 rfl (fun hp14 => ?_) (fun hp14 => ?_)
    ·
     try simp only [n3, n4]
     try simp only [dZ, ne_eq] at hp14
     have hba := hp14
     refine g_off (yi (t := 68) rfl rfl) ?_
     try simp only [nY]
     refine g_off (yi (t := 68) rfl rfl) ?_
     try simp only [nY]
     refine g_off (yi (t := 68) rfl rfl) ?_
     try simp only [nY]
     refine g_off (yi (t := 68) rfl rfl) ?_
     try simp only [nY]
     refine g_on (yi (t := 66) rfl rfl) ?_
     refine s_go s_pick_t ?_
     try simp only [nY]
     refine s_go s_pick_t ?_
     try simp only [nY]
     refine s_go s_assign ?_
     try simp only [nY]
     refine x_nil (hK15 _ _ ?_)
     refine x_ret (r_tmp rfl ?_)
     exact ⟨congrArg Value.bool (by rw [hV, hV1, decide_eq_true (stampE_0.2 (by omega)), Bool.true_and, hba]; simp), hS.ext_of⟩
    try simp only [n3, n4]
    try simp only [dZ, ne_eq] at hp14
    have hba := hp14
    refine g_on (yi (t := 68) rfl rfl) ?_
    refine s_go (m_fieldAddr U66 (hi := ti64)) ?_
    try simp only [nY, fY, gY]
    refine g_on (yi (t := 68) rfl rfl) ?_
    refine s_go (m_fieldAddr U64 (hi := ti25)) ?_
    try simp only [nY, fY, gY]
    refine g_on (yi (t := 68) rfl rfl) ?_
    refine s_go (m_loada_obj U25 (hi := ti25) (hS := hS) (hfit := by (rw [zi_size (by omega)]; decide))) ?_
    try simp only [nY, gY]
    rw [atom_text hal]
    refine g_on (yi (t := 68) rfl rfl) ?_
    refine s_call en41 ?_
    try simp only [nY, mY]
    refine CallR.mono (c_ref06Right _ htl htb _) ?_
    rintro _ w4 ⟨rfl, hE4⟩
    replace hS := hS.ext hE4
    try simp only [nY]
    refine g_on (yi (t := 66) rfl rfl) ?_
    refine s_go s_pick_f ?_
    try simp only [nY]
    refine s_go s_pick_t ?_
    try simp only [nY]
    refine s_go s_assign ?_
    try simp only [nY]
    refine x_nil (hK15 _ _ ?_)
    refine x_ret (r_tmp rfl ?_)
    exact ⟨congrArg Value.bool (by rw [hV, hV1, decide_eq_true (stampE_0.2 (by omega)), Bool.true_and, hba]; simp), hS.ext_of⟩
   try simp only [n3, n4]
   try simp only [dZ, ne_eq] at hp13
   refine g_off (yi (t := 66) rfl rfl) ?_
   try simp only [nY]
   refine g_off (yi (t := 66) rfl rfl) ?_
   try simp only [nY]
   refine g_un (yn (t := 68) rfl rfl) ?_
   try simp only [nY]
   refine g_un (yn (t := 68) rfl rfl) ?_
   try simp only [nY]
   refine g_un (yn (t := 68) rfl rfl) ?_
   try simp only [nY]
   refine g_un (yn (t := 68) rfl rfl) ?_
   try simp only [nY]
   refine g_off (yi (t := 66) rfl rfl) ?_
   try simp only [nY]
   refine s_go s_pick_f ?_
   try simp only [nY]
   refine s_go s_assign ?_
   try simp only [nY]
   refine x_nil (hK15 _ _ ?_)
   refine x_ret (r_tmp rfl ?_)
   exact ⟨congrArg Value.bool (by rw [hV, hV1, decide_eq_false (fun h => by have := stampE_0.1 h; omega), Bool.false_and]), hS.ext_of⟩
  try simp only [n3, n4]
  try simp only [dZ, ne_eq] at hp12
  refine g_off (yi (t := 59) rfl rfl) ?_
  try simp only [nY]
  refine g_off (yi (t := 59) rfl rfl) ?_
  try simp only [nY]
  refine g_off (yi (t := 59) rfl rfl) ?_
  try simp only [nY]
  refine g_off (yi (t := 59) rfl rfl) ?_
  try simp only [nY]
  refine g_off (yi (t := 59) rfl rfl) ?_
  try simp only [nY]
  refine s_go s_pick_f ?_
  try simp only [nY]
  refine s_go s_move ?_
  try simp only [nY]
  refine g_off (yi (t := 66) rfl rfl) ?_
  try simp only [nY]
  refine g_off (yi (t := 66) rfl rfl) ?_
  try simp only [nY]
  refine g_un (yn (t := 68) rfl rfl) ?_
  try simp only [nY]
  refine g_un (yn (t := 68) rfl rfl) ?_
  try simp only [nY]
  refine g_un (yn (t := 68) rfl rfl) ?_
  try simp only [nY]
  refine g_un (yn (t := 68) rfl rfl) ?_
  try simp only [nY]
  refine g_off (yi (t := 66) rfl rfl) ?_
  try simp only [nY]
  refine s_go s_pick_f ?_
  try simp only [nY]
  refine s_go s_assign ?_
  try simp only [nY]
  refine x_nil (hK15 _ _ ?_)
  refine x_ret (r_tmp rfl ?_)
  exact ⟨congrArg Value.bool (by rw [hV, hV1, decide_eq_false (fun h => by have := stampE_0.1 h; omega), Bool.false_and]), hS.ext_of⟩
 try simp only [n3, n4]
 try simp only [dZ, ne_eq] at hp11
 refine g_off (yi (t := 52) rfl rfl) ?_
 try simp only [nY]
 refine g_off (yi (t := 52) rfl rfl) ?_
 try simp only [nY]
 refine g_off (yi (t := 52) rfl rfl) ?_
 try simp only [nY]
 refine g_off (yi (t := 52) rfl rfl) ?_
 try simp only [nY]
 refine g_off (yi (t := 52) rfl rfl) ?_
 try simp only [nY]
 refine s_go s_pick_f ?_
 try simp only [nY]
 refine s_go s_move ?_
 try simp only [nY]
 refine g_off (yi (t := 59) rfl rfl) ?_
 try simp only [nY]
 refine g_off (yi (t := 59) rfl rfl) ?_
 try simp only [nY]
 refine g_off (yi (t := 59) rfl rfl) ?_
 try simp only [nY]
 refine g_off (yi (t := 59) rfl rfl) ?_
 try simp only [nY]
 refine g_off (yi (t := 59) rfl rfl) ?_
 try simp only [nY]
 refine s_go s_pick_f ?_
 try simp only [nY]
 refine s_go s_move ?_
 try simp only [nY]
 refine g_off (yi (t := 66) rfl rfl) ?_
 try simp only [nY]
 refine g_off (yi (t := 66) rfl rfl) ?_
 try simp only [nY]
 refine g_un (yn (t := 68) rfl rfl) ?_
 try simp only [nY]
 refine g_un (yn (t := 68) rfl rfl) ?_
 try simp only [nY]
 refine g_un (yn (t := 68) rfl rfl) ?_
 try simp only [nY]
 refine g_un (yn (t := 68) rfl rfl) ?_
 try simp only [nY]
 refine g_off (yi (t := 66) rfl rfl) ?_
 try simp only [nY]
 refine s_go s_pick_f ?_
 try simp only [nY]
 refine s_go s_assign ?_
 try simp only [nY]
 refine x_nil (hK15 _ _ ?_)
 refine x_ret (r_tmp rfl ?_)
 exact ⟨congrArg Value.bool (by rw [hV, hV1, decide_eq_false (fun h => by have := stampE_0.1 h; omega), Bool.false_and]), hS.ext_of⟩
end Go.Proofs.YtpekghaodmeemaaGreat
set_option linter.unusedSimpArgs false
set_option linter.unusedVariables false
set_option maxHeartbeats 800000
set_option maxRecDepth 100000
namespace Go.Proofs.YtpekghaodmeemaaGreat
open Go.RowKit
theorem c_keyLess (x y : List Int) (hk : KeyOk x) (hy : KeyOk y)  (w0 : World) :
    CallR Tryz.prog 127 #[.agg (KA x), .agg (KA y)] w0 fun v w' => v = .bool (keyLt x y) ∧ Ext w0 w' := by
 have hS : St NoB w0 w0 [] := St.start w0
 refine c_enter (l := [.agg (KA x), .agg (KA y), undef, undef, undef, undef, undef, undef, undef, undef, undef, undef, undef, undef, undef, undef, undef, undef, undef, undef, undef, undef, undef, undef, undef, undef, undef, undef, undef, undef, undef]) Tryz.func127 rfl (by simp only [Tryz.ntmps127, List.size_toArray, List.length_cons, List.length_nil, Nat.reduceAdd, Nat.reduceSub, Array.replicate_succ, Array.replicate_zero, List.push_toArray, List.append_toArray, List.nil_append, List.cons_append]) ?_
 refine x_seq fun K1 hK1 => x_region ?_
 have hkl := hk.len
 have hyl := hy.len
 have hwx : (wordsL x).length = 3 := rfl
 have hwy : (wordsL y).length = 3 := rfl
 refine m_box hS (fun w1 g1 hS => ?_)
 try simp only [nY, aY] at hS ⊢
 refine m_box hS (fun w2 g2 hS => ?_)
 try simp only [nY, aY] at hS ⊢
 refine s_go s_assign ?_
 try simp only [nY]
 refine x_nil (hK1 _ _ ?_)
 refine x_seq fun K2 hK2 => ?_
 refine x_mixed_f [] 0 [5, 6, 8, 9, 10, 11] (fun f w => ∃ p q : Nat, f 5 = .pointer (some ⟨p, 0, none⟩) ∧ f 6 = .pointer (some ⟨q, 0, none⟩) ∧ St NoB w0 w [.obj q (.cells (ic .u64 (wordsL y)) 100 (0, 0)), .obj p (.cells (ic .u64 (wordsL x)) 100 (0, 0))]) (by kernel_rfl) (by kernel_rfl) (by kernel_rfl) (by decide) hS (fun w3 hS => ?mixpre101) ?mixrest101
 case mixpre101 =>
  refine p_nil ?_
  simp only [List.length_cons, List.length_nil, Nat.reduceAdd, Nat.reduceSub]
  refine any_gn 0 rfl (go_yields w_none (fun w hS => m_load_row U61 (hi := ti61) (hS := hS) (hfit := by (rw [zi_size (by omega)]; rfl)))) ?_
  try simp only [nY, gY]
  apply any_gn 1 rfl (call_yields w_none en140 ?H1) ?K1
  case H1 =>
    intro w hS
    try simp only [nY, mY]
    refine CallR.mono (c_keyWords x hk _) ?_
    rintro _ w1 ⟨rfl, hE⟩; exact ⟨rfl, hE⟩
  try simp only [nY]
  refine any_gn 2 rfl (go_yields w_none (fun w hS => m_load_row U61 (hi := ti61) (hS := hS) (hfit := by (rw [zi_size (by omega)]; rfl)))) ?_
  try simp only [nY, gY]
  apply any_gn 3 rfl (call_yields w_none en140 ?H2) ?K2
  case H2 =>
    intro w hS
    try simp only [nY, mY]
    refine CallR.mono (c_keyWords y hy _) ?_
    rintro _ w1 ⟨rfl, hE⟩; exact ⟨rfl, hE⟩
  try simp only [nY]
  refine any_step [4, 5] (by kernel_rfl) (by decide) (fun w4 hE => ⟨fun _ => (hS.ext hE).sel (by repeat (first | exact Sel.nil | (refine Sel.cons (by repeat (exact Del.head)) ?_))), ?_⟩)
  replace hS := hS.ext hE
  intro i hi
  simp only [List.mem_cons, List.not_mem_nil, or_false] at hi
  rcases hi with rfl | rfl
  ·
   refine any_op (by rfl) ?_
   refine m_alloc ti100 hS (fun w5 g5 hS => ?_)
   try simp only [nY, aY] at hS ⊢
   refine x_nil ?_
   refine any_step [5] (by kernel_rfl) (by decide) (fun w6 hE => ⟨fun _ => (hS.ext hE).sel (by repeat (first | exact Sel.nil | (refine Sel.cons (by repeat (first | exact Del.head | apply Del.tail)) ?_))), ?_⟩)
   replace hS := hS.ext hE
   intro i hi
   simp only [List.mem_cons, List.not_mem_nil, or_false] at hi
   subst hi
   refine any_op (by rfl) ?_
   refine m_alloc ti100 hS (fun w7 g7 hS => ?_)
   try simp only [nY, aY] at hS ⊢
   refine x_nil ?_
   refine any_step [6] (by kernel_rfl) (by decide) (fun w8 hE => ⟨fun _ => (hS.ext hE).sel (by repeat (first | exact Sel.nil | (refine Sel.cons (by repeat (first | exact Del.head | apply Del.tail)) ?_))), ?_⟩)
   replace hS := hS.ext hE
   intro i hi
   simp only [List.mem_cons, List.not_mem_nil, or_false] at hi
   subst hi
   refine any_op (by rfl) ?_
   refine m_store_obj ti100 (hS := hS) (hc := by (exact splice_whole (by (simp [opv, Value.cells, *]; done)))) (hv := by rfl) (hfit := by (simp only [ic_size, List.length_map, List.size_toArray]; decide)) (h1 := by exact ic_one _ _) (h := fun w9 hS => ?_)
   try simp only [nY, aY] at hS ⊢
   refine x_nil ?_
   refine any_step [7] (by kernel_rfl) (by decide) (fun w10 hE => ⟨fun _ => (hS.ext hE).sel (by repeat (first | exact Sel.nil | (refine Sel.cons (by repeat (first | exact Del.head | apply Del.tail)) ?_))), ?_⟩)
   replace hS := hS.ext hE
   intro i hi
   simp only [List.mem_cons, List.not_mem_nil, or_false] at hi
   subst hi
   refine any_op (by rfl) ?_
   refine m_store_obj ti100 (hS := hS) (hc := by (exact splice_whole (by (simp [opv, Value.cells, *]; done)))) (hv := by rfl) (hfit := by (simp only [ic_size, List.length_map, List.size_toArray]; decide)) (h1 := by exact ic_one _ _) (h := fun w11 hS => ?_)
   try simp only [nY, aY] at hS ⊢
   refine x_nil ?_
   refine any_nil (by kernel_rfl) (fun w12 hE => ?_)
   replace hS := hS.ext hE
   refine ⟨fun _ => hS.selA, ?_⟩
   refine mix_leaf (by simp only [clob, List.foldl, nZ]) ?_
   try simp only [n1, n2]
   exact ⟨_, _, rfl, rfl, hS.sel (by repeat (first | exact Sel.nil | (refine Sel.cons (by repeat (exact Del.head)) ?_)))⟩
  refine any_op (by rfl) ?_
  refine m_alloc ti100 hS (fun w13 g13 hS => ?_)
  try simp only [nY, aY] at hS ⊢
  refine x_nil ?_
  refine any_step [4] (by kernel_rfl) (by decide) (fun w14 hE => ⟨fun _ => (hS.ext hE).sel (by repeat (first | exact Sel.nil | (refine Sel.cons (by repeat (first | exact Del.head | apply Del.tail)) ?_))), ?_⟩)
  replace hS := hS.ext hE
  intro i hi
  simp only [List.mem_cons, List.not_mem_nil, or_false] at hi
  subst hi
  refine any_op (by rfl) ?_
  refine m_alloc ti100 hS (fun w15 g15 hS => ?_)
  try simp only [nY, aY] at hS ⊢
  refine x_nil ?_
  refine any_step [6] (by kernel_rfl) (by decide) (fun w16 hE => ⟨fun _ => (hS.ext hE).sel (by repeat (first | exact Sel.nil | (refine Sel.cons (by repeat (first | exact Del.head | apply Del.tail)) ?_))), ?_⟩)
  replace hS := hS.ext hE
  intro i hi
  simp only [List.mem_cons, List.not_mem_nil, or_false] at hi
  subst hi
  refine any_op (by rfl) ?_
  refine m_store_obj ti100 (hS := hS) (hc := by (exact splice_whole (by (simp [opv, Value.cells, *]; done)))) (hv := by rfl) (hfit := by (simp only [ic_size, List.length_map, List.size_toArray]; decide)) (h1 := by exact ic_one _ _) (h := fun w17 hS => ?_)
  try simp only [nY, aY] at hS ⊢
  refine x_nil ?_
  refine any_step [7] (by kernel_rfl) (by decide) (fun w18 hE => ⟨fun _ => (hS.ext hE).sel (by repeat (first | exact Sel.nil | (refine Sel.cons (by repeat (first | exact Del.head | apply Del.tail)) ?_))), ?_⟩)
  replace hS := hS.ext hE
  intro i hi
  simp only [List.mem_cons, List.not_mem_nil, or_false] at hi
  subst hi
  refine any_op (by rfl) ?_
  refine m_store_obj ti100 (hS := hS) (hc := by (exact splice_whole (by (simp [opv, Value.cells, *]; done)))) (hv := by rfl) (hfit := by (simp only [ic_size, List.length_map, List.size_toArray]; decide)) (h1 := by exact ic_one _ _) (h := fun w19 hS => ?_)
  try simp only [nY, aY] at hS ⊢
  refine x_nil ?_
  refine any_nil (by kernel_rfl) (fun w20 hE => ?_)
  replace hS := hS.ext hE
  refine ⟨fun _ => hS.selA, ?_⟩
  refine mix_leaf (by simp only [clob, List.foldl, nZ]) ?_
  try simp only [n1, n2]
  exact ⟨_, _, rfl, rfl, hS.selA⟩
 intro fm1 w21 hM
 obtain ⟨p, q, h5, h6, hS⟩ := hM
 simp only [clob, List.foldl, n3, n4, h5, h6]
 refine hK2 _ _ ?_
 refine x_seq fun K3 hK3 => ?_
 refine x_seq fun K4 hK4 => x_region ?_
 refine s_go (m_load_row U100 (hi := ti100) (hS := hS) (hfit := by (simp only [ic_size, List.length_map, List.size_toArray]; omega))) ?_
 try simp only [nY, gY]
 refine s_go (m_load_row U100 (hi := ti100) (hS := hS) (hfit := by (simp only [ic_size, List.length_map, List.size_toArray]; omega))) ?_
 try simp only [nY, gY]
 refine s_go (s_eql_agg eqv100 (hg := eg100) (hX := zi_ic (by rfl)) (hY := zi_ic (by rfl)) (h1 := by rfl) (h2 := by rfl)) ?_
 try simp only [nY]
 refine x_nil (hK4 _ _ ?_)
 refine x_cond (ht := fun hc1 => ?_) (hf := fun hc1 => ?_)
 ·
  try simp only [dY] at hc1
  refine x_seq fun K5 hK5 => x_region ?_
  refine s_go s_assign ?_
  try simp only [nY]
  refine x_nil (hK5 _ _ ?_)
  refine x_ret (r_tmp rfl ?_)
  exact ⟨congrArg Value.bool (by rw [keyLt, hc1, lexLt_same]), hS.ext_of⟩
 try simp only [dY] at hc1
 refine x_skip ?_
 refine hK3 _ _ ?_
 refine x_seq fun K6 hK6 => x_region ?_
 refine s_go s_assign ?_
 try simp only [nY]
 refine x_nil (hK6 _ _ ?_)
 refine x_seq fun K7 hK7 => ?_
 refine x_block ?_
 refine x_loop [7, 15, 16, 17, 18, 19, 20, 21, 22, 23] (fun m f w => ∃ k : Nat, k ≤ 2 ∧ m = 3 - k ∧ f 7 = .int .i64 (k : Int) ∧ (∀ j, j < k → (wordsL x).getD j 0 = (wordsL y).getD j 0) ∧ St NoB w0 w [.obj q (.cells (ic .u64 (wordsL y)) 100 (0, 0)), .obj p (.cells (ic .u64 (wordsL x)) 100 (0, 0))]) (3) ?init1 (fun m1 f1 wl1 hI => ?_)
 case init1 =>
  try simp only [nY]
  exact ⟨0, by omega, rfl, rfl, fun j hj => absurd hj (by omega), hS⟩
 obtain ⟨k, hkk, hm, h7, hz, hS⟩ := hI
 simp only [clob, List.foldl, n3, n4, h7]
 refine x_seq fun K8 hK8 => ?_
 refine x_seq fun K9 hK9 => ?_
 refine x_quiet (by kernel_rfl) (by kernel_rfl) hS ?_
 refine q_go (fun w hS => s_move) ?_
 try simp only [nY]
 refine q_go (fun w hS => m_indexAddr_arr U100 ti62) ?_
 try simp only [nY, Nat.mul_one, Nat.zero_add, Int.toNat_natCast, Int.reduceToNat]
 refine q_go (fun w hS => m_load_obj U62 (hS := hS) (hv := by exact ic_get (by omega))) ?_
 try simp only [nY, gY]
 refine q_go (fun w hS => s_move) ?_
 try simp only [nY]
 refine q_go (fun w hS => m_indexAddr_arr U100 ti62) ?_
 try simp only [nY, Nat.mul_one, Nat.zero_add, Int.toNat_natCast, Int.reduceToNat]
 refine q_go (fun w hS => m_load_obj U62 (hS := hS) (hv := by exact ic_get (by omega))) ?_
 try simp only [nY, gY]
 refine q_go (fun w hS => s_eql) ?_
 try simp only [nY]
 clear hS
 refine q_nil fun w22 hS => ?_
 refine hK9 _ _ ?_
 refine x_cond (ht := fun hc2 => ?_) (hf := fun hc2 => ?_)
 ·
  try simp only [dY] at hc2
  have hz1 : ∀ j, j < k + 1 → (wordsL x).getD j 0 = (wordsL y).getD j 0 := fun j hj => by rcases Nat.lt_or_eq_of_le (Nat.le_of_lt_succ hj) with h | h; exact hz j h; subst h; exact hc2
  have hk2 : k ≠ 2 := fun h2 => hc1 (w3_ext hwx hwy fun j hj => hz1 j (by omega))
  refine x_skip ?_
  refine hK8 _ _ ?_
  refine x_block ?_
  refine x_region ?_
  refine s_go s_move ?_
  try simp only [nY]
  refine s_go (s_add (hc := by exact wr_i64 (by omega) (by omega))) ?_
  try simp only [nY]
  refine s_go s_assign ?_
  try simp only [nY]
  refine x_nil ?_
  refine loop_back (m' := 3 - (k + 1)) (by simp only [clob, List.foldl, nZ]) ?_ ?_
  · try simp only [nY]
    exact ⟨k + 1, by omega, by omega, by rfl, hz1, hS⟩
  · omega
 try simp only [dY] at hc2
 refine x_exit (look_here ?_)
 refine hK7 _ _ ?_
 refine x_seq fun K10 hK10 => ?_
 refine x_quiet (by kernel_rfl) (by kernel_rfl) hS ?_
 refine q_go (fun w hS => s_move) ?_
 try simp only [nY]
 refine q_go (fun w hS => m_indexAddr_arr U100 ti62) ?_
 try simp only [nY, Nat.mul_one, Nat.zero_add, Int.toNat_natCast, Int.reduceToNat]
 refine q_go (fun w hS => m_load_obj U62 (hS := hS) (hv := by exact ic_get (by omega))) ?_
 try simp only [nY, gY]
 refine q_go (fun w hS => s_move) ?_
 try simp only [nY]
 refine q_go (fun w hS => m_indexAddr_arr U100 ti62) ?_
 try simp only [nY, Nat.mul_one, Nat.zero_add, Int.toNat_natCast, Int.reduceToNat]
 refine q_go (fun w hS => m_load_obj U62 (hS := hS) (hv := by exact ic_get (by omega))) ?_
 try simp only [nY, gY]
 refine q_go (fun w hS => s_lss) ?_
 try simp only [nY]
 refine q_go (fun w hS => s_assign) ?_
 try simp only [nY]
 clear hS
 refine q_nil fun w23 hS => ?_
 refine hK10 _ _ ?_
 refine x_ret (r_tmp rfl ?_)
 exact ⟨congrArg Value.bool (by rw [keyLt]; exact (lexLt_at (by omega) (by omega) hz hc2).symm), hS.ext_of⟩
theorem c_ref08Less (x y : List Int) (hk : KeyOk x) (hy : KeyOk y)  (w0 : World) :
    CallR Tryz.prog 36 #[.agg (KA x), .agg (KA y)] w0 fun v w' => v = .bool (keyLt x y) ∧ Ext w0 w' := by
 have hS : St NoB w0 w0 [] := St.start w0
 refine c_enter (l := [.agg (KA x), .agg (KA y), undef, undef, undef, undef, undef, undef, undef, undef, undef, undef, undef, undef, undef, undef, undef, undef, undef, undef, undef, undef, undef, undef, undef, undef, undef, undef, undef, undef]) Tryz.func36 rfl (by simp only [Tryz.ntmps36, List.size_toArray, List.length_cons, List.length_nil, Nat.reduceAdd, Nat.reduceSub, Array.replicate_succ, Array.replicate_zero, List.push_toArray, List.append_toArray, List.nil_append, List.cons_append]) ?_
 refine x_seq fun K1 hK1 => x_region ?_
 have hkl := hk.len
 have hyl := hy.len
 have hwx : (wordsL x).length = 3 := rfl
 have hwy : (wordsL y).length = 3 := rfl
 refine m_box hS (fun w1 g1 hS => ?_)
 try simp only [nY, aY] at hS ⊢
 refine m_box hS (fun w2 g2 hS => ?_)
 try simp only [nY, aY] at hS ⊢
 refine s_go s_assign ?_
 try simp only [nY]
 refine x_nil (hK1 _ _ ?_)
 refine x_seq fun K2 hK2 => ?_
 refine x_mixed_f [] 0 [5, 6, 8, 9, 10, 11] (fun f w => ∃ p q : Nat, f 5 = .pointer (some ⟨p, 0, none⟩) ∧ f 6 = .pointer (some ⟨q, 0, none⟩) ∧ St NoB w0 w [.obj q (.cells (ic .u64 (wordsL y)) 100 (0, 0)), .obj p (.cells (ic .u64 (wordsL x)) 100 (0, 0))]) (by kernel_rfl) (by kernel_rfl) (by kernel_rfl) (by decide) hS (fun w3 hS => ?mixpre101) ?mixrest101
 case mixpre101 =>
  refine p_nil ?_
  simp only [List.length_cons, List.length_nil, Nat.reduceAdd, Nat.reduceSub]
  refine any_gn 0 rfl (go_yields w_none (fun w hS => m_load_row U61 (hi := ti61) (hS := hS) (hfit := by (rw [zi_size (by omega)]; rfl)))) ?_
  try simp only [nY, gY]
  apply any_gn 1 rfl (call_yields w_none en66 ?H1) ?K1
  case H1 =>
    intro w hS
    try simp only [nY, mY]
    refine CallR.mono (c_ref08Words x hk _) ?_
    rintro _ w1 ⟨rfl, hE⟩; exact ⟨rfl, hE⟩
  try simp only [nY]
  refine any_gn 2 rfl (go_yields w_none (fun w hS => m_load_row U61 (hi := ti61) (hS := hS) (hfit := by (rw [zi_size (by omega)]; rfl)))) ?_
  try simp only [nY, gY]
  apply any_gn 3 rfl (call_yields w_none en66 ?H2) ?K2
  case H2 =>
    intro w hS
    try simp only [nY, mY]
    refine CallR.mono (c_ref08Words y hy _) ?_
    rintro _ w1 ⟨rfl, hE⟩; exact ⟨rfl, hE⟩
  try simp only [nY]
  refine any_step [4, 5] (by kernel_rfl) (by decide) (fun w4 hE => ⟨fun _ => (hS.ext hE).sel (by repeat (first | exact Sel.nil | (refine Sel.cons (by repeat (exact Del.head)) ?_))), ?_⟩)
  replace hS := hS.ext hE
  intro i hi
  simp only [List.mem_cons, List.not_mem_nil, or_false] at hi
  rcases hi with rfl | rfl
  ·
   refine any_op (by rfl) ?_
   refine m_alloc ti100 hS (fun w5 g5 hS => ?_)
   try simp only [nY, aY] at hS ⊢
   refine x_nil ?_
   refine any_step [5] (by kernel_rfl) (by decide) (fun w6 hE => ⟨fun _ => (hS.ext hE).sel (by repeat (first | exact Sel.nil | (refine Sel.cons (by repeat (first | exact Del.head | apply Del.tail)) ?_))), ?_⟩)
   replace hS := hS.ext hE
   intro i hi
   simp only [List.mem_cons, List.not_mem_nil, or_false] at hi
   subst hi
   refine any_op (by rfl) ?_
   refine m_alloc ti100 hS (fun w7 g7 hS => ?_)
   try simp only [nY, aY] at hS ⊢
   refine x_nil ?_
   refine any_step [6] (by kernel_rfl) (by decide) (fun w8 hE => ⟨fun _ => (hS.ext hE).sel (by repeat (first | exact Sel.nil | (refine Sel.cons (by repeat (first | exact Del.head | apply Del.tail)) ?_))), ?_⟩)
   replace hS := hS.ext hE
   intro i hi
   simp only [List.mem_cons, List.not_mem_nil, or_false] at hi
   subst hi
   refine any_op (by rfl) ?_
   refine m_store_obj ti100 (hS := hS) (hc := by (exact splice_whole (by (simp [opv, Value.cells, *]; done)))) (hv := by rfl) (hfit := by (simp only [ic_size, List.length_map, List.size_toArray]; decide)) (h1 := by exact ic_one _ _) (h := fun w9 hS => ?_)
   try simp only [nY, aY] at hS ⊢
   refine x_nil ?_
   refine any_step [7] (by kernel_rfl) (by decide) (fun w10 hE => ⟨fun _ => (hS.ext hE).sel (by repeat (first | exact Sel.nil | (refine Sel.cons (by repeat (first | exact Del.head | apply Del.tail)) ?_))), ?_⟩)
   replace hS := hS.ext hE
   intro i hi
   simp only [List.mem_cons, List.not_mem_nil, or_false] at hi
   subst hi
   refine any_op (by rfl) ?_
   refine m_store_obj ti100 (hS := hS) (hc := by (exact splice_whole (by (simp [opv, Value.cells, *]; done)))) (hv := by rfl) (hfit := by (simp only [ic_size, List.length_map, List.size_toArray]; decide)) (h1 := by exact ic_one _ _) (h := fun w11 hS => ?_)
   try simp only [nY, aY] at hS ⊢
   refine x_nil ?_
   refine any_nil (by kernel_rfl) (fun w12 hE => ?_)
   replace hS := hS.ext hE
   refine ⟨fun _ => hS.selA, ?_⟩
   refine mix_leaf (by simp only [clob, List.foldl, nZ]) ?_
   try simp only [n1, n2]
   exact ⟨_, _, rfl, rfl, hS.sel (by repeat (first | exact Sel.nil | (refine Sel.cons (by repeat (exact Del.head)) ?_)))⟩
  refine any_op (by rfl) ?_
  refine m_alloc ti100 hS (fun w13 g13 hS => ?_)
  try simp only [nY, aY] at hS ⊢
  refine x_nil ?_
  refine any_step [4] (by kernel_rfl) (by decide) (fun w14 hE => ⟨fun _ => (hS.ext hE).sel (by repeat (first | exact Sel.nil | (refine Sel.cons (by repeat (first | exact Del.head | apply Del.tail)) ?_))), ?_⟩)
  replace hS := hS.ext hE
  intro i hi
  simp only [List.mem_cons, List.not_mem_nil, or_false] at hi
  subst hi
  refine any_op (by rfl) ?_
  refine m_alloc ti100 hS (fun w15 g15 hS => ?_)
  try simp only [nY, aY] at hS ⊢
  refine x_nil ?_
  refine any_step [6] (by kernel_rfl) (by decide) (fun w16 hE => ⟨fun _ => (hS.ext hE).sel (by repeat (first | exact Sel.nil | (refine Sel.cons (by repeat (first | exact Del.head | apply Del.tail)) ?_))), ?_⟩)
  replace hS := hS.ext hE
  intro i hi
  simp only [List.mem_cons, List.not_mem_nil, or_false] at hi
  subst hi
  refine any_op (by rfl) ?_
  refine m_store_obj ti100 (hS := hS) (hc := by (exact splice_whole (by (simp [opv, Value.cells, *]; done)))) (hv := by rfl) (hfit := by (simp only [ic_size, List.length_map, List.size_toArray]; decide)) (h1 := by exact ic_one _ _) (h := fun w17 hS => ?_)
  try simp only [nY, aY] at hS ⊢
  refine x_nil ?_
  refine any_step [7] (by kernel_rfl) (by decide) (fun w18 hE => ⟨fun _ => (hS.ext hE).sel (by repeat (first | exact Sel.nil | (refine Sel.cons (by repeat (first | exact Del.head | apply Del.tail)) ?_))), ?_⟩)
  replace hS := hS.ext hE
  intro i hi
  simp only [List.mem_cons, List.not_mem_nil, or_false] at hi
  subst hi
  refine any_op (by rfl) ?_
  refine m_store_obj ti100 (hS := hS) (hc := by (exact splice_whole (by (simp [opv, Value.cells, *]; done)))) (hv := by rfl) (hfit := by (simp only [ic_size, List.length_map, List.size_toArray]; decide)) (h1 := by exact ic_one _ _) (h := fun w19 hS => ?_)
  try simp only [nY, aY] at hS ⊢
  refine x_nil ?_
  refine any_nil (by kernel_rfl) (fun w20 hE => ?_)
  replace hS := hS.ext hE
  refine ⟨fun _ => hS.selA, ?_⟩
  refine mix_leaf (by simp only [clob, List.foldl, nZ]) ?_
  try simp only [n1, n2]
  exact ⟨_, _, rfl, rfl, hS.selA⟩
 intro fm1 w21 hM
 obtain ⟨p, q, h5, h6, hS⟩ := hM
 simp only [clob, List.foldl, n3, n4, h5, h6]
 refine hK2 _ _ ?_
 refine x_seq fun K3 hK3 => ?_
 refine x_seq fun K4 hK4 => x_region ?_
 refine s_go s_assign ?_
 try simp only [nY]
 refine x_nil (hK4 _ _ ?_)
 refine x_block ?_
 refine x_loop [4, 7, 12, 13, 14, 15, 16, 17, 18, 19, 20, 21, 22, 23, 24, 25, 26, 27, 28, 29] (fun m f w => ∃ k : Nat, k ≤ 3 ∧ m = 3 - k ∧ f 7 = .int .i64 (k : Int) ∧ (∀ j, j < k → (wordsL x).getD j 0 = (wordsL y).getD j 0) ∧ St NoB w0 w [.obj q (.cells (ic .u64 (wordsL y)) 100 (0, 0)), .obj p (.cells (ic .u64 (wordsL x)) 100 (0, 0))]) (3) ?init1 (fun m1 f1 wl1 hI => ?_)
 case init1 =>
  try simp only [nY]
  exact ⟨0, by omega, rfl, rfl, fun j hj => absurd hj (by omega), hS⟩
 obtain ⟨k, hkk, hm, h7, hz, hS⟩ := hI
 simp only [clob, List.foldl, n3, n4, h7]
 refine x_seq fun K5 hK5 => ?_
 refine x_seq fun K6 hK6 => x_region ?_
 refine s_go s_move ?_
 try simp only [nY]
 refine s_go s_lss ?_
 try simp only [nY]
 refine x_nil (hK6 _ _ ?_)
 refine x_cond (ht := fun hc1 => ?_) (hf := fun hc1 => ?_)
 ·
  try simp only [dY] at hc1
  refine x_skip ?_
  refine hK5 _ _ ?_
  refine x_seq fun K7 hK7 => ?_
  refine x_block ?_
  refine x_seq fun K8 hK8 => ?_
  refine x_quiet (by kernel_rfl) (by kernel_rfl) hS ?_
  refine q_go (fun w hS => s_move) ?_
  try simp only [nY]
  refine q_go (fun w hS => m_indexAddr_arr U100 ti62) ?_
  try simp only [nY, Nat.mul_one, Nat.zero_add, Int.toNat_natCast, Int.reduceToNat]
  refine q_go (fun w hS => m_load_obj U62 (hS := hS) (hv := by exact ic_get (by omega))) ?_
  try simp only [nY, gY]
  refine q_go (fun w hS => s_move) ?_
  try simp only [nY]
  refine q_go (fun w hS => m_indexAddr_arr U100 ti62) ?_
  try simp only [nY, Nat.mul_one, Nat.zero_add, Int.toNat_natCast, Int.reduceToNat]
  refine q_go (fun w hS => m_load_obj U62 (hS := hS) (hv := by exact ic_get (by omega))) ?_
  try simp only [nY, gY]
  refine q_go (fun w hS => s_neq) ?_
  try simp only [nY]
  clear hS
  refine q_nil fun w22 hS => ?_
  refine hK8 _ _ ?_
  refine x_cond (ht := fun hc2 => ?_) (hf := fun hc2 => ?_)
  ·
   try simp only [dY] at hc2
   refine x_seq fun K9 hK9 => ?_
   refine x_quiet (by kernel_rfl) (by kernel_rfl) hS ?_
   refine q_go (fun w hS => s_move) ?_
   try simp only [nY]
   refine q_go (fun w hS => m_indexAddr_arr U100 ti62) ?_
   try simp only [nY, Nat.mul_one, Nat.zero_add, Int.toNat_natCast, Int.reduceToNat]
   refine q_go (fun w hS => m_load_obj U62 (hS := hS) (hv := by exact ic_get (by omega))) ?_
   try simp only [nY, gY]
   refine q_go (fun w hS => s_move) ?_
   try simp only [nY]
   refine q_go (fun w hS => m_indexAddr_arr U100 ti62) ?_
   try simp only [nY, Nat.mul_one, Nat.zero_add, Int.toNat_natCast, Int.reduceToNat]
   refine q_go (fun w hS => m_load_obj U62 (hS := hS) (hv := by exact ic_get (by omega))) ?_
   try simp only [nY, gY]
   refine q_go (fun w hS => s_lss) ?_
   try simp only [nY]
   refine q_go (fun w hS => s_assign) ?_
   try simp only [nY]
   clear hS
   refine q_nil fun w23 hS => ?_
   refine hK9 _ _ ?_
   refine x_ret (r_tmp rfl ?_)
   exact ⟨congrArg Value.bool (by rw [keyLt]; exact (lexLt_at (by omega) (by omega) hz hc2).symm), hS.ext_of⟩
  try simp only [dY] at hc2
  refine x_skip ?_
  refine hK7 _ _ ?_
  refine x_region ?_
  refine s_go s_move ?_
  try simp only [nY]
  refine s_go (s_add (hc := by exact wr_i64 (by omega) (by omega))) ?_
  try simp only [nY]
  refine s_go s_assign ?_
  try simp only [nY]
  refine x_nil ?_
  refine loop_back (m' := 3 - (k + 1)) (by simp only [clob, List.foldl, nZ]) ?_ ?_
  · try simp only [nY]
    exact ⟨k + 1, by omega, by omega, by rfl, fun j hj => by rcases Nat.lt_or_eq_of_le (Nat.le_of_lt_succ hj) with h | h; exact hz j h; subst h; exact hc2, hS⟩
  · omega
 try simp only [dY] at hc1
 refine x_exit (look_here ?_)
 refine hK3 _ _ ?_
 refine x_seq fun K10 hK10 => x_region ?_
 refine s_go s_assign ?_
 try simp only [nY]
 refine x_nil (hK10 _ _ ?_)
 refine x_ret (r_tmp rfl ?_)
 exact ⟨congrArg Value.bool (by rw [keyLt, lexLt_eq (by rw [hwx, hwy]) (fun j hj => hz j (by omega))]), hS.ext_of⟩
end Go.Proofs.YtpekghaodmeemaaGreat
namespace Go.Proofs.YtpekghaodmeemaaGreat
open Go.RowKit
section
variable {P : Program} {ops : Array Oper} {Q : Exit → Act → World → Prop} {rest : List Oper} {l : List Value} {w : World} {d : Nat} {ty : TypeId} {pos : String} {aft : Array Edge}
variable {S : Nat → Prop} {w0 : World} {L L' : List Res}
end
section
variable {P : Program} {n r : Act → World → Prop} {ex : List (Nat × (Act → World → Prop))} {w : World} {l : List Value} {S : Nat → Prop} {w0 : World} {L : List Res} {A : Option Addr}
/-- a region that draws its order, whose quiet operations lean on some of what is owned alone -/
theorem x_mixed_c {id : Nat} {ops : List Oper} {Lc : List Res} (lt : List Nat) (m : Nat) (V : List Nat) (R : (Nat → Value) → World → Prop) (hm : P.follows .mixedOrders = true) (hs : Region.noSelect ops.toArray = true) (hB : preB .any ops.toArray lt m 0 (Array.replicate ops.length false) = true) (hml : m ≤ ops.length)
    (hS : St S w0 w L) (h : ∀ w', St S w0 w' L → wpPre P ops.toArray (fun w => St S w0 w Lc) (fun a' => AnyE P .any ops.toArray (fun w => St S w0 w Lc) lt (Qx (MixM l V R) r ex) (ops.length - m) (setAll m 0 (Array.replicate ops.length false)) a' w') (ops.take m) (fr l))
    (hM : ∀ f w', R f w' → n (fr (clob l V f)) w') : (Code.region id ops.toArray true).wp P (Qx n r ex) (fr l) w := by
  refine wp_mono ?_ (fun e a w q => ?_) (Q := Qx (MixM l V R) r ex)
  · refine wp_region_any hm (AnyE.any (C := fun w => St S w0 w Lc) (lt := lt) _ ?_)
    have hlen : (ops.take m).length = m := by simp; omega
    have := AnyE.pre (P := P) (md := .any) (ops := ops.toArray) (C := fun w => St S w0 w Lc) (lt := lt) (Q := Qx (MixM l V R) r ex) hs (fun _ _ _ => Qx_panic) (ops.length - m) w.drew (ops.take m) 0 (Array.replicate ops.length false) (fr l) (fun k _ => by simp [Array.getD_eq_getD_getElem?, Array.getElem?_replicate]; split <;> rfl) (fun j hj => by
      rw [List.getElem?_take, if_pos (by omega)]; simp) (by rw [hlen]; exact hB) (by rw [hlen]; exact h _ (hS.ext (Ext.drew w)))
    rw [hlen, show ops.length - m + m = ops.length by omega] at this
    simpa using this
  · cases e with
    | normal => obtain ⟨f, e, hR⟩ := q; subst e; exact hM f _ hR
    | _ => exact q
/-- ways meet -/
theorem x_seq_j {x y : Code} (V : List Nat) (R : (Nat → Value) → World → Prop) (h : x.wp P (Qx (MixM l V R) r ex) (fr l) w) (hj : ∀ f w', R f w' → y.wp P (Qx n r ex) (fr (clob l V f)) w') : (Code.seq x y).wp P (Qx n r ex) (fr l) w :=
  wp_seq (wp_mono h fun e a w q => by
    cases e with
    | normal => obtain ⟨f, e, hR⟩ := q; subst e; exact hj f _ hR
    | _ => exact q)
end
end Go.Proofs.YtpekghaodmeemaaGreat
set_option linter.unusedSimpArgs false
set_option linter.unusedVariables false
namespace Go.Proofs.YtpekghaodmeemaaGreat
open Go.RowKit
def Fw (r : Option Nat) : Fence := { Fence.wide with round := r }
theorem fw_room (r : Option Nat) (k : Nat) : (Fw r).room k := fun _ h => by simp [Fw, Fence.wide] at h
theorem fw_depth (r : Option Nat) {k : Nat} : (Fw r).depth.isSome = true → 1 ≤ k := fun h => by simp [Fw, Fence.wide] at h
theorem fw_fenced (r : Option Nat) (P : Program) : Machine.fenced P (Fw r) = Machine.fenced P Fence.wide := by cases r <;> rfl
theorem fw_steps {r : Option Nat} {P : Program} {m m' : Machine} : StepsIn (Machine.fenced P (Fw r)) P m m' ↔ Steps P m m' := by rw [fw_fenced]; exact stepsIn_wide
theorem callsIn_fw {r : Option Nat} {k : Nat} {P : Program} {f : FuncId} {args : Array Value} {w : World} {R : Ending → World → Prop} (h : Calls P f args w R) : CallsIn (Fw r) k P f args w R := by
  have h1 : CallsIn Fence.wide k P f args w R := callsIn_wide.2 h
  cases r with
  | none => exact h1
  | some l => exact h1.inRound l
theorem rowsIn_fw {r : Option Nat} {k : Nat} {P : Program} {row : String} {args : Array Value} {w : World} {R : Value → World → Prop} (h : Rows P row args w R) : RowsIn (Fw r) k P row args w R :=
  fun c cs _ => let ⟨v, w', hr, s⟩ := h c cs; ⟨v, w', hr, fw_steps.2 s⟩
def frd (ds : List Deferred) (l : List Value) : Act := { tmps := l.toArray, defers := ds }
def wd (ds : List Deferred) (a : Act) : Act := { tmps := a.tmps, defers := a.defers ++ ds }
theorem wd_fr (ds : List Deferred) (l : List Value) : wd ds (fr l) = frd ds l := rfl
theorem wd_put (ds : List Deferred) (a : Act) (d : Option Nat) (v : Value) : (wd ds a).put d v = wd ds (a.put d v) := by cases d <;> rfl
theorem wd_eval (ds : List Deferred) (a : Act) : (wd ds a).eval = a.eval := by funext x; cases x <;> rfl
theorem eval_frd (ds : List Deferred) (l : List Value) : (frd ds l).eval = opv l := by rw [← wd_fr, wd_eval, eval_fr]
theorem put_frd (ds : List Deferred) (l : List Value) (d : Nat) (v : Value) : (frd ds l).put (some d) v = frd ds (l.set d v) := by rw [← wd_fr, wd_put, put_fr, wd_fr]
def ndB (ops : Array Oper) : Bool := ops.all fun o => match o.op with | .defer _ => false | _ => true
theorem ndB_spec {ops : Array Oper} (h : ndB ops = true) {i : Nat} {o : Oper} (ho : ops[i]? = some o) : ∀ c, o.op ≠ .defer c := fun c e => by
  obtain ⟨hi, rfl⟩ := Array.getElem?_eq_some_iff.1 ho
  have := Array.all_eq_true.1 h i hi
  rw [e] at this
  cases this
section
variable {P : Program} {ops : Array Oper} {Q Q2 : Exit → Act → World → Prop} {ds : List Deferred} {r : Option Nat}
theorem operIn_of {o : Oper} {a : Act} {w : World} {K K2 : Act → World → Prop} (hnd : ∀ c, o.op ≠ .defer c) (hq : ∀ e a w, Q e a w → Q2 e (wd ds a) w) (hk : ∀ a w, K a w → K2 (wd ds a) w) (h : o.wp P a w K Q) : o.wpIn (Fw r) 0 P (wd ds a) w K2 Q2 := by
  refine ⟨fun f _ => trivial, ?_⟩
  rw [Oper.semAt_eq _ _ _ hnd, wd_eval]
  unfold Oper.wp at h
  generalize (execOp a.eval o).run P w = res at h ⊢
  cases res with
  | ok nx w' =>
    cases nx with
    | value v => simp only [Oper.upon, Oper.uponIn] at h ⊢; rw [wd_put]; exact hk _ _ h
    | skip => simp only [Oper.upon, Oper.uponIn] at h ⊢; rw [wd_put]; exact hk _ _ h
    | defer d =>
      simp only [Oper.upon, Oper.uponIn] at h ⊢
      have e : ({ wd ds a with defers := d :: (wd ds a).defers } : Act) = wd ds { a with defers := d :: a.defers } := rfl
      rw [e, wd_put]; exact hk _ _ h
    | enter f args =>
      simp only [Oper.upon, Oper.uponIn] at h ⊢
      refine ⟨fw_depth r, callsIn_fw (Calls.mono h fun e w'' he => ?_)⟩
      cases e with
      | returned v => dsimp only at he ⊢; rw [wd_put]; exact hk _ _ he
      | panicked ch => exact hq _ _ _ he
      | outgrown => obtain ⟨a0, w0, h0⟩ := he; exact ⟨_, _, hq _ _ _ h0⟩
    | row row args =>
      simp only [Oper.upon, Oper.uponIn] at h ⊢
      refine ⟨fw_depth r, rowsIn_fw (Rows.mono h fun v w'' he => ?_)⟩
      rw [wd_put]; exact hk _ _ he
    | _ => exact h.elim
  | halt x w' =>
    cases x with
    | panic v => exact hq _ _ _ h
    | _ => exact h.elim
theorem opsIn_of (hnd : ndB ops = true) (hq : ∀ e a w, Q e a w → Q2 e (wd ds a) w) (hl : ¬ LetsOut Q) : ∀ (idx : List Nat) (a : Act) (w : World), wpOps P ops Q idx a w → wpOpsIn (Fw r) 0 P ops Q2 idx (wd ds a) w
  | [], a, w, h => hq _ _ _ h
  | i :: rest, a, w, h => by
    unfold wpOps at h
    unfold wpOpsIn
    cases ho : ops[i]? with
    | none => simp only [ho] at h ⊢; exact opsIn_of hnd hq hl rest a w h
    | some o =>
      simp only [ho] at h ⊢
      have ht : (wd ds a).tmps = a.tmps := rfl
      rw [ht]
      split
      · next hw =>
        rw [if_pos hw] at h
        rcases h with h | ⟨_, h⟩
        · exact operIn_of (ndB_spec hnd ho) hq (fun a w h => opsIn_of hnd hq hl rest a w h) h
        · exact (hl h).elim
      · next hw =>
        rw [if_neg hw] at h
        refine ⟨fun f _ => trivial, ?_⟩
        rw [wd_put]; exact opsIn_of hnd hq hl rest _ w h
/-- the fenced walk over a list of operations -/
def wpLi (r : Option Nat) (P : Program) (ops : Array Oper) (Q : Exit → Act → World → Prop) : List Oper → Act → World → Prop
  | [], a, w => Q .normal a w
  | o :: rest, a, w => if Region.wanted o (yielded ops a.tmps) then o.wpIn (Fw r) 0 P a w (wpLi r P ops Q rest) Q else wpLi r P ops Q rest (a.put o.dst undef) w
structure WY (r : Option Nat) (P : Program) (ops : Array Oper) (Q : Exit → Act → World → Prop) (os : List Oper) (a : Act) (w : World) : Prop where
  run : wpLi r P ops Q os a w
theorem opsIn_list : ∀ (l : List Oper) (k : Nat), (∀ j, j < l.length → l[j]? = ops[k + j]?) → ∀ (a : Act) (w : World), wpLi r P ops Q l a w → wpOpsIn (Fw r) 0 P ops Q (List.range' k l.length) a w
  | [], _, _, _, _, h => h
  | o :: l, k, hk, a, w, h => by
    have h0 : ops[k]? = some o := by simpa using (hk 0 (by simp)).symm
    have ih := opsIn_list l (k + 1) (fun j hj => by have := hk (j + 1) (by simpa using hj); simpa [Nat.add_assoc, Nat.add_comm 1 j] using this)
    simp only [List.length_cons, List.range'_succ]
    unfold wpLi at h
    unfold wpOpsIn
    simp only [h0]
    split
    · next hw =>
      rw [if_pos hw] at h
      obtain ⟨h1, h2⟩ := h
      refine ⟨h1, ?_⟩
      generalize (o.semAt (Fw r).round a.eval).run P w = res at h2 ⊢
      cases res with
      | ok nx w' =>
        cases nx with
        | value v => exact ih _ _ h2
        | skip => exact ih _ _ h2
        | defer d => exact ih _ _ h2
        | enter f args =>
          obtain ⟨h3, h4⟩ := h2
          refine ⟨h3, CallsIn.mono h4 fun e w'' he => ?_⟩
          cases e with
          | returned v => exact ih _ _ he
          | panicked ch => exact he
          | outgrown => exact he
        | row row args =>
          obtain ⟨h3, h4⟩ := h2
          exact ⟨h3, RowsIn.mono h4 fun v w'' he => ih _ _ he⟩
        | round l f tmps asg bd =>
          obtain ⟨h3, h4⟩ := h2
          refine ⟨h3, RoundIn.mono h4 fun e w'' he => ?_⟩
          cases e with
          | returned v => exact ih _ _ he
          | panicked ch => exact he
          | outgrown => exact he
        | _ => exact h2
      | halt x w' =>
        cases x with
        | panic v => exact h2
        | _ => exact h2
    · next hw =>
      rw [if_neg hw] at h
      exact ⟨fun f _ => trivial, ih _ _ h⟩
theorem pre_list {rest : List Oper} (hq : ∀ e a w, e ≠ .normal → Q e a w → Q2 e (wd ds a) w) (hl : ¬ LetsOut Q) (hn : ∀ a w, Q .normal a w → wpLi r P ops Q2 rest (wd ds a) w) : ∀ (pre : List Oper), (∀ o ∈ pre, ∀ c, o.op ≠ .defer c) → (∀ e a w, Q e a w → e = .normal ∨ Q2 e (wd ds a) w) → ∀ (a : Act) (w : World), wpList P ops Q pre a w → wpLi r P ops Q2 (pre ++ rest) (wd ds a) w
  | [], _, _, a, w, h => hn a w h
  | o :: pre, hnd, hq2, a, w, h => by
    have ih := pre_list hq hl hn pre (fun o ho => hnd o (by simp [ho])) hq2
    unfold wpList at h
    rw [List.cons_append]
    unfold wpLi
    have ht : (wd ds a).tmps = a.tmps := rfl
    rw [ht]
    split
    · next hw =>
      rw [if_pos hw] at h
      rcases h with h | ⟨_, h⟩
      · -- the operation's own panics and calls
        refine ⟨fun f _ => trivial, ?_⟩
        rw [Oper.semAt_eq _ _ _ (hnd o (by simp)), wd_eval]
        unfold Oper.wp at h
        generalize (execOp a.eval o).run P w = res at h ⊢
        cases res with
        | ok nx w' =>
          cases nx with
          | value v => simp only [Oper.upon, Oper.uponIn] at h ⊢; rw [wd_put]; exact ih _ _ h
          | skip => simp only [Oper.upon, Oper.uponIn] at h ⊢; rw [wd_put]; exact ih _ _ h
          | defer d =>
            simp only [Oper.upon, Oper.uponIn] at h ⊢
            have e : ({ wd ds a with defers := d :: (wd ds a).defers } : Act) = wd ds { a with defers := d :: a.defers } := rfl
            rw [e, wd_put]; exact ih _ _ h
          | enter f args =>
            simp only [Oper.upon, Oper.uponIn] at h ⊢
            refine ⟨fw_depth r, callsIn_fw (Calls.mono h fun e w'' he => ?_)⟩
            cases e with
            | returned v => dsimp only at he ⊢; rw [wd_put]; exact ih _ _ he
            | panicked ch => exact hq _ _ _ (by simp) he
            | outgrown => exact (hl he).elim
          | row row args =>
            simp only [Oper.upon, Oper.uponIn] at h ⊢
            refine ⟨fw_depth r, rowsIn_fw (Rows.mono h fun v w'' he => ?_)⟩
            rw [wd_put]; exact ih _ _ he
          | _ => exact h.elim
        | halt x w' =>
          cases x with
          | panic v => exact hq _ _ _ (by simp) h
          | _ => exact h.elim
      · exact (hl h).elim
    · next hw =>
      rw [if_neg hw] at h
      rw [wd_put]; exact ih _ _ h
end
section
variable {P : Program} {n rr : Act → World → Prop} {ex : List (Nat × (Act → World → Prop))} {a : Act} {w w' : World} {l : List Value} {ds : List Deferred} {r : Option Nat}
theorem y_seq {x y : Code} (h : ∀ K : Act → World → Prop, (∀ a w, y.wpIn (Fw r) 0 P (Qx n rr ex) a w → K a w) → x.wpIn (Fw r) 0 P (Qx K rr ex) a w) : (Code.seq x y).wpIn (Fw r) 0 P (Qx n rr ex) a w :=
  wpIn_seq (wpIn_mono (h _ fun _ _ h => h) fun e a w q => by cases e <;> first | exact q | exact q.elim)
theorem y_block {id : Nat} {c : Code} (h : c.wpIn (Fw r) 0 P (Qx n rr ((id, n) :: ex)) a w) : (Code.block id c).wpIn (Fw r) 0 P (Qx n rr ex) a w :=
  wpIn_block (wpIn_mono h fun e a w q => by
    cases e with
    | exit i =>
      simp only [Exit.inBlock, Qx, look] at q ⊢
      split
      · rename_i hi; rw [if_pos hi] at q; exact q
      · rename_i hi; rw [if_neg hi] at q; exact q
    | _ => first | exact q | exact q.elim)
theorem y_exit {id : Nat} (h : look id ex a w) : (Code.exit id).wpIn (Fw r) 0 P (Qx n rr ex) a w := wpIn_exit h
theorem y_ret (h : rr a w) : Code.ret.wpIn (Fw r) 0 P (Qx n rr ex) a w := wpIn_ret h
theorem y_skip (h : n a w) : Code.skip.wpIn (Fw r) 0 P (Qx n rr ex) a w := wpIn_skip h
theorem y_cond_t {c : Operand} {x y : Code} (hc : opv l c = .bool true := by rfl) (h : x.wpIn (Fw r) 0 P (Qx n rr ex) (frd ds l) w) : (Code.cond c x y).wpIn (Fw r) 0 P (Qx n rr ex) (frd ds l) w := wpIn_cond_true (by rw [eval_frd]; exact hc) h
theorem y_cond_f {c : Operand} {x y : Code} (hc : opv l c = .bool false := by rfl) (h : y.wpIn (Fw r) 0 P (Qx n rr ex) (frd ds l) w) : (Code.cond c x y).wpIn (Fw r) 0 P (Qx n rr ex) (frd ds l) w := wpIn_cond_false (by rw [eval_frd]; exact hc) h
theorem y_cond {c : Operand} {x y : Code} {b : Bool} (hc : opv l c = .bool b := by rfl) (ht : b = true → x.wpIn (Fw r) 0 P (Qx n rr ex) (frd ds l) w) (hf : b = false → y.wpIn (Fw r) 0 P (Qx n rr ex) (frd ds l) w) : (Code.cond c x y).wpIn (Fw r) 0 P (Qx n rr ex) (frd ds l) w :=
  wpIn_cond_split (by rw [eval_frd]; exact hc) ht hf
theorem qx_out {n : Act → World → Prop} : ¬ LetsOut (Qx n (fun _ _ => False) []) := fun ⟨_, _, h⟩ => h
theorem y_region {id : Nat} {ops : List Oper} (hnd : ndB ops.toArray = true) (h : WL P ops.toArray (Qx (fun a w => n (wd ds a) w) (fun _ _ => False) []) ops (fr l) w) : (Code.region id ops.toArray false).wpIn (Fw r) 0 P (Qx n rr ex) (frd ds l) w := by
  refine wpIn_region ?_
  have h1 : wpOps P ops.toArray (Qx (fun a w => n (wd ds a) w) (fun _ _ => False) []) (List.range ops.toArray.size) (fr l) w := by
    rw [List.range_eq_range', List.size_toArray, wpOps_eq_wpList ops 0 (fun j => by simp)]
    exact h.run
  refine opsIn_of (ds := ds) hnd (fun e a w q => ?_) qx_out _ _ _ h1
  cases e with
  | normal => exact q
  | exit i => exact q.elim
  | _ => exact q.elim
/-- a region one of whose operations calls yield -/
theorem y_region_y {id : Nat} {ops : List Oper} (h : WY r P ops.toArray (Qx n rr ex) ops (frd ds l) w) : (Code.region id ops.toArray false).wpIn (Fw r) 0 P (Qx n rr ex) (frd ds l) w := by
  refine wpIn_region ?_
  rw [List.range_eq_range', List.size_toArray]
  exact opsIn_list ops 0 (fun j _ => by simp) _ _ h.run
theorem y_pre {ops : Array Oper} (pre rest : List Oper) (hnd : ndB pre.toArray = true) (h : WL P ops (Qx (fun a w => WY r P ops (Qx n rr ex) rest (wd ds a) w) (fun _ _ => False) []) pre (fr l) w) : WY r P ops (Qx n rr ex) (pre ++ rest) (frd ds l) w :=
  ⟨pre_list (Q := Qx (fun a w => WY r P ops (Qx n rr ex) rest (wd ds a) w) (fun _ _ => False) []) (fun e a w hne q => by cases e <;> first | exact absurd rfl hne | exact q.elim) qx_out (fun a w q => q.run) pre
    (fun o ho => by
      obtain ⟨i, hi, rfl⟩ := List.getElem_of_mem ho
      exact ndB_spec hnd (i := i) (by simp [hi]))
    (fun e a w q => by cases e <;> first | exact .inl rfl | exact q.elim) _ _ h.run⟩
def LoopJd (ds : List Deferred) (I : Nat → (Nat → Value) → World → Prop) (l : List Value) (V : List Nat) (m : Nat) (a' : Act) (w' : World) : Prop := ∃ m' f', a' = frd ds (clob l V f') ∧ I m' f' w' ∧ m' < m
theorem loop_back_y {I : Nat → (Nat → Value) → World → Prop} {l lnow : List Value} {V : List Nat} {m m' : Nat} {w : World} (he : lnow = clob l V (fun d => lnow.getD d undef)) (hI : I m' (fun d => lnow.getD d undef) w) (hm : m' < m) : LoopJd ds I l V m (frd ds lnow) w :=
  ⟨m', _, congrArg (frd ds) he, hI, hm⟩
theorem least_ex {q : Nat → Prop} {m : Nat} (h : q m) : ∃ k, q k ∧ ∀ j, q j → k ≤ j := by
  refine Nat.strongRecOn (motive := fun m => q m → ∃ k, q k ∧ ∀ j, q j → k ≤ j) m (fun m ih hm => ?_) h
  by_cases hx : ∃ j, j < m ∧ q j
  · obtain ⟨j, hj, hq⟩ := hx; exact ih j hj hq
  · exact ⟨m, hm, fun j hj => by
      rcases Nat.lt_or_ge j m with h1 | h1
      · exact absurd ⟨j, h1, hj⟩ hx
      · exact h1⟩
theorem y_loop {c : Code} (V : List Nat) (I : Nat → (Nat → Value) → World → Prop) (m0 : Nat) (h0 : I m0 (fun d => l.getD d undef) w)
    (hr : ∀ m f w, I m f w → c.wpIn (Fw r) 0 P (Qx (LoopJd ds I l V m) rr ex) (frd ds (clob l V f)) w) : (Code.loop c).wpIn (Fw r) 0 P (Qx n rr ex) (frd ds l) w := by
  let J : Nat → Act → World → Prop := fun m a w => ∃ f, a = frd ds (clob l V f) ∧ I m f w
  refine wpIn_loop (fun a w => ∃ m, J m a w) (fun a w => Classical.epsilon fun k => J k a w ∧ ∀ j, J j a w → k ≤ j) ⟨m0, fun d => l.getD d undef, by rw [clob_self], h0⟩ ?_
  rintro a1 w1 ⟨m1, hJ1⟩
  have hk := Classical.epsilon_spec (least_ex (q := fun k => J k a1 w1) hJ1)
  generalize hke : (Classical.epsilon fun k => J k a1 w1 ∧ ∀ j, J j a1 w1 → k ≤ j) = k at hk ⊢
  obtain ⟨⟨f1, rfl, hI1⟩, hmin⟩ := hk
  refine wpIn_mono (hr k f1 w1 hI1) fun e a2 w2 q => ?_
  cases e with
  | normal =>
    obtain ⟨m2, f2, rfl, hI2, hlt⟩ := q
    have hJ2 : J m2 (frd ds (clob l V f2)) w2 := ⟨f2, rfl, hI2⟩
    refine ⟨⟨m2, hJ2⟩, ?_⟩
    have hs := Classical.epsilon_spec (least_ex (q := fun k => J k (frd ds (clob l V f2)) w2) hJ2)
    exact Nat.lt_of_le_of_lt (hs.2 m2 hJ2) hlt
  | ret => exact q
  | exit i => exact q
  | goto i => exact q.elim
  | panic ch => exact q.elim
  | outgrown => exact q.elim
end
section
variable {P : Program}
def RtM (P : Program) (fn : Func) (R : Value → World → Prop) (a : Act) (w : World) : Prop := LeavesInM (Fw none) 0 P fn a.tmps (fun e w' => ∃ v, e = .returned v ∧ R v w') a.defers .returning w
theorem y_enter {f : FuncId} {fn : Func} {c : Code} {args : Array Value} {w : World} {R : Value → World → Prop} {l : List Value} (hf : P.funcs[f]? = some fn) (hb : fn.body = some c)
    (hl : (args ++ Array.replicate (fn.ntmps - args.size) undef) = l.toArray)
    (h : c.wpIn (Fw none) 0 P (Qx (RtM P fn R) (RtM P fn R) []) (frd [] l) w) : CallR P f args w R := by
  have h1 : CallsIn (Fw none) 0 P f args w (fun e w' => ∃ v, e = .returned v ∧ R v w') := by
    refine callsIn_of_wp_marks hf hb trivial ?_
    rw [hl]
    refine wpIn_mono h fun e a w' q => ?_
    cases e with
    | normal => exact q
    | ret => exact q
    | exit i => exact q.elim
    | goto i => exact q.elim
    | panic ch => exact q.elim
    | outgrown => exact q.elim
  exact h1.calls (fun k => fw_room _ k)
theorem rm_nil {fn : Func} {R : Value → World → Prop} {l : List Value} {w : World} (h : Rt P fn R (fr l) w) : RtM P fn R (frd [] l) w := by
  obtain ⟨_, v, h1, h2⟩ := h
  exact ⟨v, h1, v, rfl, h2⟩
theorem run_getObj_df {w : World} {b : Nat} {o : Option (List Deferred)} (h : w.heap[b]? = some (.deferred o)) : (getObj b).run P w = .ok (.deferred o) w := by simp [getObj, Sem.run, h]
theorem rm_mark {fn : Func} {R : Value → World → Prop} {l : List Value} {w w0 : World} {S : Nat → Prop} {L L' : List Res} {D : Nat} {ds : List Deferred} (hS : St S w0 w L) (hu : Upd L (.obj D (.deferred (some []))) (.obj D (.deferred none)) L' := by repeat (first | exact Upd.head | apply Upd.tail)) (h : ∀ w', St S w0 w' L' → RtM P fn R (frd ds l) w') : RtM P fn R (frd ({ target := .collected D, args := #[] } :: ds) l) w := by
  have hD : w.heap[D]? = some (.deferred (some [])) := hS.holds _ hu.mem
  have hlt : D < w.heap.size := (Array.getElem?_eq_some_iff.1 hD).1
  refine ⟨by simp, .inl ⟨D, { w with heap := w.heap.setIfInBounds D (.deferred none) }, rfl, ?_, h _ ?_⟩⟩
  · simp [Instr.takeDeferred, Sem.run_bind, run_getObj_df hD, Result.andThen, setObj, Sem.run, hD]
  · refine hS.turn hu ⟨rfl, rfl, rfl, by simp, fun k _ hk => ?_, Nat.le_refl _⟩ ?_ (fun k hk => .inl hk) (fun k hk => by simp [Res.reads] at hk)
    · show (w.heap.setIfInBounds D _)[k]? = _
      rw [Array.getElem?_setIfInBounds_ne]
      exact fun e => hk (by rw [e]; rfl)
    · show (w.heap.setIfInBounds D _)[D]? = _
      simp [hlt]
end
end Go.Proofs.YtpekghaodmeemaaGreat
set_option linter.unusedSimpArgs false
set_option linter.unusedVariables false
namespace Go.Proofs.YtpekghaodmeemaaGreat
open Go.RowKit
theorem spl_self (M R : List Res) : Spl M (M ++ R) R := by
  induction M with
  | nil => exact .nil
  | cons x M ih => exact .cons .head ih
theorem upd_mid (A B : List Res) (x y : Res) : Upd (A ++ x :: B) x y (A ++ y :: B) := by
  induction A with
  | nil => exact Upd.head
  | cons z A ih => exact Upd.tail ih
theorem Sel.self : ∀ {L : List Res}, Sel L L
  | [] => .nil
  | _ :: _ => .cons .head Sel.self
theorem Sel.skip {L L' : List Res} {r : Res} (h : Sel L' L) : Sel L' (r :: L) := by
  induction h generalizing r with
  | nil => exact .nil
  | cons hd _ ih => exact .cons (.tail hd) ih
/-- what may be read behind a call -/
def FrOK (w : World) (M M' : List Res) : Prop := ∀ r ∈ M', ∀ g, r.reads = some g → w.heap.size ≤ g ∨ ∃ s ∈ M, s.own = some g ∨ s.reads = some g
theorem FrOK.self (w : World) (M : List Res) : FrOK w M M := fun r hr g hg => .inr ⟨r, hr, .inr hg⟩
structure ClI (I : World → List Res → Prop) : Prop where
  st : ∀ {W L}, I W L → St (OwnB L) W W L
  on : ∀ {W L W' L'}, I W L → St (OwnB L) W W' L' → FrOK W L L' → I W' L'
section
variable {S : Nat → Prop} {w0 w w' : World}
theorem St.eq {L L' : List Res} (h : St S w0 w L) (e : L = L') : St S w0 w L' := e ▸ h
def StX (S : Nat → Prop) (w0 : World) (X : List Res → Prop) (T : List Res) (W : World) : Prop := ∃ R, X R ∧ St S w0 W (R ++ T)
theorem StX.clI (X : List Res → Prop) (A : List Res) : ClI fun W L => StX S w0 X (A ++ L) W where
  st := fun ⟨R, _, h⟩ => (h.perm (by rw [← List.append_assoc]; exact List.perm_append_comm)).owns (spl_self _ _)
  on := fun {W L W' L'} ⟨R, hX, h⟩ k hr =>
    ⟨R, hX, ((h.perm (by rw [← List.append_assoc]; exact List.perm_append_comm) : St S w0 W (L ++ (R ++ A))).frame (spl_self _ _) k hr).perm (by rw [← List.append_assoc R A L']; exact List.perm_append_comm)⟩
theorem ClI.ex {α : Sort _} {I : α → World → List Res → Prop} (h : ∀ a, ClI (I a)) : ClI fun W L => ∃ a, I a W L where
  st := fun ⟨a, h1⟩ => (h a).st h1
  on := fun ⟨a, h1⟩ k hr => ⟨a, (h a).on h1 k hr⟩
theorem ClI.or {I J : World → List Res → Prop} (h : ClI I) (h' : ClI J) : ClI fun W L => I W L ∨ J W L where
  st := fun h1 => h1.elim h.st h'.st
  on := fun h1 k hr => h1.imp (fun q => h.on q k hr) (fun q => h'.on q k hr)
theorem StX.put {X : List Res → Prop} {T : List Res} {g : Nat} {o : Obj} (o' : Obj) (h : StX S w0 X (.obj g o :: T) w) : StX S w0 X (.obj g o' :: T) (w.putObj g o') ∧ w.heap[g]? = some o := by
  obtain ⟨R, hX, h⟩ := h
  have hg : w.heap[g]? = some o := h.holds (.obj g o) (by simp)
  have hlt : g < w.heap.size := (Array.getElem?_eq_some_iff.1 hg).1
  refine ⟨⟨R, hX, h.turn (upd_mid R T _ (.obj g o')) ⟨rfl, rfl, rfl, by simp, fun k _ hk => ?_, Nat.le_refl _⟩ ?_ (fun k hk => .inl hk) (fun k hk => by simp [Res.reads] at hk)⟩, hg⟩
  · exact World.putObj_heap_other (fun e => hk (by rw [e]; rfl))
  · exact World.putObj_heap_same hlt
end
def YC (P : Program) (lp : Nat) (args : Array Value) (w : World) (R : Value → World → Prop) : Prop :=
  ∃ f tmps assign body, (Instr.yield lp args).run P w = .ok (.round lp f tmps assign body) w ∧ RoundIn (Fw none) 0 P lp f tmps assign body w (fun e w' => ∃ v, e = .returned v ∧ R v w')
theorem YC.mono {P : Program} {lp : Nat} {args : Array Value} {w : World} {R R' : Value → World → Prop} (h : YC P lp args w R) (hr : ∀ v w', R v w' → R' v w') : YC P lp args w R' := by
  obtain ⟨f, tmps, asg, bd, h1, h2⟩ := h
  exact ⟨f, tmps, asg, bd, h1, h2.mono fun e w' ⟨v, he, q⟩ => ⟨v, he, hr _ _ q⟩⟩
section
variable {P : Program} {ops : Array Oper} {n rr : Act → World → Prop} {ex : List (Nat × (Act → World → Prop))} {ds : List Deferred} {r : Option Nat} {l : List Value} {w : World} {rest : List Oper} {d : Nat} {ty : TypeId} {pos : String} {aft : Array Edge}
theorem wy_cons {o : Oper} {a : Act} {Q : Exit → Act → World → Prop} (hg : o.guard = none) (h : o.wpIn (Fw r) 0 P a w (wpLi r P ops Q rest) Q) : WY r P ops Q (o :: rest) a w := ⟨by
  unfold wpLi
  rw [if_pos (by simp [Region.wanted, hg])]
  exact h⟩
theorem y_yield {t lp : Nat} {args : Array Operand} {tys : Array TypeId} (hv : l.getD t undef = .func (.yield lp) #[] #[]) (h : YC P lp (args.map (opv l)) w fun v w'' => WY none P ops (Qx n rr ex) rest (frd ds (l.set d v)) w'') :
    WY none P ops (Qx n rr ex) (⟨some d, .call { callee := .value (.tmp t), args := args, argTypes := tys }, ty, pos, aft, none⟩ :: rest) (frd ds l) w := by
  obtain ⟨f, tmps, asg, bd, h1, h2⟩ := h
  refine wy_cons rfl ⟨fun f _ => trivial, ?_⟩
  rw [Oper.semAt_eq _ _ _ (fun c e => by cases e), eval_frd]
  have hv' : opv l (.tmp t) = .func (.yield lp) #[] #[] := hv
  have hr : (execOp (opv l) ⟨some d, .call { callee := .value (.tmp t), args := args, argTypes := tys }, ty, pos, aft, none⟩).run P w = .ok (.round lp f tmps asg bd) w := by
    simp [execOp, resolve, hv', Deferred.ofValue, invoke, h1]
  rw [hr, Oper.uponIn_round]
  refine ⟨fw_depth _, h2.mono ?_⟩
  rintro e w' ⟨v, rfl, q⟩
  show wpLi none P ops (Qx n rr ex) rest ((frd ds l).put (some d) v) w'
  rw [put_frd]; exact q.run
theorem y_rest (hnd : ndB rest.toArray = true) (h : WL P ops (Qx (fun a w => n (wd ds a) w) (fun _ _ => False) []) rest (fr l) w) : WY r P ops (Qx n rr ex) rest (frd ds l) w := by
  have := pre_list (r := r) (rest := []) (Q := Qx (fun a w => n (wd ds a) w) (fun _ _ => False) []) (Q2 := Qx n rr ex) (ds := ds) (fun e a w hne q => by cases e <;> first | exact absurd rfl hne | exact q.elim) qx_out (fun a w q => q) rest
    (fun o ho => by
      obtain ⟨i, hi, rfl⟩ := List.getElem_of_mem ho
      exact ndB_spec hnd (i := i) (by simp [hi]))
    (fun e a w q => by cases e <;> first | exact .inl rfl | exact q.elim) _ _ h.run
  rw [List.append_nil] at this
  exact ⟨this⟩
end
def IterC (P : Program) (gf : Nat) (lb : Array Value) (N : Nat) (es : Nat → List Value) (M : List Res) : Prop :=
  ∀ (lp : Nat) (I O : Nat → World → List Res → Prop), (∀ k, ClI (I k)) → (∀ k, ClI (O k)) →
    (∀ k W L, k < N → I k W L → YC P lp (es k).toArray W fun v W' => (v = .bool true ∧ I (k + 1) W' L) ∨ (v = .bool false ∧ O k W' L)) →
    ∀ w, I 0 w M → CallR P gf (#[.func (.yield lp) #[] #[]] ++ lb) w fun _ w' => ∃ L', I N w' L' ∨ ∃ k, O k w' L'
theorem run_endLoop_p {P : Program} {w : World} {k : Nat} {r : Loop} {pe : Option Code} (h : w.heap[k]? = some (.loop r)) (hb : r.state ≠ .busy) (hp : r.pending = pe) : (Instr.endLoop k).run P w = .ok pe (w.putObj k (.loop { r with state := .exhausted })) := by rw [run_endLoop h hb, hp]
def entL (l : List Value) (ps : List Nat) (es : List Value) : List Value := (ps.zip es).foldl (fun l p => l.set p.1 p.2) l
theorem entL_arr (ps : Array Nat) (es : List Value) (l : List Value) : (ps.zip es.toArray).foldl (fun tmps (t, a) => tmps.setIfInBounds t a) l.toArray = (entL l ps.toList es).toArray := by
  have h1 : ∀ (q : List (Nat × Value)) (l : List Value), q.foldl (fun tmps (t, a) => tmps.setIfInBounds t a) l.toArray = (q.foldl (fun l p => l.set p.1 p.2) l).toArray := by
    intro q
    induction q with
    | nil => intro l; rfl
    | cons p q ih => intro l; simp only [List.foldl_cons, List.setIfInBounds_toArray]; exact ih _
  rw [← Array.foldl_toList, Array.toList_zip]
  exact h1 _ _
/-- behind the assignments to a round's variables -/
def AsgK (S : Nat → Prop) (w0 : World) (T : List Res) (B : Act → World → List Res → Prop) (a1 : Act) (W1 : World) : Prop := ∃ R1, St S w0 W1 (R1 ++ T) ∧ ∀ W2 T2, St S w0 W2 (R1 ++ T2) → B a1 W2 T2
/-- at a round's end -/
def StK (S : Nat → Prop) (w0 : World) (X : List Res → Prop) (T : List Res) (_ : Act) (W : World) : Prop := StX S w0 X T W
def mkD (D : Nat) : Deferred := { target := .collected D, args := #[] }
section
variable {P : Program} {n rr : Act → World → Prop} {ex : List (Nat × (Act → World → Prop))} {ds : List Deferred} {l : List Value} {w w0 : World} {S : Nat → Prop} {L : List Res}
theorem y_range {gt : Operand} {ps : Array Tmp} {assign body : Code} {gf : Nat} {lb : Array Value} {N : Nat} {es : Nat → List Value} {M R : List Res}
    (hg : opv l gt = .func (.func gf) #[] lb) (he : Enters P gf) (hI : IterC P gf lb N es M) (hps : ∀ k, (es k).length = ps.size)
    (hS : St S w0 w L) (hs : Spl M L R) (C : Nat → List Res → Prop) (Xr : List Res → Prop) (exs : List (Nat × (List Res → Prop))) (h0 : C 0 R)
    (hround : ∀ (k : Nat) (W : World) (R T : List Res) (lr : Nat), k < N → C k R → St S w0 W (R ++ T) →
      assign.wpIn (Fw (some lr)) 0 P (Qx (AsgK S w0 T (fun a1 W2 T2 =>
        body.wpIn (Fw (some lr)) 0 P (Qx (StK S w0 (C (k + 1)) T2) (StK S w0 Xr T2) (exs.map fun p => (p.1, StK S w0 p.2 T2))) a1 W2)) (fun _ _ => False) []) (frd [] (entL l ps.toList (es k))) W)
    (hdone : ∀ D T W R', C N R' → St S w0 W (.obj D (.deferred (some [])) :: (R' ++ T)) → n (frd (mkD D :: ds) l) W)
    (hret : ∀ D T W R', Xr R' → St S w0 W (.obj D (.deferred (some [])) :: (R' ++ T)) → rr (frd (mkD D :: ds) l) W)
    (hex : ∀ p ∈ exs, ∀ D T W R', p.2 R' → St S w0 W (.obj D (.deferred (some [])) :: (R' ++ T)) → look p.1 ex (frd (mkD D :: ds) l) W) :
    (Code.rangeFunc gt ps assign body).wpIn (Fw none) 0 P (Qx n rr ex) (frd ds l) w := by
  refine wpIn_rangeFunc ?_
  intro fn _
  show ∃ _, _
  obtain ⟨rec, hrec⟩ : ∃ rec : LoopState → Option Code → Loop, rec = fun st pe => { state := st, pending := pe, fn, tmps := l.toArray, params := ps, assign, body, defers := w.heap.size } := ⟨_, rfl⟩
  obtain ⟨D, hD⟩ : ∃ D, D = w.heap.size := ⟨_, rfl⟩
  obtain ⟨W1, hW1⟩ : ∃ W1, (w.alloc (.deferred (some []))).alloc (.loop (rec .ready none)) = W1 := ⟨_, rfl⟩
  have hS1 : St S w0 W1 (.obj (D + 1) (.loop (rec .ready none)) :: .obj D (.deferred (some [])) :: L) := by
    have := (hS.alloc (.deferred (some []))).alloc (.loop (rec .ready none))
    rw [World.size_alloc, hW1, ← hD] at this
    exact this
  have hI0 : StX S w0 (C 0) (.obj (D + 1) (.loop (rec .ready none)) :: .obj D (.deferred (some [])) :: M) W1 := by
    refine ⟨R, h0, hS1.perm ?_⟩
    refine (((hs.perm.trans List.perm_append_comm).cons _).cons _).trans ?_
    exact (((List.perm_middle (l₁ := R) (l₂ := .obj D (.deferred (some [])) :: M) (a := .obj (D + 1) (.loop (rec .ready none)))).trans ((List.perm_middle (l₁ := R) (l₂ := M) (a := .obj D (.deferred (some [])))).cons _)).symm)
  refine ⟨D + 1, [mkD D], W1, { target := .fn (.func gf) lb, args := #[.func (.yield (D + 1)) #[] #[]] }, W1, gf, #[.func (.yield (D + 1)) #[] #[]] ++ lb, W1, ?_, ?_, fun _ _ => trivial, ?_, fw_depth _, ?_⟩
  · rw [← hW1, hrec, hD]; exact run_enterLoop_outer _ _ _ _ _
  · have hg' : (frd ds l).eval gt = .func (.func gf) #[] lb := by rw [eval_frd]; exact hg
    simp only [resolve, hg']
    simp [go_sem]
  · have := he (#[.func (.yield (D + 1)) #[] #[]] ++ lb) W1
    simp [invoke, go_sem, this]
  · have hc := hI (D + 1) (fun k W Lk => StX S w0 (C k) ([.obj (D + 1) (.loop (rec .ready none)), .obj D (.deferred (some []))] ++ Lk) W)
      (fun k W Lk => StX S w0 Xr ([.obj (D + 1) (.loop (rec .done (some .ret))), .obj D (.deferred (some []))] ++ Lk) W ∨ ∃ p, ∃ _ : p ∈ exs, StX S w0 p.2 ([.obj (D + 1) (.loop (rec .done (some (.exit p.1)))), .obj D (.deferred (some []))] ++ Lk) W)
      (fun k => StX.clI _ _) (fun k => (StX.clI _ _).or (ClI.ex fun p => ClI.ex fun _ => StX.clI _ _)) ?_ W1 hI0
    · refine (callsIn_fw (r := none) (k := 0) hc).mono ?_
      rintro e W2 ⟨v, rfl, L', hq | ⟨k, hq | ⟨p, hp, hq⟩⟩⟩
      · obtain ⟨hq2, hl⟩ := hq.put (.loop { rec .ready none with state := .exhausted })
        refine ⟨none, _, run_endLoop_p hl (by rw [hrec]; simp) (by rw [hrec]), ?_⟩
        obtain ⟨R', hC, h⟩ := hq2
        exact hdone D _ _ R' hC (h.perm ((List.perm_append_comm.trans (.swap _ _ _)).trans (List.Perm.cons _ (List.perm_append_comm (l₁ := _ :: L')))))
      · obtain ⟨hq2, hl⟩ := hq.put (.loop { rec .done (some .ret) with state := .exhausted })
        refine ⟨some .ret, _, run_endLoop_p hl (by rw [hrec]; simp) (by rw [hrec]), ?_⟩
        obtain ⟨R', hC, h⟩ := hq2
        exact y_ret (hret D _ _ R' hC (h.perm ((List.perm_append_comm.trans (.swap _ _ _)).trans (List.Perm.cons _ (List.perm_append_comm (l₁ := _ :: L'))))))
      · obtain ⟨hq2, hl⟩ := hq.put (.loop { rec .done (some (.exit p.1)) with state := .exhausted })
        refine ⟨some (.exit p.1), _, run_endLoop_p hl (by rw [hrec]; simp) (by rw [hrec]), ?_⟩
        obtain ⟨R', hC, h⟩ := hq2
        exact y_exit (hex p hp D _ _ R' hC (h.perm ((List.perm_append_comm.trans (.swap _ _ _)).trans (List.Perm.cons _ (List.perm_append_comm (l₁ := _ :: L'))))))
    · rintro k W Lk hk hq
      have hl : W.heap[D + 1]? = some (.loop (rec .ready none)) := (hq.put (.loop (rec .ready none))).2
      obtain ⟨Rk, hCk, hSk⟩ := hq
      have hy := run_yield (P := P) (args := (es k).toArray) hl (by rw [hrec]; simpa using hps k)
      rw [hrec] at hy
      simp only [entL_arr] at hy
      refine ⟨fn, _, assign, body, hy, roundIn_of_wpIn trivial ?_⟩
      refine wpIn_mono (hround k W Rk _ (D + 1) hk hCk hSk) ?_
      rintro e a1 W2 q
      cases e with
      | normal =>
        obtain ⟨R1, hS2, hb⟩ := q
        obtain ⟨⟨R2, hR2, hS3⟩, hl2⟩ := StX.put (X := fun x => x = R1) (.loop { rec .ready none with state := .busy }) ⟨R1, rfl, hS2⟩
        subst hR2
        refine ⟨_, run_beginRound hl2 (by rw [hrec]), wpIn_mono (hb _ _ hS3) ?_⟩
        rintro e a3 W3 q3
        cases e with
        | normal =>
          obtain ⟨q4, hl4⟩ := StX.put (.loop (rec .ready none)) q3
          exact ⟨_, _, run_endRound none hl4, .bool true, rfl, .inl ⟨rfl, by have := q4; rw [hrec] at this ⊢; exact this⟩⟩
        | ret =>
          obtain ⟨q4, hl4⟩ := StX.put (.loop (rec .done (some .ret))) q3
          exact ⟨_, _, run_endRound (some .ret) hl4, .bool false, rfl, .inr ⟨rfl, .inl (by have := q4; rw [hrec] at this ⊢; exact this)⟩⟩
        | exit i =>
          have hlk : ∃ p ∈ exs, p.1 = i ∧ StX S w0 p.2 (.obj (D + 1) (.loop { rec .ready none with state := .busy }) :: .obj D (.deferred (some [])) :: Lk) W3 := by
            have : ∀ (exs : List (Nat × (List Res → Prop))), look i (exs.map fun p => (p.1, StK S w0 p.2 (.obj (D + 1) (.loop { rec .ready none with state := .busy }) :: .obj D (.deferred (some [])) :: Lk))) a3 W3 → ∃ p ∈ exs, p.1 = i ∧ StX S w0 p.2 (.obj (D + 1) (.loop { rec .ready none with state := .busy }) :: .obj D (.deferred (some [])) :: Lk) W3 := by
              intro exs
              induction exs with
              | nil => intro h; exact h.elim
              | cons p exs ih =>
                intro h
                simp only [List.map_cons, look] at h
                split at h
                · next e => exact ⟨p, by simp, e.symm, h⟩
                · obtain ⟨p', hp', h'⟩ := ih h; exact ⟨p', by simp [hp'], h'⟩
            exact this exs q3
          obtain ⟨p, hp, rfl, q5⟩ := hlk
          obtain ⟨q4, hl4⟩ := StX.put (.loop (rec .done (some (.exit p.1)))) q5
          exact ⟨_, _, run_endRound (some (.exit p.1)) hl4, .bool false, rfl, .inr ⟨rfl, .inr ⟨p, hp, by have := q4; rw [hrec] at this ⊢; exact this⟩⟩⟩
        | goto i => exact q3.elim
        | panic ch => exact q3.elim
        | outgrown => exact q3.elim
      | exit i => exact q.elim
      | goto i => exact q.elim
      | ret => exact q.elim
      | panic ch => exact q.elim
      | outgrown => exact q.elim
end
end Go.Proofs.YtpekghaodmeemaaGreat
