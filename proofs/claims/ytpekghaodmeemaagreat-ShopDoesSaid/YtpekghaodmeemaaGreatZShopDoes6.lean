/- Rules, plain words and walks that the claim leans on: Rl, Sa, Sb, Sd, Se, Sf. -/
import Derived.Test.YtpekghaodmeemaaGreatZShopDoes5
set_option linter.unusedSimpArgs false
set_option linter.unusedVariables false
set_option linter.unusedSimpArgs false
set_option linter.unusedVariables false
set_option maxHeartbeats 2000000
set_option maxRecDepth 100000
namespace Go.Proofs.YtpekghaodmeemaaGreat
open Go.RowKit

abbrev nrows (l : List (List Int)) : List Value := rowsZ (List.replicate 8 IntKind.u8) l
theorem nrow_get {l : List (List Int)} {k : Nat} (hk : k < l.length) (hv : ∀ x ∈ l, x.length = 8) : (((nrows l).drop (k * 8)).take 8).toArray = ic .u8 (l.getD k []) := by
  have h := hv _ (getD_mem' (d := []) hk)
  have := rowsZ_get (ks := (List.replicate 8 IntKind.u8)) hk (by simpa using h)
  simp only [List.length_replicate] at this
  rw [this, zi_ic h]
theorem nrows_len (l : List (List Int)) : (nrows l).length = l.length * 8 := rowsZ_len _ _
theorem nrow_one {x : List Int} (h : x.length = 8) : (ic .u8 x).toList = nrows [x] := by
  show (ic .u8 x).toList = rowsZ (List.replicate 8 IntKind.u8) [x]
  rw [rowsZ_one, ← padL_ic h]
theorem nadd_one {o : List (List Int)} {y : List Int} : nrows o ++ nrows [y] = nrows (o ++ [y]) := (rowsZ_app _ _ _).symm
def hereQ (c : Nat) (k v : List Int) : Bool := decide (kn k 1 = c) && decide (kn v 0 = 1)
theorem live_here {a : List Int} (h : AtomOk a) (c : Nat) : liveQ c a = (decide (kn a 0 = 1) && hereQ c (akey a) (aval a)) := by
  rw [live_key h, (akey_k h.len).1]; rfl
theorem cnt_snoc (ns : List (List Int)) (x : List Int) : cntR (ns ++ [x]).reverse = mput x (.int .i64 ((ns.count x : Int) + 1)) (cntR ns.reverse) := by
  rw [List.reverse_append, ← List.count_reverse (l := ns)]; rfl
theorem c_itemsHere (w0 : World) (gc ct : Nat) (x y : List Int) (hx : KeyOk x) (hy : ValOk y) (hM : St (OwnB [.obj gc (.cells #[.int .u16 (ct : Int)] 23 (0, 0))]) w0 w0 [.obj gc (.cells #[.int .u16 (ct : Int)] 23 (0, 0))])  :
    CallR Tryz.prog 96 #[.agg (KA x), .agg (VA y), .pointer (some ⟨gc, 0, none⟩)] w0 fun v w' => v = .bool (hereQ ct x y) ∧ St (OwnB [.obj gc (.cells #[.int .u16 (ct : Int)] 23 (0, 0))]) w0 w' [.obj gc (.cells #[.int .u16 (ct : Int)] 23 (0, 0))] := by
 have hS := hM
 have hxl := hx.len
 have hyl := hy.len
 refine c_enter (l := [.agg (KA x), .agg (VA y), .pointer (some ⟨gc, 0, none⟩), undef, undef, undef, undef, undef, undef, undef, undef, undef, undef, undef, undef]) Tryz.func96 rfl (by simp only [Tryz.ntmps96, List.size_toArray, List.length_cons, List.length_nil, Nat.reduceAdd, Nat.reduceSub, Array.replicate_succ, Array.replicate_zero, List.push_toArray, List.append_toArray, List.nil_append, List.cons_append]) ?_
 refine x_seq fun K1 hK1 => x_region ?_
 refine m_box hS (fun w1 g1 hS => ?_)
 try simp only [nY, aY] at hS ⊢
 refine m_box hS (fun w2 g2 hS => ?_)
 try simp only [nY, aY] at hS ⊢
 refine s_go s_assign ?_
 try simp only [nY]
 refine x_nil (hK1 _ _ ?_)
 refine x_seq fun K2 hK2 => x_region ?_
 refine s_go (m_fieldAddr U61 (hi := ti23)) ?_
 try simp only [nY, fY, gY]
 refine s_go (m_load_obj U23 (hS := hS) (hv := by exact zi_get rfl (by omega))) ?_
 try simp only [nY, gY]
 rw [hx.e1]
 refine s_go (m_load_obj U23 (hS := hS) (hv := by rfl)) ?_
 try simp only [nY, gY]
 refine s_go s_eql ?_
 try simp only [nY]
 refine s_go s_move ?_
 try simp only [nY]
 refine s_part 10 rfl (fun hp1 => ?_) (fun hp1 => ?_)
 ·
  try simp only [n3, n4]
  try simp only [dZ, ne_eq] at hp1
  have hQ : hereQ ct x y = decide ((kn y 0 : Int) = 1) := by rw [hereQ, decide_eq_true (show kn x 1 = ct by omega)]; simp; omega
  refine g_on (yi (t := 10) rfl rfl) ?_
  refine s_go (m_fieldAddr U64 (hi := ti62)) ?_
  try simp only [nY, fY, gY]
  refine g_on (yi (t := 10) rfl rfl) ?_
  refine s_go (m_load_obj U62 (hS := hS) (hv := by exact zi_get rfl (by omega))) ?_
  try simp only [nY, gY]
  rw [hy.e0]
  refine g_on (yi (t := 10) rfl rfl) ?_
  refine s_go s_eql ?_
  try simp only [nY]
  refine s_go s_pick_t ?_
  try simp only [nY]
  refine s_go s_assign ?_
  try simp only [nY]
  refine x_nil (hK2 _ _ ?_)
  refine x_ret (r_tmp rfl ?_)
  exact ⟨by rw [hQ]; rfl, hS.selA⟩
 try simp only [n3, n4]
 try simp only [dZ, ne_eq] at hp1
 have hQ : hereQ ct x y = false := by rw [hereQ, decide_eq_false (show ¬ kn x 1 = ct by omega)]; rfl
 refine g_off (yi (t := 10) rfl rfl) ?_
 try simp only [nY]
 refine g_off (yi (t := 10) rfl rfl) ?_
 try simp only [nY]
 refine g_off (yi (t := 10) rfl rfl) ?_
 try simp only [nY]
 refine s_go s_pick_f ?_
 try simp only [nY]
 refine s_go s_assign ?_
 try simp only [nY]
 refine x_nil (hK2 _ _ ?_)
 refine x_ret (r_tmp rfl ?_)
 exact ⟨by rw [hQ]; rfl, hS.selA⟩
theorem c_itemsPut (w0 : World) (gm q gs : Nat) (O : Option Addr) (oc : Nat) (ns : List (List Int)) (hns : ∀ x ∈ ns, x.length = 8) (hk : ns.length ≤ 1000000000) (x : List Int) (hx : KeyOk x) (hM : St (OwnB [.vec O oc 25 8 (ded (ns)).length (nrows (ded (ns))), .obj gs (.cells #[.slice O (ded (ns)).length oc] 89 (0, 0)), .obj gm (.cells #[.map (some q)] 126 (0, 0)), .obj q (mObj kv25 (cntR (ns).reverse))]) w0 w0 [.vec O oc 25 8 (ded (ns)).length (nrows (ded (ns))), .obj gs (.cells #[.slice O (ded (ns)).length oc] 89 (0, 0)), .obj gm (.cells #[.map (some q)] 126 (0, 0)), .obj q (mObj kv25 (cntR (ns).reverse))])  :
    CallR Tryz.prog 97 #[.agg (KA x), .pointer (some ⟨gm, 0, none⟩), .pointer (some ⟨gs, 0, none⟩)] w0 fun v w' => ∃ (O2 : Option Addr) (oc2 : Nat), v = .tuple #[] ∧ St (OwnB [.vec O oc 25 8 (ded (ns)).length (nrows (ded (ns))), .obj gs (.cells #[.slice O (ded (ns)).length oc] 89 (0, 0)), .obj gm (.cells #[.map (some q)] 126 (0, 0)), .obj q (mObj kv25 (cntR (ns).reverse))]) w0 w' [.vec O2 oc2 25 8 (ded (ns ++ [kitem x])).length (nrows (ded (ns ++ [kitem x]))), .obj gs (.cells #[.slice O2 (ded (ns ++ [kitem x])).length oc2] 89 (0, 0)), .obj gm (.cells #[.map (some q)] 126 (0, 0)), .obj q (mObj kv25 (cntR (ns ++ [kitem x]).reverse))] := by
 have hS := hM
 have hxl := hx.len
 have hil := kitem_len hxl
 have hdl := ded_len ns
 have hok : MOk (fun xs : List Int => xs.length = 8) (cntR ns.reverse) := cnt_ok (fun y hy => hns y (List.mem_reverse.1 hy))
 have hcs := cnt_snoc ns (kitem x)
 have hds := ded_snoc ns (kitem x)
 have hcl : ns.count (kitem x) ≤ ns.length := List.count_le_length
 have hok2 : MOk (fun xs : List Int => xs.length = 8) (cntR (ns ++ [kitem x]).reverse) := by rw [hcs]; exact mput_ok (ok := fun xs : List Int => xs.length = 8) hil hok
 refine c_enter (l := [.agg (KA x), .pointer (some ⟨gm, 0, none⟩), .pointer (some ⟨gs, 0, none⟩), undef, undef, undef, undef, undef, undef, undef, undef, undef, undef, undef, undef, undef, undef, undef, undef, undef, undef]) Tryz.func97 rfl (by simp only [Tryz.ntmps97, List.size_toArray, List.length_cons, List.length_nil, Nat.reduceAdd, Nat.reduceSub, Array.replicate_succ, Array.replicate_zero, List.push_toArray, List.append_toArray, List.nil_append, List.cons_append]) ?_
 refine x_seq fun K1 hK1 => x_region ?_
 refine m_box hS (fun w1 g1 hS => ?_)
 try simp only [nY, aY] at hS ⊢
 obtain ⟨gk, hgk⟩ : ∃ z, z = g1 := ⟨_, rfl⟩
 rw [← hgk] at hS ⊢
 refine x_nil (hK1 _ _ ?_)
 refine x_seq fun K2 hK2 => ?_
 refine x_mixed_f [5, 7] 0 [4, 5, 6, 7, 8, 9, 10] (fun f w => St (OwnB [.vec O oc 25 8 (ded (ns)).length (nrows (ded (ns))), .obj gs (.cells #[.slice O (ded (ns)).length oc] 89 (0, 0)), .obj gm (.cells #[.map (some q)] 126 (0, 0)), .obj q (mObj kv25 (cntR (ns).reverse))]) w0 w [.obj gk (.cells (KA x) 61 (0, 0)), .vec O oc 25 8 (ded ns).length (nrows (ded ns)), .obj gs (.cells #[.slice O (ded ns).length oc] 89 (0, 0)), .obj gm (.cells #[.map (some q)] 126 (0, 0)), .obj q (mObj kv25 (cntR (ns ++ [kitem x]).reverse))]) (by kernel_rfl) (by kernel_rfl) (by kernel_rfl) (by decide) hS (fun w2 hS => ?mixpre101) ?mixrest101
 case mixpre101 =>
  refine p_nil ?_
  simp only [List.length_cons, List.length_nil, Nat.reduceAdd, Nat.reduceSub]
  refine any_go (i := 0) (by rfl) (by decide +kernel) (by decide +kernel) (by unfold noLate; decide) (go_yields w_none (fun w hS => m_load_obj U126 (hS := hS) (hv := by rfl))) ?_
  try simp only [nY, gY]
  refine any_go (i := 1) (by rfl) (by decide +kernel) (by decide +kernel) (by unfold noLate; decide) (go_yields w_none (fun w hS => m_fieldAddr U61 (hi := ti25))) ?_
  try simp only [nY, fY, gY]
  refine any_go (i := 2) (by rfl) (by decide +kernel) (by decide +kernel) (by unfold noLate; decide) (go_yields w_none (fun w hS => m_loada_obj U25 (hi := ti25) (hS := hS) (hfit := by (rw [zi_size (by omega)]; decide)))) ?_
  try simp only [nY, gY]
  rw [key_item hxl]
  refine any_step [3, 5] (by kernel_rfl) (by decide) (fun w3 hE => ⟨fun _ => (hS.ext hE).sel (by repeat (first | exact Sel.nil | (refine Sel.cons (by repeat (exact Del.head)) ?_))), ?_⟩)
  replace hS := hS.ext hE
  intro i hi
  simp only [List.mem_cons, List.not_mem_nil, or_false] at hi
  rcases hi with rfl | rfl
  ·
   refine any_op (by rfl) ?_
   refine s_go (m_lookup ky25 U126 ti3 (hy := rfl) (ha := by trivial) (hD := by assumption) (hS := hS)) ?_
   try simp only [nY]
   simp only [mget_put, if_true, eq_self, Option.getD_some, cnt_getD, List.count_reverse]
   refine x_nil ?_
   refine any_step [4, 5] (by kernel_rfl) (by decide) (fun w4 hE => ⟨fun _ => (hS.ext hE).sel (by repeat (first | exact Sel.nil | (refine Sel.cons (by repeat (exact Del.head)) ?_))), ?_⟩)
   replace hS := hS.ext hE
   intro i hi
   simp only [List.mem_cons, List.not_mem_nil, or_false] at hi
   rcases hi with rfl | rfl
   ·
    refine any_op (by rfl) ?_
    refine s_go (s_add (hc := by exact wr_i64 (by omega) (by omega))) ?_
    try simp only [nY]
    refine x_nil ?_
    refine any_step [5] (by kernel_rfl) (by decide) (fun w5 hE => ⟨fun _ => (hS.ext hE).sel (by repeat (first | exact Sel.nil | (refine Sel.cons (by repeat (exact Del.head)) ?_))), ?_⟩)
    replace hS := hS.ext hE
    intro i hi
    simp only [List.mem_cons, List.not_mem_nil, or_false] at hi
    subst hi
    refine any_op (by rfl) ?_
    refine m_mapEntry ky25 U126 ti3 (hy := rfl) (ha := by trivial) (hD := by assumption) (hS := hS) (h := fun w6 hS => ?_)
    try simp only [nY, aY] at hS ⊢
    simp only [cnt_getD, List.count_reverse]
    refine x_nil ?_
    refine any_step [6] (by kernel_rfl) (by decide) (fun w7 hE => ⟨fun hl => absurd (hl 5 (by decide)) (by decide +kernel), ?_⟩)
    replace hS := hS.ext hE
    intro i hi
    simp only [List.mem_cons, List.not_mem_nil, or_false] at hi
    subst hi
    refine any_op (by rfl) ?_
    refine s_go (s_extract (hv := rfl)) ?_
    try simp only [gY]
    try simp only [nY]
    refine x_nil ?_
    refine any_step [7] (by kernel_rfl) (by decide) (fun w8 hE => ⟨fun hl => absurd (hl 5 (by decide)) (by decide +kernel), ?_⟩)
    replace hS := hS.ext hE
    intro i hi
    simp only [List.mem_cons, List.not_mem_nil, or_false] at hi
    subst hi
    refine any_op (by rfl) ?_
    refine m_entryStore (hS := hS) (h := fun w9 hS => ?_)
    try simp only [nY, aY] at hS ⊢
    refine x_nil ?_
    refine any_nil (by kernel_rfl) (fun w10 hE => ?_)
    replace hS := hS.ext hE
    refine ⟨fun hl => absurd (hl 5 (by decide)) (by decide +kernel), ?_⟩
    refine mix_leaf (by simp only [clob, List.foldl, nZ]) ?_
    try simp only [n1, n2]
    rw [hcs]; exact hS.sel (by repeat (first | exact Sel.nil | (refine Sel.cons (by repeat (exact Del.head)) ?_)))
   refine any_op (by rfl) ?_
   refine m_mapEntry ky25 U126 ti3 (hy := rfl) (ha := by trivial) (hD := by assumption) (hS := hS) (h := fun w11 hS => ?_)
   try simp only [nY, aY] at hS ⊢
   simp only [cnt_getD, List.count_reverse]
   refine x_nil ?_
   refine any_step [4, 6] (by kernel_rfl) (by decide) (fun w12 hE => ⟨fun hl => absurd (hl 5 (by decide)) (by decide +kernel), ?_⟩)
   replace hS := hS.ext hE
   intro i hi
   simp only [List.mem_cons, List.not_mem_nil, or_false] at hi
   rcases hi with rfl | rfl
   ·
    refine any_op (by rfl) ?_
    refine s_go (s_add (hc := by exact wr_i64 (by omega) (by omega))) ?_
    try simp only [nY]
    refine x_nil ?_
    refine any_step [6] (by kernel_rfl) (by decide) (fun w13 hE => ⟨fun hl => absurd (hl 5 (by decide)) (by decide +kernel), ?_⟩)
    replace hS := hS.ext hE
    intro i hi
    simp only [List.mem_cons, List.not_mem_nil, or_false] at hi
    subst hi
    refine any_op (by rfl) ?_
    refine s_go (s_extract (hv := rfl)) ?_
    try simp only [gY]
    try simp only [nY]
    refine x_nil ?_
    refine any_step [7] (by kernel_rfl) (by decide) (fun w14 hE => ⟨fun hl => absurd (hl 5 (by decide)) (by decide +kernel), ?_⟩)
    replace hS := hS.ext hE
    intro i hi
    simp only [List.mem_cons, List.not_mem_nil, or_false] at hi
    subst hi
    refine any_op (by rfl) ?_
    refine m_entryStore (hS := hS) (h := fun w15 hS => ?_)
    try simp only [nY, aY] at hS ⊢
    refine x_nil ?_
    refine any_nil (by kernel_rfl) (fun w16 hE => ?_)
    replace hS := hS.ext hE
    refine ⟨fun hl => absurd (hl 5 (by decide)) (by decide +kernel), ?_⟩
    refine mix_leaf (by simp only [clob, List.foldl, nZ]) ?_
    try simp only [n1, n2]
    rw [hcs]; exact hS.sel (by repeat (first | exact Sel.nil | (refine Sel.cons (by repeat (exact Del.head)) ?_)))
   refine any_op (by rfl) ?_
   refine s_go (s_extract (hv := rfl)) ?_
   try simp only [gY]
   try simp only [nY]
   refine x_nil ?_
   refine any_step [4] (by kernel_rfl) (by decide) (fun w17 hE => ⟨fun hl => absurd (hl 5 (by decide)) (by decide +kernel), ?_⟩)
   replace hS := hS.ext hE
   intro i hi
   simp only [List.mem_cons, List.not_mem_nil, or_false] at hi
   subst hi
   refine any_op (by rfl) ?_
   refine s_go (s_add (hc := by exact wr_i64 (by omega) (by omega))) ?_
   try simp only [nY]
   refine x_nil ?_
   refine any_step [7] (by kernel_rfl) (by decide) (fun w18 hE => ⟨fun hl => absurd (hl 5 (by decide)) (by decide +kernel), ?_⟩)
   replace hS := hS.ext hE
   intro i hi
   simp only [List.mem_cons, List.not_mem_nil, or_false] at hi
   subst hi
   refine any_op (by rfl) ?_
   refine m_entryStore (hS := hS) (h := fun w19 hS => ?_)
   try simp only [nY, aY] at hS ⊢
   refine x_nil ?_
   refine any_nil (by kernel_rfl) (fun w20 hE => ?_)
   replace hS := hS.ext hE
   refine ⟨fun hl => absurd (hl 5 (by decide)) (by decide +kernel), ?_⟩
   refine mix_leaf (by simp only [clob, List.foldl, nZ]) ?_
   try simp only [n1, n2]
   rw [hcs]; exact hS.sel (by repeat (first | exact Sel.nil | (refine Sel.cons (by repeat (exact Del.head)) ?_)))
  refine any_op (by rfl) ?_
  refine m_mapEntry ky25 U126 ti3 (hy := rfl) (ha := by trivial) (hD := by assumption) (hS := hS) (h := fun w21 hS => ?_)
  try simp only [nY, aY] at hS ⊢
  simp only [cnt_getD, List.count_reverse]
  refine x_nil ?_
  refine any_step [3, 6] (by kernel_rfl) (by decide) (fun w22 hE => ⟨fun hl => absurd (hl 5 (by decide)) (by decide +kernel), ?_⟩)
  replace hS := hS.ext hE
  intro i hi
  simp only [List.mem_cons, List.not_mem_nil, or_false] at hi
  rcases hi with rfl | rfl
  ·
   refine any_op (by rfl) ?_
   refine s_go (m_lookup ky25 U126 ti3 (hy := rfl) (ha := by trivial) (hD := by exact mput_ok (by assumption) (by assumption)) (hS := hS)) ?_
   try simp only [nY]
   simp only [mget_put, if_true, eq_self, Option.getD_some, cnt_getD, List.count_reverse]
   refine x_nil ?_
   refine any_step [4, 6] (by kernel_rfl) (by decide) (fun w23 hE => ⟨fun hl => absurd (hl 5 (by decide)) (by decide +kernel), ?_⟩)
   replace hS := hS.ext hE
   intro i hi
   simp only [List.mem_cons, List.not_mem_nil, or_false] at hi
   rcases hi with rfl | rfl
   ·
    refine any_op (by rfl) ?_
    refine s_go (s_add (hc := by exact wr_i64 (by omega) (by omega))) ?_
    try simp only [nY]
    refine x_nil ?_
    refine any_step [6] (by kernel_rfl) (by decide) (fun w24 hE => ⟨fun hl => absurd (hl 5 (by decide)) (by decide +kernel), ?_⟩)
    replace hS := hS.ext hE
    intro i hi
    simp only [List.mem_cons, List.not_mem_nil, or_false] at hi
    subst hi
    refine any_op (by rfl) ?_
    refine s_go (s_extract (hv := rfl)) ?_
    try simp only [gY]
    try simp only [nY]
    refine x_nil ?_
    refine any_step [7] (by kernel_rfl) (by decide) (fun w25 hE => ⟨fun hl => absurd (hl 5 (by decide)) (by decide +kernel), ?_⟩)
    replace hS := hS.ext hE
    intro i hi
    simp only [List.mem_cons, List.not_mem_nil, or_false] at hi
    subst hi
    refine any_op (by rfl) ?_
    refine m_entryStore (hS := hS) (h := fun w26 hS => ?_)
    try simp only [nY, aY] at hS ⊢
    refine x_nil ?_
    refine any_nil (by kernel_rfl) (fun w27 hE => ?_)
    replace hS := hS.ext hE
    refine ⟨fun hl => absurd (hl 5 (by decide)) (by decide +kernel), ?_⟩
    refine mix_leaf (by simp only [clob, List.foldl, nZ]) ?_
    try simp only [n1, n2]
    rw [hcs]; exact hS.sel (by repeat (first | exact Sel.nil | (refine Sel.cons (by repeat (exact Del.head)) ?_)))
   refine any_op (by rfl) ?_
   refine s_go (s_extract (hv := rfl)) ?_
   try simp only [gY]
   try simp only [nY]
   refine x_nil ?_
   refine any_step [4] (by kernel_rfl) (by decide) (fun w28 hE => ⟨fun hl => absurd (hl 5 (by decide)) (by decide +kernel), ?_⟩)
   replace hS := hS.ext hE
   intro i hi
   simp only [List.mem_cons, List.not_mem_nil, or_false] at hi
   subst hi
   refine any_op (by rfl) ?_
   refine s_go (s_add (hc := by exact wr_i64 (by omega) (by omega))) ?_
   try simp only [nY]
   refine x_nil ?_
   refine any_step [7] (by kernel_rfl) (by decide) (fun w29 hE => ⟨fun hl => absurd (hl 5 (by decide)) (by decide +kernel), ?_⟩)
   replace hS := hS.ext hE
   intro i hi
   simp only [List.mem_cons, List.not_mem_nil, or_false] at hi
   subst hi
   refine any_op (by rfl) ?_
   refine m_entryStore (hS := hS) (h := fun w30 hS => ?_)
   try simp only [nY, aY] at hS ⊢
   refine x_nil ?_
   refine any_nil (by kernel_rfl) (fun w31 hE => ?_)
   replace hS := hS.ext hE
   refine ⟨fun hl => absurd (hl 5 (by decide)) (by decide +kernel), ?_⟩
   refine mix_leaf (by simp only [clob, List.foldl, nZ]) ?_
   try simp only [n1, n2]
   rw [hcs]; exact hS.sel (by repeat (first | exact Sel.nil | (refine Sel.cons (by repeat (exact Del.head)) ?_)))
  refine any_op (by rfl) ?_
  refine s_go (s_extract (hv := rfl)) ?_
  try simp only [gY]
  try simp only [nY]
  refine x_nil ?_
  refine any_step [3] (by kernel_rfl) (by decide) (fun w32 hE => ⟨fun hl => absurd (hl 5 (by decide)) (by decide +kernel), ?_⟩)
  replace hS := hS.ext hE
  intro i hi
  simp only [List.mem_cons, List.not_mem_nil, or_false] at hi
  subst hi
  refine any_op (by rfl) ?_
  refine s_go (m_lookup ky25 U126 ti3 (hy := rfl) (ha := by trivial) (hD := by exact mput_ok (by assumption) (by assumption)) (hS := hS)) ?_
  try simp only [nY]
  simp only [mget_put, if_true, eq_self, Option.getD_some, cnt_getD, List.count_reverse]
  refine x_nil ?_
  refine any_step [4] (by kernel_rfl) (by decide) (fun w33 hE => ⟨fun hl => absurd (hl 5 (by decide)) (by decide +kernel), ?_⟩)
  replace hS := hS.ext hE
  intro i hi
  simp only [List.mem_cons, List.not_mem_nil, or_false] at hi
  subst hi
  refine any_op (by rfl) ?_
  refine s_go (s_add (hc := by exact wr_i64 (by omega) (by omega))) ?_
  try simp only [nY]
  refine x_nil ?_
  refine any_step [7] (by kernel_rfl) (by decide) (fun w34 hE => ⟨fun hl => absurd (hl 5 (by decide)) (by decide +kernel), ?_⟩)
  replace hS := hS.ext hE
  intro i hi
  simp only [List.mem_cons, List.not_mem_nil, or_false] at hi
  subst hi
  refine any_op (by rfl) ?_
  refine m_entryStore (hS := hS) (h := fun w35 hS => ?_)
  try simp only [nY, aY] at hS ⊢
  refine x_nil ?_
  refine any_nil (by kernel_rfl) (fun w36 hE => ?_)
  replace hS := hS.ext hE
  refine ⟨fun hl => absurd (hl 5 (by decide)) (by decide +kernel), ?_⟩
  refine mix_leaf (by simp only [clob, List.foldl, nZ]) ?_
  try simp only [n1, n2]
  rw [hcs]; exact hS.sel (by repeat (first | exact Sel.nil | (refine Sel.cons (by repeat (exact Del.head)) ?_)))
 intro fm1 w37 hM
 replace hS := hM
 simp only [clob, List.foldl, n3, n4]
 refine hK2 _ _ ?_
 refine x_seq fun K3 hK3 => x_region ?_
 refine s_go (m_load_obj U126 (hS := hS) (hv := by rfl)) ?_
 try simp only [nY, gY]
 refine s_go (m_fieldAddr U61 (hi := ti25)) ?_
 try simp only [nY, fY, gY]
 refine s_go (m_loada_obj U25 (hi := ti25) (hS := hS) (hfit := by (rw [zi_size (by omega)]; decide))) ?_
 try simp only [nY, gY]
 rw [key_item hxl]
 refine s_go (m_lookup ky25 U126 ti3 (hy := rfl) (ha := by trivial) (hD := by assumption) (hS := hS)) ?_
 try simp only [nY]
 rw [hcs]
 simp only [mget_put, if_true, eq_self, Option.getD_some]
 refine s_go s_eql ?_
 try simp only [nY]
 refine x_nil (hK3 _ _ ?_)
 refine x_cond (ht := fun hc1 => ?_) (hf := fun hc1 => ?_)
 ·
  try simp only [dY] at hc1
  have hnm : kitem x ∉ ns := fun h => by (have := List.count_pos_iff.2 h); omega
  rw [if_neg hnm] at hds
  refine x_region ?_
  refine s_go (m_load_obj U89 (hS := hS) (hv := by rfl)) ?_
  try simp only [nY, gY]
  refine s_go (m_fieldAddr U61 (hi := ti25)) ?_
  try simp only [nY, fY, gY]
  refine s_go (m_loada_obj U25 (hi := ti25) (hS := hS) (hfit := by (rw [zi_size (by omega)]; decide))) ?_
  try simp only [nY, gY]
  rw [key_item hxl]
  refine m_buildRow (cells := (ic .u8 (kitem x))) U89 ti25 (hc := by simp only [List.map_toArray, List.map_cons, List.map_nil, nY, List.toList_toArray]; exact fill_one (by rfl) (by rw [ic_size]; exact hil) (by rfl)) (hS := hS) (h := fun w38 g38 hS => ?_)
  try simp only [nY, aY] at hS ⊢
  replace hS := hS.obj_rd (sz := 8) (n := 1) (by rw [ic_size, hil]) .head
  rw [nrow_one hil] at hS
  refine m_append U89 ti25 (hS := hS) (h1 := rowsZ_cells _ _) (h := fun w39 A39 C39 hS => ?_)
  try simp only [← List.map_append, ← List.map_drop, ← List.map_take, Nat.mul_one, Nat.zero_mul, Nat.sub_zero, List.drop_zero, List.nil_append, Nat.zero_add] at hS ⊢
  try simp only [nY, aY] at hS ⊢
  rw [nadd_one] at hS
  refine m_store_obj ti89 (hS := hS) (hc := by (exact splice_whole (by (simp [opv, Value.cells, *]; done)))) (hv := by rfl) (hfit := by (simp [*]; done)) (h1 := by simp [opv, Value.cells, Value.oneCell']) (h := fun w40 hS => ?_)
  try simp only [nY, aY] at hS ⊢
  refine x_nil ?_
  refine r_none rfl ?_
  (rw [hds]; rw [show (ded ns).length + 1 = (ded ns ++ [kitem x]).length by rw [List.length_append]; rfl] at hS; exact ⟨_, _, rfl, hS.selA⟩)
 try simp only [dY] at hc1
 have hnm : kitem x ∈ ns := List.count_pos_iff.1 (by omega)
 rw [if_pos hnm] at hds
 refine x_skip ?_
 refine r_none rfl ?_
 (rw [hds]; exact ⟨_, _, rfl, hS.selA⟩)
theorem c_tagsEachItems (w0 : World) (A : Option Addr) (c : Nat) (l : List (List Int)) (hr : Rd w0 A 21 l.length (arows l)) (hv : AOks l) (hn : l.length ≤ 1000000000) (gm q gs gc ct : Nat) (hM : St (OwnB [.obj gs (.cells #[.slice none 0 0] 89 (0, 0)), .obj gm (.cells #[.map (some q)] 126 (0, 0)), .obj q (mObj kv25 []), .obj gc (.cells #[.int .u16 (ct : Int)] 23 (0, 0)), .rd A 21 (l).length (arows (l))]) w0 w0 [.obj gs (.cells #[.slice none 0 0] 89 (0, 0)), .obj gm (.cells #[.map (some q)] 126 (0, 0)), .obj q (mObj kv25 []), .obj gc (.cells #[.int .u16 (ct : Int)] 23 (0, 0)), .rd A 21 (l).length (arows (l))])  :
    CallR Tryz.prog 87 #[.slice A l.length c, .func (.func 96) #[] #[.pointer (some ⟨gc, 0, none⟩)], .func (.func 97) #[] #[.pointer (some ⟨gm, 0, none⟩), .pointer (some ⟨gs, 0, none⟩)]] w0 fun v w' => ∃ (O : Option Addr) (oc : Nat), v = .tuple #[] ∧ St (OwnB [.obj gs (.cells #[.slice none 0 0] 89 (0, 0)), .obj gm (.cells #[.map (some q)] 126 (0, 0)), .obj q (mObj kv25 []), .obj gc (.cells #[.int .u16 (ct : Int)] 23 (0, 0)), .rd A 21 (l).length (arows (l))]) w0 w' [.vec O oc 25 8 (itmS (normP l) ct).length (nrows (itmS (normP l) ct)), .obj gs (.cells #[.slice O (itmS (normP l) ct).length oc] 89 (0, 0))] := by
 have hS := hM
 have hno := (norm_sta hv).ok
 have hkn := (norm_sta hv).knd
 have hnl := arows_len (normP l)
 have hnb := norm_len l
 have hsn := norm_sta hv
 refine y_enter (l := [.slice A l.length c, .func (.func 96) #[] #[.pointer (some ⟨gc, 0, none⟩)], .func (.func 97) #[] #[.pointer (some ⟨gm, 0, none⟩), .pointer (some ⟨gs, 0, none⟩)], undef, undef, undef, undef, undef, undef, undef, undef, undef, undef, undef, undef, undef, undef, undef, undef, undef, undef, undef, undef, undef]) Tryz.func87 rfl (by simp only [Tryz.ntmps87, List.size_toArray, List.length_cons, List.length_nil, Nat.reduceAdd, Nat.reduceSub, Array.replicate_succ, Array.replicate_zero, List.push_toArray, List.append_toArray, List.nil_append, List.cons_append]) ?_
 refine y_seq fun K1 hK1 => ?_
 refine y_region (by kernel_rfl) ?_
 refine m_box hS (fun w1 g1 hS => ?_)
 try simp only [nY, aY] at hS ⊢
 obtain ⟨gf, hgf⟩ : ∃ z, z = g1 := ⟨_, rfl⟩
 rw [← hgf] at hS ⊢
 refine m_box hS (fun w2 g2 hS => ?_)
 try simp only [nY, aY] at hS ⊢
 obtain ⟨gd, hgd⟩ : ∃ z, z = g2 := ⟨_, rfl⟩
 rw [← hgd] at hS ⊢
 replace hS := hS.nil_vec 25 8
 refine y_nilf ?_
 refine hK1 _ _ ?_
 refine y_seq fun K2 hK2 => ?_
 refine y_region (by kernel_rfl) ?_
 refine s_go s_move ?_
 try simp only [nY]
 refine s_call en81 ?_
 try simp only [nY, mY]
 refine CallR.mono (c_latEach A c l _) ?_
 rintro _ w3 ⟨b, rfl, hC3⟩
 replace hS := hS.call hC3
 simp only [List.cons_append, List.nil_append] at hS
 try simp only [nY]
 refine y_nilf ?_
 refine hK2 _ _ ?_
 refine y_block ?_
 replace hS : St (OwnB [.obj gs (.cells #[.slice none 0 0] 89 (0, 0)), .obj gm (.cells #[.map (some q)] 126 (0, 0)), .obj q (mObj kv25 []), .obj gc (.cells #[.int .u16 (ct : Int)] 23 (0, 0)), .rd A 21 (l).length (arows (l))]) w0 w3 [.obj b (.cells #[.slice A l.length c] 22 (0, 0)), .rd A 21 (l).length (arows (l)), .vec none 0 25 8 0 [], .obj gs (.cells #[.slice none 0 0] 89 (0, 0)), .obj gm (.cells #[.map (some q)] 126 (0, 0)), .obj q (mObj kv25 []), .obj gf (.cells #[.func (.func 96) #[] #[.pointer (some ⟨gc, 0, none⟩)]] 118 (0, 0)), .obj gd (.cells #[.func (.func 97) #[] #[.pointer (some ⟨gm, 0, none⟩), .pointer (some ⟨gs, 0, none⟩)]] 120 (0, 0)), .obj gc (.cells #[.int .u16 (ct : Int)] 23 (0, 0))] := hS.selA
 refine y_range rfl en103 (i_latEach b A c l hv hn) (fun _ => rfl) hS (by repeat (first | exact Spl.nil | (apply Spl.cons (by repeat (exact Del.head))))) (fun k L => k ≤ (normP l).length ∧ ∃ (O : Option Addr) (oc : Nat), L = [.vec O oc 25 8 (ded (nmsS ((normP l).take k) ct)).length (nrows (ded (nmsS ((normP l).take k) ct))), .obj gs (.cells #[.slice O (ded (nmsS ((normP l).take k) ct)).length oc] 89 (0, 0)), .obj gm (.cells #[.map (some q)] 126 (0, 0)), .obj q (mObj kv25 (cntR (nmsS ((normP l).take k) ct).reverse)), .obj gf (.cells #[.func (.func 96) #[] #[.pointer (some ⟨gc, 0, none⟩)]] 118 (0, 0)), .obj gd (.cells #[.func (.func 97) #[] #[.pointer (some ⟨gm, 0, none⟩), .pointer (some ⟨gs, 0, none⟩)]] 120 (0, 0)), .obj gc (.cells #[.int .u16 (ct : Int)] 23 (0, 0))]) (fun L => False) [] ?rfh1 ?rfr1 (fun D1 T1 w4 R1 hC hS => ?rfd1) (fun D1 T1 w5 R1 hX hS => ?rft1) ?rfe1
 case rfh1 =>
  exact ⟨Nat.zero_le _, none, 0, rfl⟩
 case rfr1 =>
  intro k1 w6 R1 T1 lr1 hk1 hC hS
  obtain ⟨hk0, O, oc, rfl⟩ := hC
  simp only [List.cons_append, List.nil_append] at hS
  simp only [List.toList_toArray, entL, List.zip_cons_cons, List.zip_nil_left, List.foldl_cons, List.foldl_nil, n3, n4]
  obtain ⟨x, hx⟩ : ∃ x, (normP l).getD k1 [] = x := ⟨_, rfl⟩
  have ha : AtomOk x := by rw [← hx]; exact hno.get (by omega)
  have hal := ha.len
  have hk12 := ha.key.len
  have hvx := ha.val
  have hx9 := hvx.len
  simp only [hx]
  have hkx := ha.key
  have hk01 := akey_k hal
  have hnt := nms_take (c := ct) hk1 hx
  have hlh := live_here ha ct
  have hnl8 := nms_eight (hno.take k1) ct
  have hnle := nms_len ((normP l).take k1) ct
  have hlt : ((normP l).take k1).length ≤ (normP l).length := by rw [List.length_take]; omega
  refine y_seq fun K3 hK3 => ?_
  refine y_region (by kernel_rfl) ?_
  refine m_alloc ti61 hS (fun w7 g7 hS => ?_)
  try simp only [nY, aY] at hS ⊢
  have h0l : key0.length = 12 := rfl
  replace hS : St _ _ w7 (.obj g7 (.cells (KA key0) 61 (0, 0)) :: _) := hS
  refine m_store_obj ti61 (hS := hS) (hc := by exact zi_whole (by omega) (by omega)) (hv := by (show (zi _ _).toArray.size = _; rw [zi_size (by omega)]; rfl)) (hfit := by (rw [zi_size (by omega)]; decide)) (h1 := by exact zi_one _ _) (h := fun w8 hS => ?_)
  try simp only [nY, aY] at hS ⊢
  refine y_nilf ?_
  refine hK3 _ _ ?_
  refine y_region (by kernel_rfl) ?_
  refine m_alloc ti64 hS (fun w9 g9 hS => ?_)
  try simp only [nY, aY] at hS ⊢
  have h9l : v9.length = 9 := rfl
  replace hS : St _ _ w9 (.obj g9 (.cells (VA v9) 64 (0, 0)) :: _) := hS
  refine m_store_obj ti64 (hS := hS) (hc := by exact zi_whole (by omega) (by omega)) (hv := by (show (zi _ _).toArray.size = _; rw [zi_size (by omega)]; rfl)) (hfit := by (rw [zi_size (by omega)]; decide)) (h1 := by exact zi_one _ _) (h := fun w10 hS => ?_)
  try simp only [nY, aY] at hS ⊢
  refine y_nilf ?_
  refine round_open hS (by repeat (first | exact App.nil | apply App.cons)) (fun w11 T2 hS => ?_)
  simp only [List.cons_append, List.nil_append] at hS
  refine y_block ?_
  refine y_seq fun K4 hK4 => ?_
  refine y_region (by kernel_rfl) ?_
  refine s_go (m_fieldAddr U61 (hi := ti5)) ?_
  try simp only [nY, fY, gY]
  refine s_go (m_load_obj U5 (hS := hS) (hv := by exact zi_get rfl (by omega))) ?_
  try simp only [nY, gY]
  rw [hkx.e0, hk01.1]
  refine s_go s_eql ?_
  try simp only [nY]
  refine s_go s_move ?_
  try simp only [nY]
  refine s_part 15 rfl (fun hp1 => ?_) (fun hp1 => ?_)
  ·
   try simp only [n3, n4]
   try simp only [dZ, ne_eq] at hp1
   have q1 : decide (kn x 0 = 1) = true := decide_eq_true (by omega)
   refine g_on (yi (t := 15) rfl rfl) ?_
   refine s_go (m_load_obj U118 (hS := hS) (hv := by rfl)) ?_
   try simp only [nY, gY]
   refine g_on (yi (t := 15) rfl rfl) ?_
   refine s_go (m_load_row U61 (hi := ti61) (hS := hS) (hfit := by (rw [zi_size (by omega)]; rfl))) ?_
   try simp only [nY, gY]
   refine g_on (yi (t := 15) rfl rfl) ?_
   refine s_go (m_load_row U64 (hi := ti64) (hS := hS) (hfit := by (rw [zi_size (by omega)]; rfl))) ?_
   try simp only [nY, gY]
   refine g_on (yi (t := 15) rfl rfl) ?_
   refine s_callv (hv := rfl) en96 ?_
   try simp only [nY, mY]
   refine CallR.mono (c_itemsHere _ gc ct (akey x) (aval x) hkx hvx (hS.owns (by repeat (first | exact Spl.nil | (apply Spl.cons (by repeat (first | exact Del.head | apply Del.tail))))))) ?_
   rintro _ w12 ⟨rfl, hC12⟩
   replace hS := hS.frame (by repeat (first | exact Spl.nil | (apply Spl.cons (by repeat (first | exact Del.head | apply Del.tail))))) hC12 (by intro r hr g hg; simp only [List.mem_cons, List.not_mem_nil, or_false] at hr; rcases hr with rfl <;> (simp [Res.reads] at hg; done))
   simp only [List.cons_append, List.nil_append] at hS
   try simp only [nY]
   refine s_go s_pick_t ?_
   try simp only [nY]
   refine y_nilf ?_
   refine hK4 _ _ ?_
   refine y_cond (ht := fun hc1 => ?_) (hf := fun hc1 => ?_)
   ·
    try simp only [dY] at hc1
    have hst := hnt.1 (by rw [hlh, q1, hc1]; rfl)
    refine y_region (by kernel_rfl) ?_
    refine s_go (m_load_obj U120 (hS := hS) (hv := by rfl)) ?_
    try simp only [nY, gY]
    refine s_go (m_load_row U61 (hi := ti61) (hS := hS) (hfit := by (rw [zi_size (by omega)]; rfl))) ?_
    try simp only [nY, gY]
    refine s_callv (hv := rfl) en97 ?_
    try simp only [nY, mY]
    refine CallR.mono (c_itemsPut _ gm q gs O oc (nmsS ((normP l).take k1) ct) hnl8 (by omega) (akey x) hkx (hS.owns (by repeat (first | exact Spl.nil | (apply Spl.cons (by repeat (first | exact Del.head | apply Del.tail))))))) ?_
    rintro _ w13 ⟨O2, oc2, rfl, hC13⟩
    replace hS := hS.frame (by repeat (first | exact Spl.nil | (apply Spl.cons (by repeat (first | exact Del.head | apply Del.tail))))) hC13 (by intro r hr g hg; simp only [List.mem_cons, List.not_mem_nil, or_false] at hr; rcases hr with rfl | rfl | rfl | rfl <;> (simp [Res.reads] at hg; done))
    simp only [List.cons_append, List.nil_append] at hS
    try simp only [nY]
    refine y_nilf ?_
    rw [← hst] at hS
    exact ⟨_, ⟨by omega, _, _, rfl⟩, hS.sel (by repeat (first | exact Sel.self | (refine Sel.cons (by repeat (first | exact Del.head | apply Del.tail)) ?_) | apply Sel.skip))⟩
   try simp only [dY] at hc1
   try have hst := hnt.2 (by rw [hlh, q1, hc1]; rfl)
   refine y_skip ?_
   rw [← hst] at hS
   exact ⟨_, ⟨by omega, _, _, rfl⟩, hS.sel (by repeat (first | exact Sel.self | (refine Sel.cons (by repeat (first | exact Del.head | apply Del.tail)) ?_) | apply Sel.skip))⟩
  try simp only [n3, n4]
  try simp only [dZ, ne_eq] at hp1
  have hst := hnt.2 (by rw [hlh, decide_eq_false (show ¬ kn x 0 = 1 by omega)]; rfl)
  refine g_off (yi (t := 15) rfl rfl) ?_
  try simp only [nY]
  refine g_off (yi (t := 15) rfl rfl) ?_
  try simp only [nY]
  refine g_off (yi (t := 15) rfl rfl) ?_
  try simp only [nY]
  refine g_off (yi (t := 15) rfl rfl) ?_
  try simp only [nY]
  refine s_go s_pick_f ?_
  try simp only [nY]
  refine y_nilf ?_
  refine hK4 _ _ ?_
  refine y_cond_f (h := ?_)
  try have hst := hnt.2 (by rw [hlh, q1, @c]; rfl)
  refine y_skip ?_
  rw [← hst] at hS
  exact ⟨_, ⟨by omega, _, _, rfl⟩, hS.sel (by repeat (first | exact Sel.self | (refine Sel.cons (by repeat (first | exact Del.head | apply Del.tail)) ?_) | apply Sel.skip))⟩
 case rfd1 =>
  obtain ⟨hk0, O, oc, rfl⟩ := hC
  simp only [List.cons_append, List.nil_append] at hS
  refine rm_mark hS (by repeat (exact Upd.head)) (fun w14 hS => ?_)
  refine rm_nil ?_
  refine r_none rfl ?_
  rw [List.take_of_length_le (Nat.le_refl _)] at hS
  exact ⟨_, _, rfl, hS.selA⟩
 case rft1 =>
  exact hX.elim
 case rfe1 =>
  exact y_ex_nil
theorem c_tagsItems (w0 : World) (A : Option Addr) (c : Nat) (l : List (List Int)) (hr : Rd w0 A 21 l.length (arows l)) (hv : AOks l) (hn : l.length ≤ 1000000000) (ct : Nat) (hct : ct < 65536)  :
    CallR Tryz.prog 65 #[.slice A l.length c, .int .u16 (ct : Int)] w0 fun v w' => ∃ (O : Option Addr) (oc : Nat), v = .slice O (itmS (normP l) ct).length oc ∧ St NoB w0 w' [.vec O oc 25 8 (itmS (normP l) ct).length (nrows (itmS (normP l) ct))] := by
 have hS := St.rd1 (S := NoB) hr
 refine c_enter (l := [.slice A l.length c, .int .u16 (ct : Int), undef, undef, undef, undef, undef, undef, undef, undef, undef, undef, undef, undef]) Tryz.func65 rfl (by simp only [Tryz.ntmps65, List.size_toArray, List.length_cons, List.length_nil, Nat.reduceAdd, Nat.reduceSub, Array.replicate_succ, Array.replicate_zero, List.push_toArray, List.append_toArray, List.nil_append, List.cons_append]) ?_
 refine x_seq fun K1 hK1 => x_region ?_
 refine m_box hS (fun w1 g1 hS => ?_)
 try simp only [nY, aY] at hS ⊢
 obtain ⟨gc, hgc⟩ : ∃ z, z = g1 := ⟨_, rfl⟩
 rw [← hgc] at hS ⊢
 refine m_alloc ti89 hS (fun w2 g2 hS => ?_)
 try simp only [nY, aY] at hS ⊢
 obtain ⟨gs, hgs⟩ : ∃ z, z = g2 := ⟨_, rfl⟩
 rw [← hgs] at hS ⊢
 refine x_nil (hK1 _ _ ?_)
 refine x_seq fun K2 hK2 => x_region ?_
 refine m_makeMap kv25 hS (fun w3 g3 hS => ?_)
 try simp only [nY, aY] at hS ⊢
 obtain ⟨q, hq⟩ : ∃ z, z = g3 := ⟨_, rfl⟩
 rw [← hq] at hS ⊢
 refine m_alloc ti126 hS (fun w4 g4 hS => ?_)
 try simp only [nY, aY] at hS ⊢
 obtain ⟨gm, hgm⟩ : ∃ z, z = g4 := ⟨_, rfl⟩
 rw [← hgm] at hS ⊢
 refine m_store_obj ti126 (hS := hS) (h := fun w5 hS => ?_)
 try simp only [nY, aY] at hS ⊢
 refine x_nil (hK2 _ _ ?_)
 refine x_seq fun K3 hK3 => x_region ?_
 refine s_go s_makeFunc ?_
 try simp only [nY, List.map_toArray, List.map_cons, List.map_nil]
 refine s_go s_assign ?_
 try simp only [nY]
 refine x_nil (hK3 _ _ ?_)
 refine x_seq fun K4 hK4 => x_region ?_
 refine s_go s_move ?_
 try simp only [nY]
 refine s_go s_move ?_
 try simp only [nY]
 refine s_go s_makeFunc ?_
 try simp only [nY, List.map_toArray, List.map_cons, List.map_nil]
 refine s_call en87 ?_
 try simp only [nY, mY]
 refine CallR.mono (c_tagsEachItems _ A c l (hS.hasA) hv hn gm q gs gc ct (hS.owns (by repeat (first | exact Spl.nil | (apply Spl.cons (by repeat (first | exact Del.head | apply Del.tail))))))) ?_
 rintro _ w6 ⟨O, oc, rfl, hC6⟩
 replace hS := hS.frame (by repeat (first | exact Spl.nil | (apply Spl.cons (by repeat (first | exact Del.head | apply Del.tail))))) hC6 (by intro r hr g hg; simp only [List.mem_cons, List.not_mem_nil, or_false] at hr; rcases hr with rfl | rfl <;> (simp [Res.reads] at hg; done))
 simp only [List.cons_append, List.nil_append] at hS
 try simp only [nY]
 refine x_nil (hK4 _ _ ?_)
 refine x_seq fun K5 hK5 => x_region ?_
 refine s_go (m_load_obj U89 (hS := hS)) ?_
 try simp only [nY, gY]
 refine m_store_obj ti89 (hS := hS) (h := fun w7 hS => ?_)
 try simp only [nY, aY] at hS ⊢
 refine x_nil (hK5 _ _ ?_)
 refine x_ret ?_
 refine r_cell_one rfl U89 (hS := hS) (hR := ?_)
 exact ⟨_, _, rfl, hS.sel (by repeat (first | exact Sel.nil | (refine Sel.cons (by repeat (exact Del.head)) ?_)))⟩
end Go.Proofs.YtpekghaodmeemaaGreat
set_option linter.unusedSimpArgs false
set_option linter.unusedVariables false
set_option maxHeartbeats 2000000
set_option maxRecDepth 100000
namespace Go.Proofs.YtpekghaodmeemaaGreat
open Go.RowKit

def hv2 (s : List (List Int)) (x : List Int) : Nat := kn ((fnd x s).getD v9) 0
def refT (s : List (List Int)) (c : Nat) (it : List Int) : Nat → Int
  | 0 => 0
  | k + 1 => refT s c it k + (hv2 s (turnK 2 k c it) : Int) - (hv2 s (turnK 3 k c it) : Int)
theorem half_hv {l : List (List Int)} {s r c : Nat} {it : List Int} (hs : s = 2 ∨ s = 3) : halfN l (turnK s r c it) = hv2 (normP l) (turnK s r c it) := by rw [halfN, if_pos (turnK_half hs)]; rfl
theorem hv_le {l : List (List Int)} (hv : AOks l) {s r c : Nat} {it : List Int} (hs : s = 2 ∨ s = 3) (hr : r < 256) (hc : c < 65536) (h8 : it.length = 8) (hb : Byt it) : hv2 (normP l) (turnK s r c it) ≤ 4294967295 := by
  rw [← half_hv hs]; exact half_le hv (turnK_ok hs hr hc h8 hb)
theorem refT_le {l : List (List Int)} (hv : AOks l) {c : Nat} {it : List Int} (hc : c < 65536) (h8 : it.length = 8) (hb : Byt it) : ∀ k : Nat, k ≤ 256 → -(4294967295 * (k : Int)) ≤ refT (normP l) c it k ∧ refT (normP l) c it k ≤ 4294967295 * (k : Int)
  | 0, _ => by simp [refT]
  | k + 1, hk => by
    have h1 := refT_le hv hc h8 hb k (by omega)
    have h2 := hv_le hv (s := 2) (.inl rfl) (show k < 256 by omega) hc h8 hb
    have h3 := hv_le hv (s := 3) (.inr rfl) (show k < 256 by omega) hc h8 hb
    rw [refT]; omega
theorem key_turn {x : List Int} (hx : KeyOk x) (h11 : kn x 11 = 0) {s k c : Nat} {it : List Int} (h8 : it.length = 8) : x = turnK s k c it ↔ kn x 0 = s ∧ kn x 1 = c ∧ kitem x = it ∧ kn x 10 = k := by
  constructor
  · rintro rfl
    exact ⟨mk_0, mk_1, mk_item h8, mk_10 h8⟩
  · rintro ⟨rfl, rfl, rfl, rfl⟩
    have := key_cut hx.len
    rw [hx.e0, hx.e1, hx.e10, hx.e11, h11] at this
    exact this
theorem hv2_cons {a : List Int} {s : List (List Int)} {x : List Int} : hv2 (a :: s) x = if akey a = x then kn (aval a) 0 else hv2 s x := by
  unfold hv2
  rw [show fnd x (a :: s) = if akey a = x then some (aval a) else fnd x s from rfl]
  split <;> rfl
theorem hv2_none {s : List (List Int)} {x : List Int} (h : fnd x s = none) : hv2 s x = 0 := by unfold hv2; rw [h]; rfl
def hitT (c : Nat) (it : List Int) (k : Nat) (a : List Int) : Int := if kn (akey a) 10 < k then totA c it a else 0
theorem refT_cons {a : List Int} {s : List (List Int)} (h : StaR (a :: s)) {c : Nat} {it : List Int} (h8 : it.length = 8) : ∀ k : Nat, refT (a :: s) c it k = refT s c it k + hitT c it k a
  | 0 => by simp [refT, hitT]
  | k + 1 => by
    have ih := refT_cons h (c := c) h8 k
    have ha := h.ok a (by simp)
    have hr := h.right a (by simp)
    have hk := ha.key
    have hno : fnd (akey a) s = none := fnd_none.2 fun d hd e => by have := h.head d hd; rw [e] at this; omega
    have e0 := (akey_k ha.len).1
    have e1 := (akey_k ha.len).2
    rw [refT, refT, ih, hv2_cons, hv2_cons]
    by_cases hs : kn a 0 = 2 ∨ kn a 0 = 3
    · have h11 : kn (akey a) 11 = 0 := by
        rw [atomR, Bool.and_eq_true] at hr
        have h1 := hr.1
        unfold keyR at h1
        rw [if_neg (by omega), if_neg (by omega), if_pos (by omega)] at h1
        simp only [Bool.and_eq_true, decide_eq_true_eq] at h1
        exact h1.1.1
      by_cases hq : kn a 1 = c ∧ kitem (akey a) = it
      · by_cases hk10 : kn (akey a) 10 = k
        · have h0 : hitT c it k a = 0 := by rw [hitT, if_neg (by omega)]
          have h1 : hitT c it (k + 1) a = totA c it a := by rw [hitT, if_pos (by omega)]
          have ht : totA c it a = if kn a 0 = 2 then (kn (aval a) 0 : Int) else -(kn (aval a) 0 : Int) := by rw [totA, if_pos ⟨hs, hq.1, hq.2⟩]
          rw [h0, h1, ht]
          rcases hs with hs | hs
          · have e2 : akey a = turnK 2 k c it := (key_turn hk h11 h8).2 ⟨by omega, by omega, hq.2, hk10⟩
            have e3 : ¬ akey a = turnK 3 k c it := fun e => by have := ((key_turn hk h11 h8).1 e).1; omega
            have hz : hv2 s (turnK 2 k c it) = 0 := hv2_none (by rw [← e2]; exact hno)
            rw [if_pos e2, if_neg e3, if_pos hs, hz]; omega
          · have e3 : akey a = turnK 3 k c it := (key_turn hk h11 h8).2 ⟨by omega, by omega, hq.2, hk10⟩
            have e2 : ¬ akey a = turnK 2 k c it := fun e => by have := ((key_turn hk h11 h8).1 e).1; omega
            have hz : hv2 s (turnK 3 k c it) = 0 := hv2_none (by rw [← e3]; exact hno)
            rw [if_neg e2, if_pos e3, if_neg (by omega), hz]; omega
        · have e2 : ¬ akey a = turnK 2 k c it := fun e => hk10 ((key_turn hk h11 h8).1 e).2.2.2
          have e3 : ¬ akey a = turnK 3 k c it := fun e => hk10 ((key_turn hk h11 h8).1 e).2.2.2
          rw [if_neg e2, if_neg e3]
          have : hitT c it (k + 1) a = hitT c it k a := by
            unfold hitT
            by_cases hl : kn (akey a) 10 < k
            · rw [if_pos hl, if_pos (by omega)]
            · rw [if_neg hl, if_neg (by omega)]
          omega
      · have e2 : ¬ akey a = turnK 2 k c it := fun e => hq ⟨by have := ((key_turn hk h11 h8).1 e).2.1; omega, ((key_turn hk h11 h8).1 e).2.2.1⟩
        have e3 : ¬ akey a = turnK 3 k c it := fun e => hq ⟨by have := ((key_turn hk h11 h8).1 e).2.1; omega, ((key_turn hk h11 h8).1 e).2.2.1⟩
        have ht : totA c it a = 0 := by rw [totA, if_neg (fun q => hq q.2)]
        rw [if_neg e2, if_neg e3]
        unfold hitT
        rw [ht]; simp only [ite_self]; omega
    · have e2 : ¬ akey a = turnK 2 k c it := fun e => hs (.inl (by have := congrArg (fun x => kn x 0) e; simp only [turnK, mk_0] at this; omega))
      have e3 : ¬ akey a = turnK 3 k c it := fun e => hs (.inr (by have := congrArg (fun x => kn x 0) e; simp only [turnK, mk_0] at this; omega))
      have ht : totA c it a = 0 := by rw [totA, if_neg (fun q => hs q.1)]
      rw [if_neg e2, if_neg e3]
      unfold hitT
      rw [ht]; simp only [ite_self]; omega
theorem refT_nil (c : Nat) (it : List Int) : ∀ k, refT [] c it k = 0
  | 0 => rfl
  | k + 1 => by
    rw [refT, refT_nil c it k]
    have : ∀ x, hv2 [] x = 0 := fun _ => rfl
    simp [this]
theorem refT_tot {c : Nat} {it : List Int} (h8 : it.length = 8) : ∀ {s : List (List Int)}, StaR s → refT s c it 16 = totL s c it
  | [], _ => refT_nil c it 16
  | a :: s, h => by
    rw [refT_cons h h8, refT_tot h8 h.tail]
    have e : totL (a :: s) c it = totA c it a + totL s c it := rfl
    have ha := h.ok a (by simp)
    have hr := h.right a (by simp)
    have : hitT c it 16 a = totA c it a := by
      unfold hitT
      split
      · rfl
      · next h16 =>
        rw [totA, if_neg]
        rintro ⟨hs, _⟩
        have e0 := (akey_k ha.len).1
        rw [atomR, Bool.and_eq_true] at hr
        have h1 := hr.1
        unfold keyR at h1
        rw [if_neg (by omega), if_neg (by omega), if_pos (by omega)] at h1
        simp only [Bool.and_eq_true, decide_eq_true_eq] at h1
        exact h16 h1.2
    omega
def adjF (o : List (List Int)) (x : List Int) : List (List Int) := if o.getLast? = some x then o else o ++ [x]
def adjS (ns : List (List Int)) : List (List Int) := ns.foldl adjF []
theorem adj_ded {ns o : List (List Int)} (h8 : ∀ x ∈ o ++ ns, x.length = 8 ∧ Byt x) (hs : (o ++ ns).Pairwise fun x y => numN x ≤ numN y) : ns.foldl adjF o = ns.foldl (fun o x => if x ∈ o then o else o ++ [x]) o := by
  induction ns generalizing o with
  | nil => rfl
  | cons x ns ih =>
    rw [List.foldl_cons, List.foldl_cons]
    have hkey : o.getLast? = some x ↔ x ∈ o := by
      constructor
      · intro h; exact List.mem_of_getLast? h
      · intro h
        have hne : o ≠ [] := List.ne_nil_of_mem h
        obtain ⟨z, hz⟩ : ∃ z, o.getLast? = some z := ⟨_, List.getLast?_eq_some_getLast hne⟩
        have hzo := List.mem_of_getLast? hz
        obtain ⟨p, hp⟩ := List.getLast?_eq_some_iff.1 hz
        have h1 : numN z ≤ numN x := (List.pairwise_append.1 hs).2.2 z hzo x (by simp)
        have h2 : numN x ≤ numN z := by
          rw [hp] at h hs
          rcases List.mem_append.1 h with h | h
          · have h3 := (List.pairwise_append.1 hs).1
            exact (List.pairwise_append.1 h3).2.2 x h z (by simp)
          · rw [List.mem_singleton] at h; rw [h]; exact Nat.le_refl _
        have hx := h8 x (by simp)
        have hz8 := h8 z (by simp [hzo])
        have := numN_inj hx.1 hz8.1 hx.2 hz8.2 (by omega)
        rw [hz, this]
    have e : adjF o x = if x ∈ o then o else o ++ [x] := by
      unfold adjF
      by_cases hx : x ∈ o
      · rw [if_pos hx, if_pos (hkey.2 hx)]
      · rw [if_neg hx, if_neg fun q => hx (hkey.1 q)]
    rw [e]
    split
    · next hx =>
      exact ih (o := o) (fun y hy => h8 y ((List.mem_append.1 hy).elim (fun h => List.mem_append_left _ h) fun h => List.mem_append_right _ (List.mem_cons_of_mem _ h))) (hs.sublist (List.Sublist.append (List.Sublist.refl _) (List.sublist_cons_self _ _)))
    · exact ih (o := o ++ [x]) (by simpa using h8) (by simpa using hs)
theorem nms_sorted {s : List (List Int)} (h : StaR s) (c : Nat) : (nmsS s c).Pairwise fun x y => numN x ≤ numN y := by
  unfold nmsS
  refine List.pairwise_map.2 ?_
  have hp : (s.filter (liveQ c)).Pairwise fun a b => rankK (akey a) < rankK (akey b) := h.sorted.sublist List.filter_sublist
  refine hp.imp_of_mem fun {a b} ha hb hab => ?_
  obtain ⟨ha1, ha2⟩ := List.mem_filter.1 ha
  obtain ⟨hb1, hb2⟩ := List.mem_filter.1 hb
  have hao := h.ok a ha1
  have hbo := h.ok b hb1
  rw [live_key hao] at ha2
  rw [live_key hbo] at hb2
  simp only [Bool.and_eq_true, decide_eq_true_eq] at ha2 hb2
  have n1a := numN_64 hao.key.item (kitem_len hao.key.len)
  have n1b := numN_64 hbo.key.item (kitem_len hbo.key.len)
  have d1 := dotN_lt hao.key
  have d2 := dotN_lt hbo.key
  have e : headN (akey a) = headN (akey b) := by unfold headN; omega
  unfold rankK at hab
  omega
theorem nms_ok {s : List (List Int)} (h : AOks s) (c : Nat) : ∀ x ∈ nmsS s c, x.length = 8 ∧ Byt x := fun x hx => by
  obtain ⟨a, ha, rfl⟩ := List.mem_map.1 hx
  have hk := (h a (List.mem_filter.1 ha).1).key
  exact ⟨kitem_len hk.len, hk.item⟩
theorem adj_itm {s : List (List Int)} (h : StaR s) (c : Nat) : adjS (nmsS s c) = itmS s c := adj_ded (by simpa using nms_ok h.ok c) (by simpa using nms_sorted h c)
theorem adj_snoc (ns : List (List Int)) (x : List Int) : adjS (ns ++ [x]) = adjF (adjS ns) x := by rw [adjS, List.foldl_append]; rfl
theorem itm_ok {s : List (List Int)} (h : AOks s) (c : Nat) : ∀ x ∈ itmS s c, x.length = 8 ∧ Byt x := fun x hx => nms_ok h c x (mem_ded.1 hx)
theorem itm_len (s : List (List Int)) (c : Nat) : (itmS s c).length ≤ s.length := Nat.le_trans (ded_len _) (nms_len s c)
theorem adj_len : ∀ (ns : List (List Int)), (adjS ns).length ≤ ns.length := by
  have key : ∀ (ns o : List (List Int)), (ns.foldl adjF o).length ≤ o.length + ns.length := by
    intro ns
    induction ns with
    | nil => intro o; simp
    | cons x ns ih =>
      intro o
      rw [List.foldl_cons, List.length_cons]
      refine Nat.le_trans (ih _) ?_
      unfold adjF
      split
      · omega
      · simp; omega
  intro ns
  have := key ns []
  simpa [adjS] using this
theorem adj_eight {ns : List (List Int)} (h : ∀ x ∈ ns, x.length = 8) : ∀ x ∈ adjS ns, x.length = 8 := by
  have key : ∀ (ns o : List (List Int)), (∀ x ∈ ns, x.length = 8) → (∀ x ∈ o, x.length = 8) → ∀ x ∈ ns.foldl adjF o, x.length = 8 := by
    intro ns
    induction ns with
    | nil => intro o _ h; exact h
    | cons y ns ih =>
      intro o h1 h2
      rw [List.foldl_cons]
      refine ih _ (fun x hx => h1 x (by simp [hx])) ?_
      unfold adjF
      split
      · exact h2
      · intro x hx
        rcases List.mem_append.1 hx with hx | hx
        · exact h2 x hx
        · rw [List.mem_singleton] at hx; rw [hx]; exact h1 y (by simp)
  exact key ns [] h (by simp)
def qtyB (l : List (List Int)) (c : Nat) (it : List Int) : Bool := decide (0 < ((tagS (normP l) c it 1).map akey).length)
def qtyN (l : List (List Int)) (c : Nat) (it : List Int) : Int := if qtyB l c it = true then max (totL (normP l) c it) 0 else 0
theorem tot_b {l : List (List Int)} (hv : AOks l) (hn : l.length ≤ 1000000000) (c : Nat) (it : List Int) : -4294967295000000000 ≤ totL (normP l) c it ∧ totL (normP l) c it ≤ 4294967295000000000 := by
  have h1 := tot_le (c := c) (it := it) (norm_sta hv)
  have h2 := norm_len l
  omega
theorem qty_b {l : List (List Int)} (hv : AOks l) (hn : l.length ≤ 1000000000) (c : Nat) (it : List Int) : 0 ≤ qtyN l c it ∧ qtyN l c it ≤ 4294967295000000000 := by
  have h1 := tot_b hv hn c it
  unfold qtyN
  split <;> omega

theorem last_get {o : List (List Int)} {x : List Int} (h : 0 < o.length) : o.getLast? = some x ↔ o.getD (o.length - 1) [] = x := by
  rw [List.getLast?_eq_getElem?, List.getD_eq_getElem?_getD, List.getElem?_eq_getElem (by omega)]
  simp
theorem keys_take {l : List (List Int)} {k : Nat} {x : List Int} (hk : k < l.length) (hx : l.getD k [] = x) : (l.take (k + 1)).map akey = (l.take k).map akey ++ [akey x] := by rw [take_snoc hk, hx, List.map_append]; rfl
end Go.Proofs.YtpekghaodmeemaaGreat
set_option linter.unusedSimpArgs false
set_option linter.unusedVariables false
set_option maxHeartbeats 2000000
set_option maxRecDepth 100000
namespace Go.Proofs.YtpekghaodmeemaaGreat
open Go.RowKit
theorem c_ref14keys (w0 : World) (A : Option Addr) (c : Nat) (l : List (List Int)) (hr : Rd w0 A 21 l.length (arows l)) (hv : AOks l) (hn : l.length ≤ 1000000000)  :
    CallR Tryz.prog 45 #[.slice A l.length c] w0 fun v w' => ∃ (O : Option Addr) (oc : Nat), v = .slice O (l.map akey).length oc ∧ St NoB w0 w' [.vec O oc 61 12 (l.map akey).length (krows (l.map akey))] := by
 have hS := St.rd1 (S := NoB) hr
 have hnl := arows_len l
 refine c_enter (l := [.slice A l.length c, undef, undef, undef, undef, undef, undef, undef, undef, undef, undef, undef, undef, undef, undef, undef, undef, undef, undef, undef]) Tryz.func45 rfl (by simp only [Tryz.ntmps45, List.size_toArray, List.length_cons, List.length_nil, Nat.reduceAdd, Nat.reduceSub, Array.replicate_succ, Array.replicate_zero, List.push_toArray, List.append_toArray, List.nil_append, List.cons_append]) ?_
 refine x_seq fun K1 hK1 => x_region ?_
 refine s_go s_assign ?_
 try simp only [nY]
 refine x_nil (hK1 _ _ ?_)
 refine x_seq fun K2 hK2 => x_region ?_
 refine s_go s_assign ?_
 try simp only [nY]
 refine x_nil (hK2 _ _ ?_)
 refine x_seq fun K3 hK3 => ?_
 refine x_seq fun K4 hK4 => x_region ?_
 refine s_go s_assign ?_
 try simp only [nY]
 refine x_nil (hK4 _ _ ?_)
 refine x_block ?_
 refine x_loop [3, 4, 5, 6, 7, 8, 9, 10, 11, 12, 13, 14, 15, 16, 17, 18] (fun m f w => ∃ (k : Nat) (O : Option Addr) (oc : Nat), k ≤ l.length ∧ m = l.length - k ∧ f 4 = .int .i64 (k : Int) ∧ f 3 = .slice O ((l.take k).map akey).length oc ∧ St NoB w0 w [.vec O oc 61 12 ((l.take k).map akey).length (krows ((l.take k).map akey)), .rd A 21 (l).length (arows (l))]) (l.length) ?init1 (fun m1 f1 wl1 hI => ?_)
 case init1 =>
  try simp only [nY]
  replace hS := hS.nil_vec 61 12
  exact ⟨0, none, 0, by omega, rfl, rfl, rfl, hS.sel (by repeat (first | exact Sel.nil | (refine Sel.cons (by repeat (exact Del.head)) ?_)))⟩
 obtain ⟨k, O, oc, hk0, hmk, h4, h3, hS⟩ := hI
 simp only [clob, List.foldl, n3, n4, h4, h3]
 obtain ⟨x, hx⟩ : ∃ x, l.getD k [] = x := ⟨_, rfl⟩
 have hml : ((l.take k).map akey).length = k := by rw [List.length_map, List.length_take]; omega
 refine x_seq fun K5 hK5 => ?_
 refine x_seq fun K6 hK6 => x_region ?_
 refine s_go s_move ?_
 try simp only [nY]
 refine s_go s_move ?_
 try simp only [nY]
 refine s_go (s_len_sl U22) ?_
 try simp only [nY]
 refine s_go s_lss ?_
 try simp only [nY]
 refine x_nil (hK6 _ _ ?_)
 refine x_cond (ht := fun hc1 => ?_) (hf := fun hc1 => ?_)
 ·
  try simp only [dY] at hc1
  have ha : AtomOk x := by rw [← hx]; exact hv.get (by omega)
  have hxl := ha.key.len
  have hst := keys_take (by omega) hx
  refine x_skip ?_
  refine hK5 _ _ ?_
  refine x_seq fun K7 hK7 => ?_
  refine x_block ?_
  refine x_region ?_
  refine s_go s_move ?_
  try simp only [nY]
  refine s_go s_move ?_
  try simp only [nY]
  refine s_go s_move ?_
  try simp only [nY]
  refine s_go (m_indexAddr_rd U22 ti66 (hS := hS)) ?_
  try simp only [nY, Nat.mul_one, Nat.zero_add, Int.toNat_natCast, Int.reduceToNat]
  refine s_go (m_fieldAddr_rd U66 (hi := ti61) (hS := hS)) ?_
  try simp only [nY, fY, gY]
  refine s_go (m_loada_rd U61 (hi := ti61) (hS := hS) (hfit := by rw [arows_len]; omega)) ?_
  try simp only [nY, gY]
  rw [arow_key (by omega) hv, hx]
  refine m_buildRow (cells := (KA (akey x))) U47 ti61 (hc := by simp only [List.map_toArray, List.map_cons, List.map_nil, nY, List.toList_toArray]; exact fill_one (by rfl) (zi_size12 hxl) (by rfl)) (hS := hS) (h := fun w1 g1 hS => ?_)
  try simp only [nY, aY] at hS ⊢
  replace hS := hS.obj_rd (sz := 12) (n := 1) (by exact zi_size12 hxl) .head
  rw [krow_one hxl] at hS
  refine m_append U47 ti61 (hS := hS) (h1 := rowsZ_cells _ _) (h := fun w2 A2 C2 hS => ?_)
  try simp only [← List.map_append, ← List.map_drop, ← List.map_take, Nat.mul_one, Nat.zero_mul, Nat.sub_zero, List.drop_zero, List.nil_append, Nat.zero_add] at hS ⊢
  try simp only [nY, aY] at hS ⊢
  rw [kadd_one] at hS
  refine s_go s_assign ?_
  try simp only [nY]
  refine x_nil (hK7 _ _ ?_)
  refine x_region ?_
  refine s_go s_move ?_
  try simp only [nY]
  refine s_go (s_add (hc := by exact wr_i64 (by omega) (by omega))) ?_
  try simp only [nY]
  refine s_go s_assign ?_
  try simp only [nY]
  refine x_nil ?_
  refine loop_back (m' := l.length - (k + 1)) (by simp only [clob, List.foldl, nZ]) ?_ ?_
  · try simp only [nY]
    exact ⟨k + 1, _, _, by omega, by omega, by rfl, by rw [hst, List.length_append]; rfl, by rw [hst, List.length_append]; exact hS.selA⟩
  · omega
 try simp only [dY] at hc1
 obtain rfl : k = l.length := by omega
 rw [List.take_of_length_le (Nat.le_refl _)] at hS ⊢
 refine x_exit (look_here ?_)
 refine hK3 _ _ ?_
 refine x_seq fun K8 hK8 => x_region ?_
 refine s_go s_move ?_
 try simp only [nY]
 refine s_go s_assign ?_
 try simp only [nY]
 refine x_nil (hK8 _ _ ?_)
 refine x_ret (r_tmp rfl ?_)
 exact ⟨_, _, rfl, hS.sel (by repeat (first | exact Sel.nil | (refine Sel.cons (by repeat (exact Del.head)) ?_)))⟩
theorem c_ref14Live (w0 : World) (A : Option Addr) (c : Nat) (l : List (List Int)) (hr : Rd w0 A 21 l.length (arows l)) (hv : AOks l) (hn : l.length ≤ 1000000000) (ct : Nat) (hct : ct < 65536) (it : List Int) (h8 : it.length = 8)  :
    CallR Tryz.prog 21 #[.slice A l.length c, .int .u16 (ct : Int), .agg (ic .u8 it)] w0 fun v w' => ∃ (O : Option Addr) (oc : Nat), v = .slice O ((tagS (normP l) ct it 1).map akey).length oc ∧ St NoB w0 w' [.vec O oc 61 12 ((tagS (normP l) ct it 1).map akey).length (krows ((tagS (normP l) ct it 1).map akey))] := by
 have hS := St.rd1 (S := NoB) hr
 have hno := (norm_sta hv).ok
 have hnb := norm_len l
 have htl := tag_len (normP l) ct it 1
 refine c_enter (l := [.slice A l.length c, .int .u16 (ct : Int), .agg (ic .u8 it), undef, undef, undef, undef, undef, undef, undef, undef, undef]) Tryz.func21 rfl (by simp only [Tryz.ntmps21, List.size_toArray, List.length_cons, List.length_nil, Nat.reduceAdd, Nat.reduceSub, Array.replicate_succ, Array.replicate_zero, List.push_toArray, List.append_toArray, List.nil_append, List.cons_append]) ?_
 refine x_seq fun K1 hK1 => x_region ?_
 refine m_box hS (fun w1 g1 hS => ?_)
 try simp only [nY, aY] at hS ⊢
 refine s_go s_assign ?_
 try simp only [nY]
 refine x_nil (hK1 _ _ ?_)
 refine x_seq fun K2 hK2 => x_region ?_
 refine s_go s_move ?_
 try simp only [nY]
 refine s_go s_move ?_
 try simp only [nY]
 refine s_go (m_load_row U25 (hi := ti25) (hS := hS) (hfit := by (simp only [ic_size, List.length_map, List.size_toArray]; omega))) ?_
 try simp only [nY, gY]
 refine s_call en46 ?_
 try simp only [nY, mY]
 refine CallR.mono (c_ref14tags _ A c l (hS.hasA) hv hn ct hct it h8 1 (by decide)) ?_
 rintro _ w2 ⟨Dt, et, rfl, hC2⟩
 replace hS := hS.call hC2
 simp only [List.cons_append, List.nil_append] at hS
 try simp only [nY]
 refine s_call en45 ?_
 try simp only [nY, mY]
 refine CallR.mono (c_ref14keys _ Dt et (tagS (normP l) ct it 1) (hS.vecRd (by repeat (exact Has.head))) (tag_ok hno ct it 1) (by omega)) ?_
 rintro _ w3 ⟨Ok, ok, rfl, hC3⟩
 replace hS := hS.call hC3
 simp only [List.cons_append, List.nil_append] at hS
 try simp only [nY]
 refine s_go s_assign ?_
 try simp only [nY]
 refine x_nil (hK2 _ _ ?_)
 refine x_ret (r_tmp rfl ?_)
 exact ⟨_, _, rfl, hS.sel (by repeat (first | exact Sel.nil | (refine Sel.cons (by repeat (exact Del.head)) ?_)))⟩
theorem c_ref15Total (w0 : World) (A : Option Addr) (c : Nat) (l : List (List Int)) (hr : Rd w0 A 21 l.length (arows l)) (hv : AOks l) (hn : l.length ≤ 1000000000) (ct : Nat) (hct : ct < 65536) (it : List Int) (h8 : it.length = 8) (hbt : Byt it)  :
    CallR Tryz.prog 20 #[.slice A l.length c, .int .u16 (ct : Int), .agg (ic .u8 it)] w0 fun v w' => v = .int .i64 (totL (normP l) ct it) ∧ Ext w0 w' := by
 have hS := St.rd1 (S := NoB) hr
 refine c_enter (l := [.slice A l.length c, .int .u16 (ct : Int), .agg (ic .u8 it), undef, undef, undef, undef, undef, undef, undef, undef, undef, undef, undef, undef, undef, undef, undef, undef, undef, undef, undef, undef, undef, undef, undef, undef, undef, undef, undef, undef, undef, undef, undef]) Tryz.func20 rfl (by simp only [Tryz.ntmps20, List.size_toArray, List.length_cons, List.length_nil, Nat.reduceAdd, Nat.reduceSub, Array.replicate_succ, Array.replicate_zero, List.push_toArray, List.append_toArray, List.nil_append, List.cons_append]) ?_
 refine x_seq fun K1 hK1 => x_region ?_
 refine m_box hS (fun w1 g1 hS => ?_)
 try simp only [nY, aY] at hS ⊢
 obtain ⟨gi, hgi⟩ : ∃ z, z = g1 := ⟨_, rfl⟩
 rw [← hgi] at hS ⊢
 refine s_go s_assign ?_
 try simp only [nY]
 refine x_nil (hK1 _ _ ?_)
 refine x_seq fun K2 hK2 => x_region ?_
 refine s_go s_assign ?_
 try simp only [nY]
 refine x_nil (hK2 _ _ ?_)
 refine x_seq fun K3 hK3 => ?_
 refine x_seq fun K4 hK4 => x_region ?_
 refine s_go s_assign ?_
 try simp only [nY]
 refine x_nil (hK4 _ _ ?_)
 refine x_block ?_
 refine x_loop [7, 8, 9, 10, 11, 12, 13, 14, 15, 16, 17, 18, 19, 20, 21, 22, 23, 24, 25, 26, 27, 28, 29, 30, 31, 32] (fun m f w => ∃ k : Nat, k ≤ 16 ∧ m = 16 - k ∧ f 8 = .int .i64 (k : Int) ∧ f 7 = .int .i64 (refT (normP l) ct it k) ∧ St NoB w0 w [.obj gi (.cells (ic .u8 it) 25 (0, 0)), .rd A 21 (l).length (arows (l))]) (16) ?init1 (fun m1 f1 wl1 hI => ?_)
 case init1 =>
  try simp only [nY]
  exact ⟨0, by omega, rfl, rfl, rfl, hS⟩
 obtain ⟨k, hk0, hmk, hf8, hf7, hS⟩ := hI
 simp only [clob, List.foldl, n3, n4, hf8, hf7]
 have hrl := refT_le hv hct h8 hbt k (by omega)
 obtain ⟨t, ht⟩ : ∃ t, refT (normP l) ct it k = t := ⟨_, rfl⟩
 rw [ht] at hrl
 simp only [ht]
 refine x_seq fun K5 hK5 => ?_
 refine x_seq fun K6 hK6 => x_region ?_
 refine s_go s_move ?_
 try simp only [nY]
 refine s_go s_lss ?_
 try simp only [nY]
 refine x_nil (hK6 _ _ ?_)
 refine x_cond (ht := fun hc1 => ?_) (hf := fun hc1 => ?_)
 ·
  try simp only [dY] at hc1
  have hq2 := hv_le hv (s := 2) (.inl rfl) (show k < 256 by omega) hct h8 hbt
  have hq3 := hv_le hv (s := 3) (.inr rfl) (show k < 256 by omega) hct h8 hbt
  obtain ⟨a2, hp2⟩ : ∃ t, hv2 (normP l) (turnK 2 k ct it) = t := ⟨_, rfl⟩
  obtain ⟨a3, hp3⟩ : ∃ t, hv2 (normP l) (turnK 3 k ct it) = t := ⟨_, rfl⟩
  rw [hp2] at hq2
  rw [hp3] at hq3
  refine x_skip ?_
  refine hK5 _ _ ?_
  refine x_seq fun K7 hK7 => ?_
  refine x_block ?_
  refine x_seq fun K8 hK8 => x_region ?_
  refine s_go s_move ?_
  try simp only [nY]
  refine s_go s_move ?_
  try simp only [nY]
  refine s_go s_move ?_
  try simp only [nY]
  refine s_go (m_load_row U25 (hi := ti25) (hS := hS) (hfit := by (simp only [ic_size, List.length_map, List.size_toArray]; omega))) ?_
  try simp only [nY, gY]
  refine s_go s_move ?_
  try simp only [nY]
  refine s_go (s_conv U3 U5 (hc := by exact wr_u8 (by omega) (by omega))) ?_
  try simp only [nY]
  refine s_go (s_build_struct (cells := (KA (turnK 2 k ct it))) U61 ti61 bp61 (hc := by simp only [List.map_toArray, List.map_cons, List.map_nil, nY, List.toList_toArray]; exact fill_key (by rfl) (by rfl) (by rfl) (by rfl) h8)) ?_
  try simp only [nY]
  refine s_call en44 ?_
  try simp only [nY, mY]
  refine CallR.mono (c_ref15Half _ A c l (hS.hasA) hv hn (turnK 2 k ct it) (turnK_ok (by decide) (by omega) hct h8 hbt)) ?_
  rintro _ w2 ⟨rfl, hE2⟩
  replace hS := hS.ext hE2
  try simp only [nY]
  rw [half_hv (by decide), hp2]
  refine s_go (s_conv U62 U3 (hc := by exact wr_i64 (by omega) (by omega))) ?_
  try simp only [nY]
  refine s_go (s_add (hc := by exact wr_i64 (by omega) (by omega))) ?_
  try simp only [nY]
  refine s_go s_assign ?_
  try simp only [nY]
  refine x_nil (hK8 _ _ ?_)
  refine x_region ?_
  refine s_go s_move ?_
  try simp only [nY]
  refine s_go s_move ?_
  try simp only [nY]
  refine s_go s_move ?_
  try simp only [nY]
  refine s_go (m_load_row U25 (hi := ti25) (hS := hS) (hfit := by (simp only [ic_size, List.length_map, List.size_toArray]; omega))) ?_
  try simp only [nY, gY]
  refine s_go s_move ?_
  try simp only [nY]
  refine s_go (s_conv U3 U5 (hc := by exact wr_u8 (by omega) (by omega))) ?_
  try simp only [nY]
  refine s_go (s_build_struct (cells := (KA (turnK 3 k ct it))) U61 ti61 bp61 (hc := by simp only [List.map_toArray, List.map_cons, List.map_nil, nY, List.toList_toArray]; exact fill_key (by rfl) (by rfl) (by rfl) (by rfl) h8)) ?_
  try simp only [nY]
  refine s_call en44 ?_
  try simp only [nY, mY]
  refine CallR.mono (c_ref15Half _ A c l (hS.hasA) hv hn (turnK 3 k ct it) (turnK_ok (by decide) (by omega) hct h8 hbt)) ?_
  rintro _ w3 ⟨rfl, hE3⟩
  replace hS := hS.ext hE3
  try simp only [nY]
  rw [half_hv (by decide), hp3]
  refine s_go (s_conv U62 U3 (hc := by exact wr_i64 (by omega) (by omega))) ?_
  try simp only [nY]
  refine s_go (s_sub (hc := by exact wr_i64 (by omega) (by omega))) ?_
  try simp only [nY]
  refine s_go s_assign ?_
  try simp only [nY]
  refine x_nil (hK7 _ _ ?_)
  refine x_region ?_
  refine s_go s_move ?_
  try simp only [nY]
  refine s_go (s_add (hc := by exact wr_i64 (by omega) (by omega))) ?_
  try simp only [nY]
  refine s_go s_assign ?_
  try simp only [nY]
  refine x_nil ?_
  refine loop_back (m' := 16 - (k + 1)) (by simp only [clob, List.foldl, nZ]) ?_ ?_
  · try simp only [nY]
    exact ⟨k + 1, by omega, by omega, by rfl, by rw [refT, ht, hp2, hp3], hS⟩
  · omega
 try simp only [dY] at hc1
 obtain rfl : k = 16 := by omega
 rw [refT_tot h8 (norm_sta hv)] at ht
 subst ht
 refine x_exit (look_here ?_)
 refine hK3 _ _ ?_
 refine x_seq fun K9 hK9 => x_region ?_
 refine s_go s_move ?_
 try simp only [nY]
 refine s_go s_assign ?_
 try simp only [nY]
 refine x_nil (hK9 _ _ ?_)
 refine x_ret (r_tmp rfl ?_)
 exact ⟨rfl, hS.ext_of⟩
end Go.Proofs.YtpekghaodmeemaaGreat
set_option linter.unusedSimpArgs false
set_option linter.unusedVariables false
set_option maxHeartbeats 2000000
set_option maxRecDepth 100000
namespace Go.Proofs.YtpekghaodmeemaaGreat
open Go.RowKit

theorem qty_yes {l : List (List Int)} {c : Nat} {it : List Int} (h : qtyB l c it = true) : qtyN l c it = max (totL (normP l) c it) 0 := by rw [qtyN, if_pos h]
theorem qty_no {l : List (List Int)} {c : Nat} {it : List Int} (h : qtyB l c it = false) : qtyN l c it = 0 := by rw [qtyN, if_neg (by rw [h]; decide)]

theorem c_cartQuantity (w0 : World) (A : Option Addr) (c : Nat) (l : List (List Int)) (hr : Rd w0 A 21 l.length (arows l)) (hv : AOks l) (hn : l.length ≤ 1000000000) (ct : Nat) (hct : ct < 65536) (it : List Int) (h8 : it.length = 8)  :
    CallR Tryz.prog 42 #[.slice A l.length c, .int .u16 (ct : Int), .agg (ic .u8 it)] w0 fun v w' => v = .tuple #[.int .i64 (qtyN l ct it), .bool (qtyB l ct it)] ∧ Ext w0 w' := by
 have hS := St.rd1 (S := NoB) hr
 have htb := tot_b hv hn ct it
 refine c_enter (l := [.slice A l.length c, .int .u16 (ct : Int), .agg (ic .u8 it), undef, undef, undef, undef, undef, undef, undef, undef, undef, undef, undef, undef, undef, undef, undef]) Tryz.func42 rfl (by simp only [Tryz.ntmps42, List.size_toArray, List.length_cons, List.length_nil, Nat.reduceAdd, Nat.reduceSub, Array.replicate_succ, Array.replicate_zero, List.push_toArray, List.append_toArray, List.nil_append, List.cons_append]) ?_
 refine x_seq fun K1 hK1 => x_region ?_
 refine m_box hS (fun w1 g1 hS => ?_)
 try simp only [nY, aY] at hS ⊢
 refine s_go s_assign ?_
 try simp only [nY]
 refine s_go s_assign ?_
 try simp only [nY]
 refine x_nil (hK1 _ _ ?_)
 refine x_seq fun K2 hK2 => ?_
 refine x_seq fun K3 hK3 => x_region ?_
 refine s_go s_move ?_
 try simp only [nY]
 refine s_go s_move ?_
 try simp only [nY]
 refine s_go (m_load_row U25 (hi := ti25) (hS := hS) (hfit := by (simp only [ic_size, List.length_map, List.size_toArray]; omega))) ?_
 try simp only [nY, gY]
 refine s_call en34 ?_
 try simp only [nY, mY]
 refine CallR.mono (c_tagsPresent _ A c l (hS.hasA) hv hn ct hct it h8) ?_
 rintro _ w2 ⟨rfl, hE2⟩
 replace hS := hS.ext hE2
 try simp only [nY]
 rw [show decide (0 < (((tagS (normP l) ct it 1).map akey).length : Int)) = qtyB l ct it by rw [qtyB]; exact decide_eq_decide.2 (by omega)]
 refine s_go s_not ?_
 try simp only [nY]
 refine x_nil (hK3 _ _ ?_)
 refine x_cond (ht := fun hc1 => ?_) (hf := fun hc1 => ?_)
 ·
  try simp only [dY] at hc1
  have hQ : qtyB l ct it = false := by simpa using hc1
  refine x_seq fun K4 hK4 => x_region ?_
  refine s_go s_assign ?_
  try simp only [nY]
  refine s_go s_assign ?_
  try simp only [nY]
  refine x_nil (hK4 _ _ ?_)
  refine x_ret (r_tmp2 rfl ?_)
  exact ⟨by rw [hQ, qty_no hQ]; rfl, hS.ext_of⟩
 try simp only [dY] at hc1
 have hQ : qtyB l ct it = true := by simpa using hc1
 refine x_skip ?_
 refine hK2 _ _ ?_
 refine x_seq fun K5 hK5 => x_region ?_
 refine s_go s_move ?_
 try simp only [nY]
 refine s_go s_move ?_
 try simp only [nY]
 refine s_go (m_load_row U25 (hi := ti25) (hS := hS) (hfit := by (simp only [ic_size, List.length_map, List.size_toArray]; omega))) ?_
 try simp only [nY, gY]
 refine s_call en43 ?_
 try simp only [nY, mY]
 refine CallR.mono (c_countTotal _ A c l (hS.hasA) hv hn ct hct it h8) ?_
 rintro _ w3 ⟨rfl, hE3⟩
 replace hS := hS.ext hE3
 try simp only [nY]
 refine s_go s_max ?_
 try simp only [nY]
 refine s_go s_assign ?_
 try simp only [nY]
 refine s_go s_assign ?_
 try simp only [nY]
 refine x_nil (hK5 _ _ ?_)
 refine x_ret (r_tmp2 rfl ?_)
 exact ⟨by rw [hQ, qty_yes hQ]; rfl, hS.ext_of⟩
theorem c_ref17Quantity (w0 : World) (A : Option Addr) (c : Nat) (l : List (List Int)) (hr : Rd w0 A 21 l.length (arows l)) (hv : AOks l) (hn : l.length ≤ 1000000000) (ct : Nat) (hct : ct < 65536) (it : List Int) (h8 : it.length = 8) (hbt : Byt it)  :
    CallR Tryz.prog 22 #[.slice A l.length c, .int .u16 (ct : Int), .agg (ic .u8 it)] w0 fun v w' => v = .tuple #[.int .i64 (qtyN l ct it), .bool (qtyB l ct it)] ∧ Ext w0 w' := by
 have hS := St.rd1 (S := NoB) hr
 have htb := tot_b hv hn ct it
 refine c_enter (l := [.slice A l.length c, .int .u16 (ct : Int), .agg (ic .u8 it), undef, undef, undef, undef, undef, undef, undef, undef, undef, undef, undef, undef, undef, undef, undef, undef]) Tryz.func22 rfl (by simp only [Tryz.ntmps22, List.size_toArray, List.length_cons, List.length_nil, Nat.reduceAdd, Nat.reduceSub, Array.replicate_succ, Array.replicate_zero, List.push_toArray, List.append_toArray, List.nil_append, List.cons_append]) ?_
 refine x_seq fun K1 hK1 => x_region ?_
 refine m_box hS (fun w1 g1 hS => ?_)
 try simp only [nY, aY] at hS ⊢
 refine s_go s_assign ?_
 try simp only [nY]
 refine s_go s_assign ?_
 try simp only [nY]
 refine x_nil (hK1 _ _ ?_)
 refine x_seq fun K2 hK2 => ?_
 refine x_seq fun K3 hK3 => x_region ?_
 refine s_go s_move ?_
 try simp only [nY]
 refine s_go s_move ?_
 try simp only [nY]
 refine s_go (m_load_row U25 (hi := ti25) (hS := hS) (hfit := by (simp only [ic_size, List.length_map, List.size_toArray]; omega))) ?_
 try simp only [nY, gY]
 refine s_call en21 ?_
 try simp only [nY, mY]
 refine CallR.mono (c_ref14Live _ A c l (hS.hasA) hv hn ct hct it h8) ?_
 rintro _ w2 ⟨Ol, ol, rfl, hC2⟩
 replace hS := hS.call hC2
 simp only [List.cons_append, List.nil_append] at hS
 try simp only [nY]
 refine s_go (s_len_sl U47) ?_
 try simp only [nY]
 refine s_go s_eql ?_
 try simp only [nY]
 refine x_nil (hK3 _ _ ?_)
 refine x_cond (ht := fun hc1 => ?_) (hf := fun hc1 => ?_)
 ·
  try simp only [dY] at hc1
  have hQ : qtyB l ct it = false := decide_eq_false (by omega)
  refine x_seq fun K4 hK4 => x_region ?_
  refine s_go s_assign ?_
  try simp only [nY]
  refine s_go s_assign ?_
  try simp only [nY]
  refine x_nil (hK4 _ _ ?_)
  refine x_ret (r_tmp2 rfl ?_)
  exact ⟨by rw [hQ, qty_no hQ]; rfl, hS.ext_of⟩
 try simp only [dY] at hc1
 have hQ : qtyB l ct it = true := decide_eq_true (by omega)
 refine x_skip ?_
 refine hK2 _ _ ?_
 refine x_seq fun K5 hK5 => x_region ?_
 refine s_go s_move ?_
 try simp only [nY]
 refine s_go s_move ?_
 try simp only [nY]
 refine s_go (m_load_row U25 (hi := ti25) (hS := hS) (hfit := by (simp only [ic_size, List.length_map, List.size_toArray]; omega))) ?_
 try simp only [nY, gY]
 refine s_call en20 ?_
 try simp only [nY, mY]
 refine CallR.mono (c_ref15Total _ A c l (hS.hasA) hv hn ct hct it h8 hbt) ?_
 rintro _ w3 ⟨rfl, hE3⟩
 replace hS := hS.ext hE3
 try simp only [nY]
 refine s_go s_max ?_
 try simp only [nY]
 refine s_go s_assign ?_
 try simp only [nY]
 refine s_go s_assign ?_
 try simp only [nY]
 refine x_nil (hK5 _ _ ?_)
 refine x_ret (r_tmp2 rfl ?_)
 exact ⟨by rw [hQ, qty_yes hQ]; rfl, hS.ext_of⟩
end Go.Proofs.YtpekghaodmeemaaGreat
set_option linter.unusedSimpArgs false
set_option linter.unusedVariables false
set_option maxHeartbeats 2000000
set_option maxRecDepth 100000
namespace Go.Proofs.YtpekghaodmeemaaGreat
open Go.RowKit

abbrev opKs : List IntKind := [.i64, .u16, .u8, .u8, .u8, .u8, .u8, .u8, .u8, .u8, .i64, .u8, .u8, .u8, .u8, .u8, .u8, .u8, .u8]
abbrev OA (x : List Int) : Array Value := (zi opKs x).toArray
def opK (x : List Int) : Int := x.getD 0 0
def opN (x : List Int) : Int := x.getD 10 0
def opT (x : List Int) : List Int := (x.drop 11).take 8
structure OpOk (x : List Int) : Prop where
  len : x.length = 19
  k1 : -9223372036854775808 ≤ opK x
  k2 : opK x ≤ 9223372036854775807
  e1 : x.getD 1 0 = (kn x 1 : Int)
  b1 : kn x 1 < 65536
  item : Byt (kitem x)
  m1 : -9223372036854775808 ≤ opN x
  m2 : opN x ≤ 9223372036854775807
  text : Byt (opT x)
theorem op_il {x : List Int} (h : x.length = 19) : (kitem x).length = 8 := by simp [kitem, h]
theorem op_tl {x : List Int} (h : x.length = 19) : (opT x).length = 8 := by simp [opT, h]
theorem op_size {x : List Int} (h : x.length = 19) : (OA x).size = 19 := by simpa using zi_len (ks := opKs) (by simpa using h)
theorem op_llen {x : List Int} (h : x.length = 19) : (zi opKs x).length = 19 := by simpa using zi_len (ks := opKs) (by simpa using h)
theorem op_item {x : List Int} (h : x.length = 19) : (((OA x).toList.drop 2).take 8).toArray = ic .u8 (kitem x) := by
  match x, h with
  | [_, _, _, _, _, _, _, _, _, _, _, _, _, _, _, _, _, _, _], _ => rfl
theorem op_text {x : List Int} (h : x.length = 19) : (((OA x).toList.drop 11).take 8).toArray = ic .u8 (opT x) := by
  match x, h with
  | [_, _, _, _, _, _, _, _, _, _, _, _, _, _, _, _, _, _, _], _ => rfl
def opE (x : List Int) : Int :=
  if opK x < 1 ∨ 5 < opK x then 14 else
  if opK x ≤ 3 ∧ nright (kitem x) = false then 1 else
  if (opK x = 1 ∨ opK x = 3) ∧ (opN x < 0 ∨ 4294967295 < opN x) then 1 else
  if opK x = 4 ∧ ¬ opT x = nm0 ∧ nright (opT x) = false then 1 else 0
section
variable {x : List Int}
theorem opE_14 (h : opK x < 1 ∨ 5 < opK x) : opE x = 14 := by rw [opE, if_pos h]
theorem opE_a (h : 1 ≤ opK x ∧ opK x ≤ 5) (h2 : (opK x ≤ 3 ∧ nright (kitem x) = false) ∨ ((opK x = 1 ∨ opK x = 3) ∧ (opN x < 0 ∨ 4294967295 < opN x)) ∨ (opK x = 4 ∧ ¬ opT x = nm0 ∧ nright (opT x) = false)) : opE x = 1 := by
  rw [opE, if_neg (by omega)]
  by_cases h3 : opK x ≤ 3 ∧ nright (kitem x) = false
  · rw [if_pos h3]
  · rw [if_neg h3]
    by_cases h4 : (opK x = 1 ∨ opK x = 3) ∧ (opN x < 0 ∨ 4294967295 < opN x)
    · rw [if_pos h4]
    · rw [if_neg h4, if_pos (h2.resolve_left h3 |>.resolve_left h4)]
theorem opE_0 (h : 1 ≤ opK x ∧ opK x ≤ 5) (h1 : opK x ≤ 3 → nright (kitem x) = true) (h2 : ¬ ((opK x = 1 ∨ opK x = 3) ∧ (opN x < 0 ∨ 4294967295 < opN x))) (h3 : opK x = 4 → opT x = nm0 ∨ nright (opT x) = true) : opE x = 0 := by
  rw [opE, if_neg (by omega), if_neg (fun q => by have := h1 q.1; rw [q.2] at this; cases this), if_neg h2, if_neg (fun q => by
    rcases h3 q.1 with h | h
    · exact q.2.1 h
    · rw [q.2.2] at h; cases h)]
theorem opE_ok (h : opE x = 0) : (1 ≤ opK x ∧ opK x ≤ 5) ∧ (opK x ≤ 3 → nright (kitem x) = true) ∧ ((opK x = 1 ∨ opK x = 3) → 0 ≤ opN x ∧ opN x ≤ 4294967295) ∧ (opK x = 4 → opT x = nm0 ∨ nright (opT x) = true) := by
  unfold opE at h
  split at h
  · cases h
  · next h1 =>
    split at h
    · cases h
    · next h2 =>
      split at h
      · cases h
      · next h3 =>
        split at h
        · cases h
        · next h4 =>
          refine ⟨by omega, fun q => ?_, fun q => by omega, fun q => ?_⟩
          · cases e : nright (kitem x)
            · exact absurd ⟨q, e⟩ h2
            · rfl
          · by_cases e1 : opT x = nm0
            · exact .inl e1
            · right
              cases e : nright (opT x)
              · exact absurd ⟨q, e1, e⟩ h4
              · rfl
end
def amtN (l : List (List Int)) (x : List Int) : Int :=
  if ¬ opE x = 0 then 0 else
  if opK x = 1 then opN x else
  if qtyB l (kn x 1) (kitem x) = true ∧ opK x = 2 then -(qtyN l (kn x 1) (kitem x)) else
  if qtyB l (kn x 1) (kitem x) = true ∧ opK x = 3 then opN x - totL (normP l) (kn x 1) (kitem x) else 0

theorem c_shopRight (x : List Int) (hx : OpOk x)  (w0 : World) :
    CallR Tryz.prog 16 #[.agg (OA x)] w0 fun v w' => v = .int .i64 (opE x) ∧ Ext w0 w' := by
 have hS : St NoB w0 w0 [] := St.start w0
 have hxl := hx.len
 have hil := op_il hxl
 have htl := op_tl hxl
 have hk1 := hx.k1
 have hk2 := hx.k2
 have hm1 := hx.m1
 have hm2 := hx.m2
 have hbi := hx.item
 have hbt := hx.text
 have hcx := hx.b1
 refine c_enter (l := [.agg (OA x), undef, undef, undef, undef, undef, undef, undef, undef, undef, undef, undef, undef, undef, undef, undef, undef, undef, undef, undef, undef, undef, undef, undef, undef, undef, undef, undef, undef, undef, undef, undef, undef, undef, undef, undef, undef, undef, undef, undef, undef, undef, undef, undef, undef, undef, undef, undef, undef, undef, undef, undef, undef, undef, undef, undef, undef, undef, undef, undef, undef, undef, undef]) Tryz.func16 rfl (by simp only [Tryz.ntmps16, List.size_toArray, List.length_cons, List.length_nil, Nat.reduceAdd, Nat.reduceSub, Array.replicate_succ, Array.replicate_zero, List.push_toArray, List.append_toArray, List.nil_append, List.cons_append]) ?_
 refine x_seq fun K1 hK1 => x_region ?_
 refine m_box hS (fun w1 g1 hS => ?_)
 try simp only [nY, aY] at hS ⊢
 refine s_go s_assign ?_
 try simp only [nY]
 refine x_nil (hK1 _ _ ?_)
 refine x_seq fun K2 hK2 => x_region ?_
 refine s_go (m_fieldAddr U27 (hi := ti3)) ?_
 try simp only [nY, fY, gY]
 refine s_go (m_load_obj U3 (hS := hS) (hv := by exact zi_get rfl (by omega))) ?_
 try simp only [nY, gY]
 rw [show x.getD 0 0 = opK x from rfl]
 refine s_go s_geq ?_
 try simp only [nY]
 refine s_go s_move ?_
 try simp only [nY]
 refine s_part 8 rfl (fun hp1 => ?_) (fun hp1 => ?_)
 ·
  try simp only [n3, n4]
  try simp only [dZ, ne_eq] at hp1
  refine g_on (yi (t := 8) rfl rfl) ?_
  refine s_go (m_fieldAddr U27 (hi := ti3)) ?_
  try simp only [nY, fY, gY]
  refine g_on (yi (t := 8) rfl rfl) ?_
  refine s_go (m_load_obj U3 (hS := hS) (hv := by exact zi_get rfl (by omega))) ?_
  try simp only [nY, gY]
  rw [show x.getD 0 0 = opK x from rfl]
  refine g_on (yi (t := 8) rfl rfl) ?_
  refine s_go s_leq ?_
  try simp only [nY]
  refine s_go s_pick_t ?_
  try simp only [nY]
  refine s_go s_assign ?_
  try simp only [nY]
  refine x_nil (hK2 _ _ ?_)
  refine x_seq fun K3 hK3 => x_region ?_
  refine s_go (m_fieldAddr U27 (hi := ti3)) ?_
  try simp only [nY, fY, gY]
  refine s_go (m_load_obj U3 (hS := hS) (hv := by exact zi_get rfl (by omega))) ?_
  try simp only [nY, gY]
  rw [show x.getD 0 0 = opK x from rfl]
  refine s_go s_eql ?_
  try simp only [nY]
  refine s_go s_move ?_
  try simp only [nY]
  refine s_part 16 rfl (fun hp2 => ?_) (fun hp2 => ?_)
  ·
   try simp only [n3, n4]
   try simp only [dZ, ne_eq] at hp2
   refine g_off (yi (t := 16) rfl rfl) ?_
   try simp only [nY]
   refine g_off (yi (t := 16) rfl rfl) ?_
   try simp only [nY]
   refine g_off (yi (t := 16) rfl rfl) ?_
   try simp only [nY]
   refine s_go s_pick_t ?_
   try simp only [nY]
   refine s_go s_assign ?_
   try simp only [nY]
   refine x_nil (hK3 _ _ ?_)
   refine x_seq fun K4 hK4 => ?_
   refine x_block ?_
   refine x_seq fun K5 hK5 => x_region ?_
   refine s_go (m_fieldAddr U27 (hi := ti3)) ?_
   try simp only [nY, fY, gY]
   refine s_go (m_load_obj U3 (hS := hS) (hv := by exact zi_get rfl (by omega))) ?_
   try simp only [nY, gY]
   rw [show x.getD 0 0 = opK x from rfl]
   refine s_go s_lss ?_
   try simp only [nY]
   refine s_go s_move ?_
   try simp only [nY]
   refine s_part 25 rfl (fun hp3 => ?_) (fun hp3 => ?_)
   ·
    try simp only [n3, n4]
    try simp only [dZ, ne_eq] at hp3
    (exfalso; omega)
   try simp only [n3, n4]
   try simp only [dZ, ne_eq] at hp3
   refine g_on (yi (t := 25) rfl rfl) ?_
   refine s_go (m_fieldAddr U27 (hi := ti3)) ?_
   try simp only [nY, fY, gY]
   refine g_on (yi (t := 25) rfl rfl) ?_
   refine s_go (m_load_obj U3 (hS := hS) (hv := by exact zi_get rfl (by omega))) ?_
   try simp only [nY, gY]
   rw [show x.getD 0 0 = opK x from rfl]
   refine g_on (yi (t := 25) rfl rfl) ?_
   refine s_go s_gtr ?_
   try simp only [nY]
   refine s_go s_pick_f ?_
   try simp only [nY]
   refine s_go s_assign ?_
   try simp only [nY]
   refine x_nil (hK5 _ _ ?_)
   refine x_cond (ht := fun hc2 => ?_) (hf := fun hc2 => ?_)
   ·
    try simp only [dY] at hc2
    (exfalso; omega)
   try simp only [dY] at hc2
   refine x_seq fun K8 hK8 => ?_
   refine x_seq fun K9 hK9 => x_region ?_
   refine s_go s_move ?_
   try simp only [nY]
   refine s_go s_move ?_
   try simp only [nY]
   refine s_part 32 rfl (fun hp4 => ?_) (fun hp4 => ?_)
   ·
    try simp only [n3, n4]
    try simp only [dZ, ne_eq] at hp4
    refine g_on (yi (t := 32) rfl rfl) ?_
    refine s_go (m_fieldAddr U27 (hi := ti25)) ?_
    try simp only [nY, fY, gY]
    refine g_on (yi (t := 32) rfl rfl) ?_
    refine s_go (m_loada_obj U25 (hi := ti25) (hS := hS) (hfit := by (rw [zi_size (by omega)]; decide))) ?_
    try simp only [nY, gY]
    rw [op_item hxl]
    refine g_on (yi (t := 32) rfl rfl) ?_
    refine s_call en39 ?_
    try simp only [nY, mY]
    refine CallR.mono (c_nameRight (kitem x) hil hbi _) ?_
    rintro _ w2 ⟨rfl, hE2⟩
    replace hS := hS.ext hE2
    try simp only [nY]
    refine g_on (yi (t := 32) rfl rfl) ?_
    refine s_go s_not ?_
    try simp only [nY]
    refine s_go s_pick_t ?_
    try simp only [nY]
    refine s_go s_assign ?_
    try simp only [nY]
    refine x_nil (hK9 _ _ ?_)
    refine x_cond (ht := fun hc3 => ?_) (hf := fun hc3 => ?_)
    ·
     try simp only [dY] at hc3
     try have hRb : nright (kitem x) = false := by simpa using hc3
     try have hTb : nright (opT x) = false := by simpa using hc3
     refine x_skip ?_
     refine hK8 _ _ ?_
     refine x_cond (ht := fun hc4 => ?_) (hf := fun hc4 => ?_)
     ·
      try simp only [dY] at hc4
      try have hRb : nright (kitem x) = false := by simpa using hc4
      try have hTb : nright (opT x) = false := by simpa using hc4
      refine x_seq fun K10 hK10 => x_region ?_
      refine s_go s_assign ?_
      try simp only [nY]
      refine x_nil (hK10 _ _ ?_)
      refine x_ret (r_tmp rfl ?_)
      exact ⟨congrArg (Value.int .i64) (opE_a (by omega) (by exact .inl ⟨by omega, hRb⟩)).symm, hS.ext_of⟩
     try simp only [dY] at hc4
     try have hRa : nright (kitem x) = true := by simpa using hc4
     try have hTa : nright (opT x) = true := by simpa using hc4
     refine x_skip ?_
     refine hK4 _ _ ?_
     refine x_seq fun K11 hK11 => x_region ?_
     refine s_go s_assign ?_
     try simp only [nY]
     refine x_nil (hK11 _ _ ?_)
     refine x_ret (r_tmp rfl ?_)
     (exfalso; simp_all; done)
    try simp only [dY] at hc3
    try have hRa : nright (kitem x) = true := by simpa using hc3
    try have hTa : nright (opT x) = true := by simpa using hc3
    refine x_seq fun K12 hK12 => x_region ?_
    refine s_go s_move ?_
    try simp only [nY]
    refine s_go s_move ?_
    try simp only [nY]
    refine g_on (yi (t := 39) rfl rfl) ?_
    refine s_go (m_fieldAddr U27 (hi := ti3)) ?_
    try simp only [nY, fY, gY]
    refine g_on (yi (t := 39) rfl rfl) ?_
    refine s_go (m_load_obj U3 (hS := hS) (hv := by exact zi_get rfl (by omega))) ?_
    try simp only [nY, gY]
    rw [show x.getD 10 0 = opN x from rfl]
    refine g_on (yi (t := 39) rfl rfl) ?_
    refine s_go s_lss ?_
    try simp only [nY]
    refine g_on (yi (t := 39) rfl rfl) ?_
    refine s_go s_move ?_
    try simp only [nY]
    refine s_part 43 rfl (fun hp5 => ?_) (fun hp5 => ?_)
    ·
     try simp only [n3, n4]
     try simp only [dZ, ne_eq] at hp5
     refine g_off (yi (t := 43) rfl rfl) ?_
     try simp only [nY]
     refine g_off (yi (t := 43) rfl rfl) ?_
     try simp only [nY]
     refine g_off (yi (t := 43) rfl rfl) ?_
     try simp only [nY]
     refine g_on (yi (t := 39) rfl rfl) ?_
     refine s_go s_pick_t ?_
     try simp only [nY]
     refine s_go s_pick_t ?_
     try simp only [nY]
     refine s_go s_assign ?_
     try simp only [nY]
     refine x_nil (hK12 _ _ ?_)
     refine x_cond_t (h := ?_)
     try have hRb : nright (kitem x) = false := by simpa using @c
     try have hTb : nright (opT x) = false := by simpa using @c
     refine x_skip ?_
     refine hK8 _ _ ?_
     refine x_cond_t (h := ?_)
     try have hRb : nright (kitem x) = false := by simpa using @c
     try have hTb : nright (opT x) = false := by simpa using @c
     refine x_seq fun K13 hK13 => x_region ?_
     refine s_go s_assign ?_
     try simp only [nY]
     refine x_nil (hK13 _ _ ?_)
     refine x_ret (r_tmp rfl ?_)
     exact ⟨congrArg (Value.int .i64) (opE_a (by omega) (by exact .inr (.inl ⟨by omega, by omega⟩))).symm, hS.ext_of⟩
    try simp only [n3, n4]
    try simp only [dZ, ne_eq] at hp5
    refine g_on (yi (t := 43) rfl rfl) ?_
    refine s_go (m_fieldAddr U27 (hi := ti3)) ?_
    try simp only [nY, fY, gY]
    refine g_on (yi (t := 43) rfl rfl) ?_
    refine s_go (m_load_obj U3 (hS := hS) (hv := by exact zi_get rfl (by omega))) ?_
    try simp only [nY, gY]
    rw [show x.getD 10 0 = opN x from rfl]
    refine g_on (yi (t := 43) rfl rfl) ?_
    refine s_go s_gtr ?_
    try simp only [nY]
    refine g_on (yi (t := 39) rfl rfl) ?_
    refine s_go s_pick_f ?_
    try simp only [nY]
    refine s_go s_pick_t ?_
    try simp only [nY]
    refine s_go s_assign ?_
    try simp only [nY]
    refine x_nil (hK12 _ _ ?_)
    refine x_cond (ht := fun hc7 => ?_) (hf := fun hc7 => ?_)
    ·
     try simp only [dY] at hc7
     try have hRb : nright (kitem x) = false := by simpa using hc7
     try have hTb : nright (opT x) = false := by simpa using hc7
     refine x_skip ?_
     refine hK8 _ _ ?_
     refine x_cond (ht := fun hc8 => ?_) (hf := fun hc8 => ?_)
     ·
      try simp only [dY] at hc8
      try have hRb : nright (kitem x) = false := by simpa using hc8
      try have hTb : nright (opT x) = false := by simpa using hc8
      refine x_seq fun K14 hK14 => x_region ?_
      refine s_go s_assign ?_
      try simp only [nY]
      refine x_nil (hK14 _ _ ?_)
      refine x_ret (r_tmp rfl ?_)
      exact ⟨congrArg (Value.int .i64) (opE_a (by omega) (by exact .inr (.inl ⟨by omega, by omega⟩))).symm, hS.ext_of⟩
     try simp only [dY] at hc8
     (exfalso; omega)
    try simp only [dY] at hc7
    try have hRa : nright (kitem x) = true := by simpa using hc7
    try have hTa : nright (opT x) = true := by simpa using hc7
    refine x_region ?_
    refine s_go (m_fieldAddr U27 (hi := ti3)) ?_
    try simp only [nY, fY, gY]
    refine s_go (m_load_obj U3 (hS := hS) (hv := by exact zi_get rfl (by omega))) ?_
    try simp only [nY, gY]
    rw [show x.getD 0 0 = opK x from rfl]
    refine s_go s_eql ?_
    try simp only [nY]
    refine s_go s_move ?_
    try simp only [nY]
    refine s_part 52 rfl (fun hp6 => ?_) (fun hp6 => ?_)
    ·
     try simp only [n3, n4]
     try simp only [dZ, ne_eq] at hp6
     (exfalso; omega)
    try simp only [n3, n4]
    try simp only [dZ, ne_eq] at hp6
    refine g_off (yi (t := 52) rfl rfl) ?_
    try simp only [nY]
    refine g_off (yi (t := 52) rfl rfl) ?_
    try simp only [nY]
    refine g_off (yi (t := 52) rfl rfl) ?_
    try simp only [nY]
    refine s_go s_pick_f ?_
    try simp only [nY]
    refine s_go s_move ?_
    try simp only [nY]
    refine g_off (yi (t := 57) rfl rfl) ?_
    try simp only [nY]
    refine g_off (yi (t := 57) rfl rfl) ?_
    try simp only [nY]
    refine g_off (yi (t := 57) rfl rfl) ?_
    try simp only [nY]
    refine g_off (yi (t := 57) rfl rfl) ?_
    try simp only [nY]
    refine s_go s_pick_f ?_
    try simp only [nY]
    refine s_go s_assign ?_
    try simp only [nY]
    refine x_nil (hK8 _ _ ?_)
    refine x_cond_f (h := ?_)
    try have hRa : nright (kitem x) = true := by simpa using @c
    try have hTa : nright (opT x) = true := by simpa using @c
    refine x_skip ?_
    refine hK4 _ _ ?_
    refine x_seq fun K19 hK19 => x_region ?_
    refine s_go s_assign ?_
    try simp only [nY]
    refine x_nil (hK19 _ _ ?_)
    refine x_ret (r_tmp rfl ?_)
    exact ⟨congrArg (Value.int .i64) (opE_0 (by omega) (fun q => by exact hRa) (by omega) (fun q => by (exfalso; omega))).symm, hS.ext_of⟩
   try simp only [n3, n4]
   try simp only [dZ, ne_eq] at hp4
   (exfalso; omega)
  try simp only [n3, n4]
  try simp only [dZ, ne_eq] at hp2
  refine g_on (yi (t := 16) rfl rfl) ?_
  refine s_go (m_fieldAddr U27 (hi := ti3)) ?_
  try simp only [nY, fY, gY]
  refine g_on (yi (t := 16) rfl rfl) ?_
  refine s_go (m_load_obj U3 (hS := hS) (hv := by exact zi_get rfl (by omega))) ?_
  try simp only [nY, gY]
  rw [show x.getD 0 0 = opK x from rfl]
  refine g_on (yi (t := 16) rfl rfl) ?_
  refine s_go s_eql ?_
  try simp only [nY]
  refine s_go s_pick_f ?_
  try simp only [nY]
  refine s_go s_assign ?_
  try simp only [nY]
  refine x_nil (hK3 _ _ ?_)
  refine x_seq fun K28 hK28 => ?_
  refine x_block ?_
  refine x_seq fun K29 hK29 => x_region ?_
  refine s_go (m_fieldAddr U27 (hi := ti3)) ?_
  try simp only [nY, fY, gY]
  refine s_go (m_load_obj U3 (hS := hS) (hv := by exact zi_get rfl (by omega))) ?_
  try simp only [nY, gY]
  rw [show x.getD 0 0 = opK x from rfl]
  refine s_go s_lss ?_
  try simp only [nY]
  refine s_go s_move ?_
  try simp only [nY]
  refine s_part 25 rfl (fun hp11 => ?_) (fun hp11 => ?_)
  ·
   try simp only [n3, n4]
   try simp only [dZ, ne_eq] at hp11
   (exfalso; omega)
  try simp only [n3, n4]
  try simp only [dZ, ne_eq] at hp11
  refine g_on (yi (t := 25) rfl rfl) ?_
  refine s_go (m_fieldAddr U27 (hi := ti3)) ?_
  try simp only [nY, fY, gY]
  refine g_on (yi (t := 25) rfl rfl) ?_
  refine s_go (m_load_obj U3 (hS := hS) (hv := by exact zi_get rfl (by omega))) ?_
  try simp only [nY, gY]
  rw [show x.getD 0 0 = opK x from rfl]
  refine g_on (yi (t := 25) rfl rfl) ?_
  refine s_go s_gtr ?_
  try simp only [nY]
  refine s_go s_pick_f ?_
  try simp only [nY]
  refine s_go s_assign ?_
  try simp only [nY]
  refine x_nil (hK29 _ _ ?_)
  refine x_cond (ht := fun hc21 => ?_) (hf := fun hc21 => ?_)
  ·
   try simp only [dY] at hc21
   refine x_seq fun K31 hK31 => x_region ?_
   refine s_go s_assign ?_
   try simp only [nY]
   refine x_nil (hK31 _ _ ?_)
   refine x_ret (r_tmp rfl ?_)
   exact ⟨congrArg (Value.int .i64) (opE_14 (by omega)).symm, hS.ext_of⟩
  try simp only [dY] at hc21
  refine x_seq fun K32 hK32 => ?_
  refine x_seq fun K33 hK33 => x_region ?_
  refine s_go s_move ?_
  try simp only [nY]
  refine s_go s_move ?_
  try simp only [nY]
  refine s_part 32 rfl (fun hp12 => ?_) (fun hp12 => ?_)
  ·
   try simp only [n3, n4]
   try simp only [dZ, ne_eq] at hp12
   refine g_on (yi (t := 32) rfl rfl) ?_
   refine s_go (m_fieldAddr U27 (hi := ti25)) ?_
   try simp only [nY, fY, gY]
   refine g_on (yi (t := 32) rfl rfl) ?_
   refine s_go (m_loada_obj U25 (hi := ti25) (hS := hS) (hfit := by (rw [zi_size (by omega)]; decide))) ?_
   try simp only [nY, gY]
   rw [op_item hxl]
   refine g_on (yi (t := 32) rfl rfl) ?_
   refine s_call en39 ?_
   try simp only [nY, mY]
   refine CallR.mono (c_nameRight (kitem x) hil hbi _) ?_
   rintro _ w7 ⟨rfl, hE7⟩
   replace hS := hS.ext hE7
   try simp only [nY]
   refine g_on (yi (t := 32) rfl rfl) ?_
   refine s_go s_not ?_
   try simp only [nY]
   refine s_go s_pick_t ?_
   try simp only [nY]
   refine s_go s_assign ?_
   try simp only [nY]
   refine x_nil (hK33 _ _ ?_)
   refine x_cond (ht := fun hc22 => ?_) (hf := fun hc22 => ?_)
   ·
    try simp only [dY] at hc22
    try have hRb : nright (kitem x) = false := by simpa using hc22
    try have hTb : nright (opT x) = false := by simpa using hc22
    refine x_skip ?_
    refine hK32 _ _ ?_
    refine x_cond (ht := fun hc23 => ?_) (hf := fun hc23 => ?_)
    ·
     try simp only [dY] at hc23
     try have hRb : nright (kitem x) = false := by simpa using hc23
     try have hTb : nright (opT x) = false := by simpa using hc23
     refine x_seq fun K34 hK34 => x_region ?_
     refine s_go s_assign ?_
     try simp only [nY]
     refine x_nil (hK34 _ _ ?_)
     refine x_ret (r_tmp rfl ?_)
     exact ⟨congrArg (Value.int .i64) (opE_a (by omega) (by exact .inl ⟨by omega, hRb⟩)).symm, hS.ext_of⟩
    try simp only [dY] at hc23
    try have hRa : nright (kitem x) = true := by simpa using hc23
    try have hTa : nright (opT x) = true := by simpa using hc23
    refine x_skip ?_
    refine hK28 _ _ ?_
    refine x_seq fun K35 hK35 => x_region ?_
    refine s_go s_assign ?_
    try simp only [nY]
    refine x_nil (hK35 _ _ ?_)
    refine x_ret (r_tmp rfl ?_)
    (exfalso; simp_all; done)
   try simp only [dY] at hc22
   try have hRa : nright (kitem x) = true := by simpa using hc22
   try have hTa : nright (opT x) = true := by simpa using hc22
   refine x_seq fun K36 hK36 => x_region ?_
   refine s_go s_move ?_
   try simp only [nY]
   refine s_go s_move ?_
   try simp only [nY]
   refine s_part 39 rfl (fun hp13 => ?_) (fun hp13 => ?_)
   ·
    try simp only [n3, n4]
    try simp only [dZ, ne_eq] at hp13
    refine g_on (yi (t := 39) rfl rfl) ?_
    refine s_go (m_fieldAddr U27 (hi := ti3)) ?_
    try simp only [nY, fY, gY]
    refine g_on (yi (t := 39) rfl rfl) ?_
    refine s_go (m_load_obj U3 (hS := hS) (hv := by exact zi_get rfl (by omega))) ?_
    try simp only [nY, gY]
    rw [show x.getD 10 0 = opN x from rfl]
    refine g_on (yi (t := 39) rfl rfl) ?_
    refine s_go s_lss ?_
    try simp only [nY]
    refine g_on (yi (t := 39) rfl rfl) ?_
    refine s_go s_move ?_
    try simp only [nY]
    refine s_part 43 rfl (fun hp14 => ?_) (fun hp14 => ?_)
    ·
     try simp only [n3, n4]
     try simp only [dZ, ne_eq] at hp14
     refine g_off (yi (t := 43) rfl rfl) ?_
     try simp only [nY]
     refine g_off (yi (t := 43) rfl rfl) ?_
     try simp only [nY]
     refine g_off (yi (t := 43) rfl rfl) ?_
     try simp only [nY]
     refine g_on (yi (t := 39) rfl rfl) ?_
     refine s_go s_pick_t ?_
     try simp only [nY]
     refine s_go s_pick_t ?_
     try simp only [nY]
     refine s_go s_assign ?_
     try simp only [nY]
     refine x_nil (hK36 _ _ ?_)
     refine x_cond_t (h := ?_)
     try have hRb : nright (kitem x) = false := by simpa using @c
     try have hTb : nright (opT x) = false := by simpa using @c
     refine x_skip ?_
     refine hK32 _ _ ?_
     refine x_cond_t (h := ?_)
     try have hRb : nright (kitem x) = false := by simpa using @c
     try have hTb : nright (opT x) = false := by simpa using @c
     refine x_seq fun K37 hK37 => x_region ?_
     refine s_go s_assign ?_
     try simp only [nY]
     refine x_nil (hK37 _ _ ?_)
     refine x_ret (r_tmp rfl ?_)
     exact ⟨congrArg (Value.int .i64) (opE_a (by omega) (by exact .inr (.inl ⟨by omega, by omega⟩))).symm, hS.ext_of⟩
    try simp only [n3, n4]
    try simp only [dZ, ne_eq] at hp14
    refine g_on (yi (t := 43) rfl rfl) ?_
    refine s_go (m_fieldAddr U27 (hi := ti3)) ?_
    try simp only [nY, fY, gY]
    refine g_on (yi (t := 43) rfl rfl) ?_
    refine s_go (m_load_obj U3 (hS := hS) (hv := by exact zi_get rfl (by omega))) ?_
    try simp only [nY, gY]
    rw [show x.getD 10 0 = opN x from rfl]
    refine g_on (yi (t := 43) rfl rfl) ?_
    refine s_go s_gtr ?_
    try simp only [nY]
    refine g_on (yi (t := 39) rfl rfl) ?_
    refine s_go s_pick_f ?_
    try simp only [nY]
    refine s_go s_pick_t ?_
    try simp only [nY]
    refine s_go s_assign ?_
    try simp only [nY]
    refine x_nil (hK36 _ _ ?_)
    refine x_cond (ht := fun hc26 => ?_) (hf := fun hc26 => ?_)
    ·
     try simp only [dY] at hc26
     try have hRb : nright (kitem x) = false := by simpa using hc26
     try have hTb : nright (opT x) = false := by simpa using hc26
     refine x_skip ?_
     refine hK32 _ _ ?_
     refine x_cond (ht := fun hc27 => ?_) (hf := fun hc27 => ?_)
     ·
      try simp only [dY] at hc27
      try have hRb : nright (kitem x) = false := by simpa using hc27
      try have hTb : nright (opT x) = false := by simpa using hc27
      refine x_seq fun K38 hK38 => x_region ?_
      refine s_go s_assign ?_
      try simp only [nY]
      refine x_nil (hK38 _ _ ?_)
      refine x_ret (r_tmp rfl ?_)
      exact ⟨congrArg (Value.int .i64) (opE_a (by omega) (by exact .inr (.inl ⟨by omega, by omega⟩))).symm, hS.ext_of⟩
     try simp only [dY] at hc27
     (exfalso; omega)
    try simp only [dY] at hc26
    try have hRa : nright (kitem x) = true := by simpa using hc26
    try have hTa : nright (opT x) = true := by simpa using hc26
    refine x_region ?_
    refine s_go (m_fieldAddr U27 (hi := ti3)) ?_
    try simp only [nY, fY, gY]
    refine s_go (m_load_obj U3 (hS := hS) (hv := by exact zi_get rfl (by omega))) ?_
    try simp only [nY, gY]
    rw [show x.getD 0 0 = opK x from rfl]
    refine s_go s_eql ?_
    try simp only [nY]
    refine s_go s_move ?_
    try simp only [nY]
    refine s_part 52 rfl (fun hp15 => ?_) (fun hp15 => ?_)
    ·
     try simp only [n3, n4]
     try simp only [dZ, ne_eq] at hp15
     (exfalso; omega)
    try simp only [n3, n4]
    try simp only [dZ, ne_eq] at hp15
    refine g_off (yi (t := 52) rfl rfl) ?_
    try simp only [nY]
    refine g_off (yi (t := 52) rfl rfl) ?_
    try simp only [nY]
    refine g_off (yi (t := 52) rfl rfl) ?_
    try simp only [nY]
    refine s_go s_pick_f ?_
    try simp only [nY]
    refine s_go s_move ?_
    try simp only [nY]
    refine g_off (yi (t := 57) rfl rfl) ?_
    try simp only [nY]
    refine g_off (yi (t := 57) rfl rfl) ?_
    try simp only [nY]
    refine g_off (yi (t := 57) rfl rfl) ?_
    try simp only [nY]
    refine g_off (yi (t := 57) rfl rfl) ?_
    try simp only [nY]
    refine s_go s_pick_f ?_
    try simp only [nY]
    refine s_go s_assign ?_
    try simp only [nY]
    refine x_nil (hK32 _ _ ?_)
    refine x_cond_f (h := ?_)
    try have hRa : nright (kitem x) = true := by simpa using @c
    try have hTa : nright (opT x) = true := by simpa using @c
    refine x_skip ?_
    refine hK28 _ _ ?_
    refine x_seq fun K43 hK43 => x_region ?_
    refine s_go s_assign ?_
    try simp only [nY]
    refine x_nil (hK43 _ _ ?_)
    refine x_ret (r_tmp rfl ?_)
    exact ⟨congrArg (Value.int .i64) (opE_0 (by omega) (fun q => by exact hRa) (by omega) (fun q => by (exfalso; omega))).symm, hS.ext_of⟩
   try simp only [n3, n4]
   try simp only [dZ, ne_eq] at hp13
   refine g_off (yi (t := 39) rfl rfl) ?_
   try simp only [nY]
   refine g_off (yi (t := 39) rfl rfl) ?_
   try simp only [nY]
   refine g_off (yi (t := 39) rfl rfl) ?_
   try simp only [nY]
   refine g_off (yi (t := 39) rfl rfl) ?_
   try simp only [nY]
   refine g_un (yn (t := 43) rfl rfl) ?_
   try simp only [nY]
   refine g_un (yn (t := 43) rfl rfl) ?_
   try simp only [nY]
   refine g_un (yn (t := 43) rfl rfl) ?_
   try simp only [nY]
   refine g_off (yi (t := 39) rfl rfl) ?_
   try simp only [nY]
   refine s_go s_pick_f ?_
   try simp only [nY]
   refine s_go s_assign ?_
   try simp only [nY]
   refine x_nil (hK36 _ _ ?_)
   refine x_cond_f (h := ?_)
   try have hRa : nright (kitem x) = true := by simpa using @c
   try have hTa : nright (opT x) = true := by simpa using @c
   refine x_region ?_
   refine s_go (m_fieldAddr U27 (hi := ti3)) ?_
   try simp only [nY, fY, gY]
   refine s_go (m_load_obj U3 (hS := hS) (hv := by exact zi_get rfl (by omega))) ?_
   try simp only [nY, gY]
   rw [show x.getD 0 0 = opK x from rfl]
   refine s_go s_eql ?_
   try simp only [nY]
   refine s_go s_move ?_
   try simp only [nY]
   refine s_part 52 rfl (fun hp17 => ?_) (fun hp17 => ?_)
   ·
    try simp only [n3, n4]
    try simp only [dZ, ne_eq] at hp17
    (exfalso; omega)
   try simp only [n3, n4]
   try simp only [dZ, ne_eq] at hp17
   refine g_off (yi (t := 52) rfl rfl) ?_
   try simp only [nY]
   refine g_off (yi (t := 52) rfl rfl) ?_
   try simp only [nY]
   refine g_off (yi (t := 52) rfl rfl) ?_
   try simp only [nY]
   refine s_go s_pick_f ?_
   try simp only [nY]
   refine s_go s_move ?_
   try simp only [nY]
   refine g_off (yi (t := 57) rfl rfl) ?_
   try simp only [nY]
   refine g_off (yi (t := 57) rfl rfl) ?_
   try simp only [nY]
   refine g_off (yi (t := 57) rfl rfl) ?_
   try simp only [nY]
   refine g_off (yi (t := 57) rfl rfl) ?_
   try simp only [nY]
   refine s_go s_pick_f ?_
   try simp only [nY]
   refine s_go s_assign ?_
   try simp only [nY]
   refine x_nil (hK32 _ _ ?_)
   refine x_cond_f (h := ?_)
   try have hRa : nright (kitem x) = true := by simpa using @c
   try have hTa : nright (opT x) = true := by simpa using @c
   refine x_skip ?_
   refine hK28 _ _ ?_
   refine x_seq fun K47 hK47 => x_region ?_
   refine s_go s_assign ?_
   try simp only [nY]
   refine x_nil (hK47 _ _ ?_)
   refine x_ret (r_tmp rfl ?_)
   exact ⟨congrArg (Value.int .i64) (opE_0 (by omega) (fun q => by exact hRa) (by omega) (fun q => by (exfalso; omega))).symm, hS.ext_of⟩
  try simp only [n3, n4]
  try simp only [dZ, ne_eq] at hp12
  refine g_off (yi (t := 32) rfl rfl) ?_
  try simp only [nY]
  refine g_off (yi (t := 32) rfl rfl) ?_
  try simp only [nY]
  refine g_off (yi (t := 32) rfl rfl) ?_
  try simp only [nY]
  refine g_off (yi (t := 32) rfl rfl) ?_
  try simp only [nY]
  refine s_go s_pick_f ?_
  try simp only [nY]
  refine s_go s_assign ?_
  try simp only [nY]
  refine x_nil (hK33 _ _ ?_)
  refine x_cond_f (h := ?_)
  try have hRa : nright (kitem x) = true := by simpa using @c
  try have hTa : nright (opT x) = true := by simpa using @c
  refine x_seq fun K48 hK48 => x_region ?_
  refine s_go s_move ?_
  try simp only [nY]
  refine s_go s_move ?_
  try simp only [nY]
  refine s_part 39 rfl (fun hp19 => ?_) (fun hp19 => ?_)
  ·
   try simp only [n3, n4]
   try simp only [dZ, ne_eq] at hp19
   (exfalso; omega)
  try simp only [n3, n4]
  try simp only [dZ, ne_eq] at hp19
  refine g_off (yi (t := 39) rfl rfl) ?_
  try simp only [nY]
  refine g_off (yi (t := 39) rfl rfl) ?_
  try simp only [nY]
  refine g_off (yi (t := 39) rfl rfl) ?_
  try simp only [nY]
  refine g_off (yi (t := 39) rfl rfl) ?_
  try simp only [nY]
  refine g_un (yn (t := 43) rfl rfl) ?_
  try simp only [nY]
  refine g_un (yn (t := 43) rfl rfl) ?_
  try simp only [nY]
  refine g_un (yn (t := 43) rfl rfl) ?_
  try simp only [nY]
  refine g_off (yi (t := 39) rfl rfl) ?_
  try simp only [nY]
  refine s_go s_pick_f ?_
  try simp only [nY]
  refine s_go s_assign ?_
  try simp only [nY]
  refine x_nil (hK48 _ _ ?_)
  refine x_cond_f (h := ?_)
  try have hRa : nright (kitem x) = true := by simpa using @c
  try have hTa : nright (opT x) = true := by simpa using @c
  refine x_region ?_
  refine s_go (m_fieldAddr U27 (hi := ti3)) ?_
  try simp only [nY, fY, gY]
  refine s_go (m_load_obj U3 (hS := hS) (hv := by exact zi_get rfl (by omega))) ?_
  try simp only [nY, gY]
  rw [show x.getD 0 0 = opK x from rfl]
  refine s_go s_eql ?_
  try simp only [nY]
  refine s_go s_move ?_
  try simp only [nY]
  refine s_part 52 rfl (fun hp23 => ?_) (fun hp23 => ?_)
  ·
   try simp only [n3, n4]
   try simp only [dZ, ne_eq] at hp23
   refine g_on (yi (t := 52) rfl rfl) ?_
   refine s_go (m_fieldAddr U27 (hi := ti25)) ?_
   try simp only [nY, fY, gY]
   refine g_on (yi (t := 52) rfl rfl) ?_
   refine s_go (m_loada_obj U25 (hi := ti25) (hS := hS) (hfit := by (rw [zi_size (by omega)]; decide))) ?_
   try simp only [nY, gY]
   rw [op_text hxl]
   refine g_on (yi (t := 52) rfl rfl) ?_
   refine s_call en40 ?_
   try simp only [nY, mY]
   refine CallR.mono (c_nameSome (opT x) htl hbt _) ?_
   rintro _ w14 ⟨rfl, hE14⟩
   replace hS := hS.ext hE14
   try simp only [nY]
   refine s_go s_pick_t ?_
   try simp only [nY]
   refine s_go s_move ?_
   try simp only [nY]
   refine s_part 57 rfl (fun hp24 => ?_) (fun hp24 => ?_)
   ·
    try simp only [n3, n4]
    try simp only [dZ, ne_eq] at hp24
    have hTn : ¬ opT x = nm0 := by simpa using hp24
    refine g_on (yi (t := 57) rfl rfl) ?_
    refine s_go (m_fieldAddr U27 (hi := ti25)) ?_
    try simp only [nY, fY, gY]
    refine g_on (yi (t := 57) rfl rfl) ?_
    refine s_go (m_loada_obj U25 (hi := ti25) (hS := hS) (hfit := by (rw [zi_size (by omega)]; decide))) ?_
    try simp only [nY, gY]
    rw [op_text hxl]
    refine g_on (yi (t := 57) rfl rfl) ?_
    refine s_call en39 ?_
    try simp only [nY, mY]
    refine CallR.mono (c_nameRight (opT x) htl hbt _) ?_
    rintro _ w15 ⟨rfl, hE15⟩
    replace hS := hS.ext hE15
    try simp only [nY]
    refine g_on (yi (t := 57) rfl rfl) ?_
    refine s_go s_not ?_
    try simp only [nY]
    refine s_go s_pick_t ?_
    try simp only [nY]
    refine s_go s_assign ?_
    try simp only [nY]
    refine x_nil (hK32 _ _ ?_)
    refine x_cond (ht := fun hc44 => ?_) (hf := fun hc44 => ?_)
    ·
     try simp only [dY] at hc44
     try have hRb : nright (kitem x) = false := by simpa using hc44
     try have hTb : nright (opT x) = false := by simpa using hc44
     refine x_seq fun K56 hK56 => x_region ?_
     refine s_go s_assign ?_
     try simp only [nY]
     refine x_nil (hK56 _ _ ?_)
     refine x_ret (r_tmp rfl ?_)
     exact ⟨congrArg (Value.int .i64) (opE_a (by omega) (by exact .inr (.inr ⟨by omega, hTn, hTb⟩))).symm, hS.ext_of⟩
    try simp only [dY] at hc44
    try have hRa : nright (kitem x) = true := by simpa using hc44
    try have hTa : nright (opT x) = true := by simpa using hc44
    refine x_skip ?_
    refine hK28 _ _ ?_
    refine x_seq fun K57 hK57 => x_region ?_
    refine s_go s_assign ?_
    try simp only [nY]
    refine x_nil (hK57 _ _ ?_)
    refine x_ret (r_tmp rfl ?_)
    exact ⟨congrArg (Value.int .i64) (opE_0 (by omega) (fun q => by (exfalso; omega)) (by omega) (fun q => by exact .inr hTa)).symm, hS.ext_of⟩
   try simp only [n3, n4]
   try simp only [dZ, ne_eq] at hp24
   have hT0 : opT x = nm0 := by simpa using hp24
   refine g_off (yi (t := 57) rfl rfl) ?_
   try simp only [nY]
   refine g_off (yi (t := 57) rfl rfl) ?_
   try simp only [nY]
   refine g_off (yi (t := 57) rfl rfl) ?_
   try simp only [nY]
   refine g_off (yi (t := 57) rfl rfl) ?_
   try simp only [nY]
   refine s_go s_pick_f ?_
   try simp only [nY]
   refine s_go s_assign ?_
   try simp only [nY]
   refine x_nil (hK32 _ _ ?_)
   refine x_cond_f (h := ?_)
   try have hRa : nright (kitem x) = true := by simpa using @c
   try have hTa : nright (opT x) = true := by simpa using @c
   refine x_skip ?_
   refine hK28 _ _ ?_
   refine x_seq fun K58 hK58 => x_region ?_
   refine s_go s_assign ?_
   try simp only [nY]
   refine x_nil (hK58 _ _ ?_)
   refine x_ret (r_tmp rfl ?_)
   exact ⟨congrArg (Value.int .i64) (opE_0 (by omega) (fun q => by (exfalso; omega)) (by omega) (fun q => by exact .inl hT0)).symm, hS.ext_of⟩
  try simp only [n3, n4]
  try simp only [dZ, ne_eq] at hp23
  refine g_off (yi (t := 52) rfl rfl) ?_
  try simp only [nY]
  refine g_off (yi (t := 52) rfl rfl) ?_
  try simp only [nY]
  refine g_off (yi (t := 52) rfl rfl) ?_
  try simp only [nY]
  refine s_go s_pick_f ?_
  try simp only [nY]
  refine s_go s_move ?_
  try simp only [nY]
  refine g_off (yi (t := 57) rfl rfl) ?_
  try simp only [nY]
  refine g_off (yi (t := 57) rfl rfl) ?_
  try simp only [nY]
  refine g_off (yi (t := 57) rfl rfl) ?_
  try simp only [nY]
  refine g_off (yi (t := 57) rfl rfl) ?_
  try simp only [nY]
  refine s_go s_pick_f ?_
  try simp only [nY]
  refine s_go s_assign ?_
  try simp only [nY]
  refine x_nil (hK32 _ _ ?_)
  refine x_cond_f (h := ?_)
  try have hRa : nright (kitem x) = true := by simpa using @c
  try have hTa : nright (opT x) = true := by simpa using @c
  refine x_skip ?_
  refine hK28 _ _ ?_
  refine x_seq fun K59 hK59 => x_region ?_
  refine s_go s_assign ?_
  try simp only [nY]
  refine x_nil (hK59 _ _ ?_)
  refine x_ret (r_tmp rfl ?_)
  exact ⟨congrArg (Value.int .i64) (opE_0 (by omega) (fun q => by (exfalso; omega)) (by omega) (fun q => by (exfalso; omega))).symm, hS.ext_of⟩
 try simp only [n3, n4]
 try simp only [dZ, ne_eq] at hp1
 refine g_off (yi (t := 8) rfl rfl) ?_
 try simp only [nY]
 refine g_off (yi (t := 8) rfl rfl) ?_
 try simp only [nY]
 refine g_off (yi (t := 8) rfl rfl) ?_
 try simp only [nY]
 refine s_go s_pick_f ?_
 try simp only [nY]
 refine s_go s_assign ?_
 try simp only [nY]
 refine x_nil (hK2 _ _ ?_)
 refine x_seq fun K60 hK60 => x_region ?_
 refine s_go (m_fieldAddr U27 (hi := ti3)) ?_
 try simp only [nY, fY, gY]
 refine s_go (m_load_obj U3 (hS := hS) (hv := by exact zi_get rfl (by omega))) ?_
 try simp only [nY, gY]
 rw [show x.getD 0 0 = opK x from rfl]
 refine s_go s_eql ?_
 try simp only [nY]
 refine s_go s_move ?_
 try simp only [nY]
 refine s_part 16 rfl (fun hp25 => ?_) (fun hp25 => ?_)
 ·
  try simp only [n3, n4]
  try simp only [dZ, ne_eq] at hp25
  (exfalso; omega)
 try simp only [n3, n4]
 try simp only [dZ, ne_eq] at hp25
 refine g_on (yi (t := 16) rfl rfl) ?_
 refine s_go (m_fieldAddr U27 (hi := ti3)) ?_
 try simp only [nY, fY, gY]
 refine g_on (yi (t := 16) rfl rfl) ?_
 refine s_go (m_load_obj U3 (hS := hS) (hv := by exact zi_get rfl (by omega))) ?_
 try simp only [nY, gY]
 rw [show x.getD 0 0 = opK x from rfl]
 refine g_on (yi (t := 16) rfl rfl) ?_
 refine s_go s_eql ?_
 try simp only [nY]
 refine s_go s_pick_f ?_
 try simp only [nY]
 refine s_go s_assign ?_
 try simp only [nY]
 refine x_nil (hK60 _ _ ?_)
 refine x_seq fun K75 hK75 => ?_
 refine x_block ?_
 refine x_seq fun K76 hK76 => x_region ?_
 refine s_go (m_fieldAddr U27 (hi := ti3)) ?_
 try simp only [nY, fY, gY]
 refine s_go (m_load_obj U3 (hS := hS) (hv := by exact zi_get rfl (by omega))) ?_
 try simp only [nY, gY]
 rw [show x.getD 0 0 = opK x from rfl]
 refine s_go s_lss ?_
 try simp only [nY]
 refine s_go s_move ?_
 try simp only [nY]
 refine s_part 25 rfl (fun hp30 => ?_) (fun hp30 => ?_)
 ·
  try simp only [n3, n4]
  try simp only [dZ, ne_eq] at hp30
  refine g_off (yi (t := 25) rfl rfl) ?_
  try simp only [nY]
  refine g_off (yi (t := 25) rfl rfl) ?_
  try simp only [nY]
  refine g_off (yi (t := 25) rfl rfl) ?_
  try simp only [nY]
  refine s_go s_pick_t ?_
  try simp only [nY]
  refine s_go s_assign ?_
  try simp only [nY]
  refine x_nil (hK76 _ _ ?_)
  refine x_cond_t (h := ?_)
  refine x_seq fun K77 hK77 => x_region ?_
  refine s_go s_assign ?_
  try simp only [nY]
  refine x_nil (hK77 _ _ ?_)
  refine x_ret (r_tmp rfl ?_)
  exact ⟨congrArg (Value.int .i64) (opE_14 (by omega)).symm, hS.ext_of⟩
 try simp only [n3, n4]
 try simp only [dZ, ne_eq] at hp30
 (exfalso; omega)
theorem c_ref18Right (x : List Int) (hx : OpOk x)  (w0 : World) :
    CallR Tryz.prog 17 #[.agg (OA x)] w0 fun v w' => v = .int .i64 (opE x) ∧ Ext w0 w' := by
 have hS : St NoB w0 w0 [] := St.start w0
 have hxl := hx.len
 have hil := op_il hxl
 have htl := op_tl hxl
 have hk1 := hx.k1
 have hk2 := hx.k2
 have hm1 := hx.m1
 have hm2 := hx.m2
 have hbi := hx.item
 have hbt := hx.text
 have hcx := hx.b1
 have hn0l : nm0.length = 8 := rfl
 refine c_enter (l := [.agg (OA x), undef, undef, undef, undef, undef, undef, undef, undef, undef, undef, undef, undef, undef, undef, undef, undef, undef, undef, undef, undef, undef, undef, undef, undef, undef, undef, undef, undef, undef, undef, undef, undef, undef, undef, undef, undef, undef, undef, undef, undef, undef, undef, undef, undef, undef, undef, undef, undef, undef, undef, undef, undef]) Tryz.func17 rfl (by simp only [Tryz.ntmps17, List.size_toArray, List.length_cons, List.length_nil, Nat.reduceAdd, Nat.reduceSub, Array.replicate_succ, Array.replicate_zero, List.push_toArray, List.append_toArray, List.nil_append, List.cons_append]) ?_
 refine x_seq fun K1 hK1 => x_region ?_
 refine m_box hS (fun w1 g1 hS => ?_)
 try simp only [nY, aY] at hS ⊢
 refine s_go s_assign ?_
 try simp only [nY]
 refine x_nil (hK1 _ _ ?_)
 refine x_seq fun K2 hK2 => ?_
 refine x_seq fun K3 hK3 => x_region ?_
 refine s_go (m_fieldAddr U27 (hi := ti3)) ?_
 try simp only [nY, fY, gY]
 refine s_go (m_load_obj U3 (hS := hS) (hv := by exact zi_get rfl (by omega))) ?_
 try simp only [nY, gY]
 rw [show x.getD 0 0 = opK x from rfl]
 refine s_go s_lss ?_
 try simp only [nY]
 refine s_go s_move ?_
 try simp only [nY]
 refine s_part 6 rfl (fun hp1 => ?_) (fun hp1 => ?_)
 ·
  try simp only [n3, n4]
  try simp only [dZ, ne_eq] at hp1
  refine g_off (yi (t := 6) rfl rfl) ?_
  try simp only [nY]
  refine g_off (yi (t := 6) rfl rfl) ?_
  try simp only [nY]
  refine g_off (yi (t := 6) rfl rfl) ?_
  try simp only [nY]
  refine s_go s_pick_t ?_
  try simp only [nY]
  refine x_nil (hK3 _ _ ?_)
  refine x_cond_t (h := ?_)
  refine x_seq fun K4 hK4 => x_region ?_
  refine s_go s_assign ?_
  try simp only [nY]
  refine x_nil (hK4 _ _ ?_)
  refine x_ret (r_tmp rfl ?_)
  exact ⟨congrArg (Value.int .i64) (opE_14 (by omega)).symm, hS.ext_of⟩
 try simp only [n3, n4]
 try simp only [dZ, ne_eq] at hp1
 refine g_on (yi (t := 6) rfl rfl) ?_
 refine s_go (m_fieldAddr U27 (hi := ti3)) ?_
 try simp only [nY, fY, gY]
 refine g_on (yi (t := 6) rfl rfl) ?_
 refine s_go (m_load_obj U3 (hS := hS) (hv := by exact zi_get rfl (by omega))) ?_
 try simp only [nY, gY]
 rw [show x.getD 0 0 = opK x from rfl]
 refine g_on (yi (t := 6) rfl rfl) ?_
 refine s_go s_gtr ?_
 try simp only [nY]
 refine s_go s_pick_f ?_
 try simp only [nY]
 refine x_nil (hK3 _ _ ?_)
 refine x_cond (ht := fun hc2 => ?_) (hf := fun hc2 => ?_)
 ·
  try simp only [dY] at hc2
  refine x_seq fun K5 hK5 => x_region ?_
  refine s_go s_assign ?_
  try simp only [nY]
  refine x_nil (hK5 _ _ ?_)
  refine x_ret (r_tmp rfl ?_)
  exact ⟨congrArg (Value.int .i64) (opE_14 (by omega)).symm, hS.ext_of⟩
 try simp only [dY] at hc2
 refine x_skip ?_
 refine hK2 _ _ ?_
 refine x_seq fun K6 hK6 => ?_
 refine x_seq fun K7 hK7 => x_region ?_
 refine s_go (m_fieldAddr U27 (hi := ti3)) ?_
 try simp only [nY, fY, gY]
 refine s_go (m_load_obj U3 (hS := hS) (hv := by exact zi_get rfl (by omega))) ?_
 try simp only [nY, gY]
 rw [show x.getD 0 0 = opK x from rfl]
 refine s_go s_leq ?_
 try simp only [nY]
 refine s_go s_move ?_
 try simp only [nY]
 refine s_part 14 rfl (fun hp2 => ?_) (fun hp2 => ?_)
 ·
  try simp only [n3, n4]
  try simp only [dZ, ne_eq] at hp2
  refine g_on (yi (t := 14) rfl rfl) ?_
  refine s_go (m_fieldAddr U27 (hi := ti25)) ?_
  try simp only [nY, fY, gY]
  refine g_on (yi (t := 14) rfl rfl) ?_
  refine s_go (m_loada_obj U25 (hi := ti25) (hS := hS) (hfit := by (rw [zi_size (by omega)]; decide))) ?_
  try simp only [nY, gY]
  rw [op_item hxl]
  refine g_on (yi (t := 14) rfl rfl) ?_
  refine s_call en41 ?_
  try simp only [nY, mY]
  refine CallR.mono (c_ref06Right (kitem x) hil hbi _) ?_
  rintro _ w2 ⟨rfl, hE2⟩
  replace hS := hS.ext hE2
  try simp only [nY]
  refine g_on (yi (t := 14) rfl rfl) ?_
  refine s_go s_not ?_
  try simp only [nY]
  refine s_go s_pick_t ?_
  try simp only [nY]
  refine x_nil (hK7 _ _ ?_)
  refine x_cond (ht := fun hc3 => ?_) (hf := fun hc3 => ?_)
  ·
   try simp only [dY] at hc3
   try have hRb : nright (kitem x) = false := by simpa using hc3
   try have hTb : nright (opT x) = false := by simpa using hc3
   refine x_seq fun K8 hK8 => x_region ?_
   refine s_go s_assign ?_
   try simp only [nY]
   refine x_nil (hK8 _ _ ?_)
   refine x_ret (r_tmp rfl ?_)
   exact ⟨congrArg (Value.int .i64) (opE_a (by omega) (by exact .inl ⟨by omega, hRb⟩)).symm, hS.ext_of⟩
  try simp only [dY] at hc3
  try have hRa : nright (kitem x) = true := by simpa using hc3
  try have hTa : nright (opT x) = true := by simpa using hc3
  refine x_skip ?_
  refine hK6 _ _ ?_
  refine x_seq fun K9 hK9 => ?_
  refine x_seq fun K10 hK10 => x_region ?_
  refine s_go (m_fieldAddr U27 (hi := ti3)) ?_
  try simp only [nY, fY, gY]
  refine s_go (m_load_obj U3 (hS := hS) (hv := by exact zi_get rfl (by omega))) ?_
  try simp only [nY, gY]
  rw [show x.getD 0 0 = opK x from rfl]
  refine s_go s_eql ?_
  try simp only [nY]
  refine s_go s_move ?_
  try simp only [nY]
  refine s_part 23 rfl (fun hp3 => ?_) (fun hp3 => ?_)
  ·
   try simp only [n3, n4]
   try simp only [dZ, ne_eq] at hp3
   refine g_off (yi (t := 23) rfl rfl) ?_
   try simp only [nY]
   refine g_off (yi (t := 23) rfl rfl) ?_
   try simp only [nY]
   refine g_off (yi (t := 23) rfl rfl) ?_
   try simp only [nY]
   refine s_go s_pick_t ?_
   try simp only [nY]
   refine s_go s_move ?_
   try simp only [nY]
   refine g_on (yi (t := 28) rfl rfl) ?_
   refine s_go (m_fieldAddr U27 (hi := ti3)) ?_
   try simp only [nY, fY, gY]
   refine g_on (yi (t := 28) rfl rfl) ?_
   refine s_go (m_load_obj U3 (hS := hS) (hv := by exact zi_get rfl (by omega))) ?_
   try simp only [nY, gY]
   rw [show x.getD 10 0 = opN x from rfl]
   refine g_on (yi (t := 28) rfl rfl) ?_
   refine s_go s_lss ?_
   try simp only [nY]
   refine g_on (yi (t := 28) rfl rfl) ?_
   refine s_go s_move ?_
   try simp only [nY]
   refine s_part 32 rfl (fun hp4 => ?_) (fun hp4 => ?_)
   ·
    try simp only [n3, n4]
    try simp only [dZ, ne_eq] at hp4
    refine g_off (yi (t := 32) rfl rfl) ?_
    try simp only [nY]
    refine g_off (yi (t := 32) rfl rfl) ?_
    try simp only [nY]
    refine g_off (yi (t := 32) rfl rfl) ?_
    try simp only [nY]
    refine g_on (yi (t := 28) rfl rfl) ?_
    refine s_go s_pick_t ?_
    try simp only [nY]
    refine s_go s_pick_t ?_
    try simp only [nY]
    refine x_nil (hK10 _ _ ?_)
    refine x_cond_t (h := ?_)
    refine x_seq fun K11 hK11 => x_region ?_
    refine s_go s_assign ?_
    try simp only [nY]
    refine x_nil (hK11 _ _ ?_)
    refine x_ret (r_tmp rfl ?_)
    exact ⟨congrArg (Value.int .i64) (opE_a (by omega) (by exact .inr (.inl ⟨by omega, by omega⟩))).symm, hS.ext_of⟩
   try simp only [n3, n4]
   try simp only [dZ, ne_eq] at hp4
   refine g_on (yi (t := 32) rfl rfl) ?_
   refine s_go (m_fieldAddr U27 (hi := ti3)) ?_
   try simp only [nY, fY, gY]
   refine g_on (yi (t := 32) rfl rfl) ?_
   refine s_go (m_load_obj U3 (hS := hS) (hv := by exact zi_get rfl (by omega))) ?_
   try simp only [nY, gY]
   rw [show x.getD 10 0 = opN x from rfl]
   refine g_on (yi (t := 32) rfl rfl) ?_
   refine s_go s_gtr ?_
   try simp only [nY]
   refine g_on (yi (t := 28) rfl rfl) ?_
   refine s_go s_pick_f ?_
   try simp only [nY]
   refine s_go s_pick_t ?_
   try simp only [nY]
   refine x_nil (hK10 _ _ ?_)
   refine x_cond (ht := fun hc5 => ?_) (hf := fun hc5 => ?_)
   ·
    try simp only [dY] at hc5
    refine x_seq fun K12 hK12 => x_region ?_
    refine s_go s_assign ?_
    try simp only [nY]
    refine x_nil (hK12 _ _ ?_)
    refine x_ret (r_tmp rfl ?_)
    exact ⟨congrArg (Value.int .i64) (opE_a (by omega) (by exact .inr (.inl ⟨by omega, by omega⟩))).symm, hS.ext_of⟩
   try simp only [dY] at hc5
   refine x_skip ?_
   refine hK9 _ _ ?_
   refine x_seq fun K13 hK13 => ?_
   refine x_seq fun K14 hK14 => x_region ?_
   refine s_go (m_fieldAddr U27 (hi := ti3)) ?_
   try simp only [nY, fY, gY]
   refine s_go (m_load_obj U3 (hS := hS) (hv := by exact zi_get rfl (by omega))) ?_
   try simp only [nY, gY]
   rw [show x.getD 0 0 = opK x from rfl]
   refine s_go s_eql ?_
   try simp only [nY]
   refine s_go s_move ?_
   try simp only [nY]
   refine s_part 41 rfl (fun hp5 => ?_) (fun hp5 => ?_)
   ·
    try simp only [n3, n4]
    try simp only [dZ, ne_eq] at hp5
    (exfalso; omega)
   try simp only [n3, n4]
   try simp only [dZ, ne_eq] at hp5
   refine g_off (yi (t := 41) rfl rfl) ?_
   try simp only [nY]
   refine g_off (yi (t := 41) rfl rfl) ?_
   try simp only [nY]
   refine g_off (yi (t := 41) rfl rfl) ?_
   try simp only [nY]
   refine g_off (yi (t := 41) rfl rfl) ?_
   try simp only [nY]
   refine s_go s_pick_f ?_
   try simp only [nY]
   refine s_go s_move ?_
   try simp only [nY]
   refine g_off (yi (t := 47) rfl rfl) ?_
   try simp only [nY]
   refine g_off (yi (t := 47) rfl rfl) ?_
   try simp only [nY]
   refine g_off (yi (t := 47) rfl rfl) ?_
   try simp only [nY]
   refine g_off (yi (t := 47) rfl rfl) ?_
   try simp only [nY]
   refine s_go s_pick_f ?_
   try simp only [nY]
   refine x_nil (hK14 _ _ ?_)
   refine x_cond_f (h := ?_)
   try have hRa : nright (kitem x) = true := by simpa using @c
   try have hTa : nright (opT x) = true := by simpa using @c
   refine x_skip ?_
   refine hK13 _ _ ?_
   refine x_seq fun K18 hK18 => x_region ?_
   refine s_go s_assign ?_
   try simp only [nY]
   refine x_nil (hK18 _ _ ?_)
   refine x_ret (r_tmp rfl ?_)
   exact ⟨congrArg (Value.int .i64) (opE_0 (by omega) (fun q => by exact hRa) (by omega) (fun q => by (exfalso; omega))).symm, hS.ext_of⟩
  try simp only [n3, n4]
  try simp only [dZ, ne_eq] at hp3
  refine g_on (yi (t := 23) rfl rfl) ?_
  refine s_go (m_fieldAddr U27 (hi := ti3)) ?_
  try simp only [nY, fY, gY]
  refine g_on (yi (t := 23) rfl rfl) ?_
  refine s_go (m_load_obj U3 (hS := hS) (hv := by exact zi_get rfl (by omega))) ?_
  try simp only [nY, gY]
  rw [show x.getD 0 0 = opK x from rfl]
  refine g_on (yi (t := 23) rfl rfl) ?_
  refine s_go s_eql ?_
  try simp only [nY]
  refine s_go s_pick_f ?_
  try simp only [nY]
  refine s_go s_move ?_
  try simp only [nY]
  refine s_part 28 rfl (fun hp7 => ?_) (fun hp7 => ?_)
  ·
   try simp only [n3, n4]
   try simp only [dZ, ne_eq] at hp7
   refine g_on (yi (t := 28) rfl rfl) ?_
   refine s_go (m_fieldAddr U27 (hi := ti3)) ?_
   try simp only [nY, fY, gY]
   refine g_on (yi (t := 28) rfl rfl) ?_
   refine s_go (m_load_obj U3 (hS := hS) (hv := by exact zi_get rfl (by omega))) ?_
   try simp only [nY, gY]
   rw [show x.getD 10 0 = opN x from rfl]
   refine g_on (yi (t := 28) rfl rfl) ?_
   refine s_go s_lss ?_
   try simp only [nY]
   refine g_on (yi (t := 28) rfl rfl) ?_
   refine s_go s_move ?_
   try simp only [nY]
   refine s_part 32 rfl (fun hp8 => ?_) (fun hp8 => ?_)
   ·
    try simp only [n3, n4]
    try simp only [dZ, ne_eq] at hp8
    refine g_off (yi (t := 32) rfl rfl) ?_
    try simp only [nY]
    refine g_off (yi (t := 32) rfl rfl) ?_
    try simp only [nY]
    refine g_off (yi (t := 32) rfl rfl) ?_
    try simp only [nY]
    refine g_on (yi (t := 28) rfl rfl) ?_
    refine s_go s_pick_t ?_
    try simp only [nY]
    refine s_go s_pick_t ?_
    try simp only [nY]
    refine x_nil (hK10 _ _ ?_)
    refine x_cond_t (h := ?_)
    refine x_seq fun K19 hK19 => x_region ?_
    refine s_go s_assign ?_
    try simp only [nY]
    refine x_nil (hK19 _ _ ?_)
    refine x_ret (r_tmp rfl ?_)
    exact ⟨congrArg (Value.int .i64) (opE_a (by omega) (by exact .inr (.inl ⟨by omega, by omega⟩))).symm, hS.ext_of⟩
   try simp only [n3, n4]
   try simp only [dZ, ne_eq] at hp8
   refine g_on (yi (t := 32) rfl rfl) ?_
   refine s_go (m_fieldAddr U27 (hi := ti3)) ?_
   try simp only [nY, fY, gY]
   refine g_on (yi (t := 32) rfl rfl) ?_
   refine s_go (m_load_obj U3 (hS := hS) (hv := by exact zi_get rfl (by omega))) ?_
   try simp only [nY, gY]
   rw [show x.getD 10 0 = opN x from rfl]
   refine g_on (yi (t := 32) rfl rfl) ?_
   refine s_go s_gtr ?_
   try simp only [nY]
   refine g_on (yi (t := 28) rfl rfl) ?_
   refine s_go s_pick_f ?_
   try simp only [nY]
   refine s_go s_pick_t ?_
   try simp only [nY]
   refine x_nil (hK10 _ _ ?_)
   refine x_cond (ht := fun hc10 => ?_) (hf := fun hc10 => ?_)
   ·
    try simp only [dY] at hc10
    refine x_seq fun K20 hK20 => x_region ?_
    refine s_go s_assign ?_
    try simp only [nY]
    refine x_nil (hK20 _ _ ?_)
    refine x_ret (r_tmp rfl ?_)
    exact ⟨congrArg (Value.int .i64) (opE_a (by omega) (by exact .inr (.inl ⟨by omega, by omega⟩))).symm, hS.ext_of⟩
   try simp only [dY] at hc10
   refine x_skip ?_
   refine hK9 _ _ ?_
   refine x_seq fun K21 hK21 => ?_
   refine x_seq fun K22 hK22 => x_region ?_
   refine s_go (m_fieldAddr U27 (hi := ti3)) ?_
   try simp only [nY, fY, gY]
   refine s_go (m_load_obj U3 (hS := hS) (hv := by exact zi_get rfl (by omega))) ?_
   try simp only [nY, gY]
   rw [show x.getD 0 0 = opK x from rfl]
   refine s_go s_eql ?_
   try simp only [nY]
   refine s_go s_move ?_
   try simp only [nY]
   refine s_part 41 rfl (fun hp9 => ?_) (fun hp9 => ?_)
   ·
    try simp only [n3, n4]
    try simp only [dZ, ne_eq] at hp9
    (exfalso; omega)
   try simp only [n3, n4]
   try simp only [dZ, ne_eq] at hp9
   refine g_off (yi (t := 41) rfl rfl) ?_
   try simp only [nY]
   refine g_off (yi (t := 41) rfl rfl) ?_
   try simp only [nY]
   refine g_off (yi (t := 41) rfl rfl) ?_
   try simp only [nY]
   refine g_off (yi (t := 41) rfl rfl) ?_
   try simp only [nY]
   refine s_go s_pick_f ?_
   try simp only [nY]
   refine s_go s_move ?_
   try simp only [nY]
   refine g_off (yi (t := 47) rfl rfl) ?_
   try simp only [nY]
   refine g_off (yi (t := 47) rfl rfl) ?_
   try simp only [nY]
   refine g_off (yi (t := 47) rfl rfl) ?_
   try simp only [nY]
   refine g_off (yi (t := 47) rfl rfl) ?_
   try simp only [nY]
   refine s_go s_pick_f ?_
   try simp only [nY]
   refine x_nil (hK22 _ _ ?_)
   refine x_cond_f (h := ?_)
   try have hRa : nright (kitem x) = true := by simpa using @c
   try have hTa : nright (opT x) = true := by simpa using @c
   refine x_skip ?_
   refine hK21 _ _ ?_
   refine x_seq fun K26 hK26 => x_region ?_
   refine s_go s_assign ?_
   try simp only [nY]
   refine x_nil (hK26 _ _ ?_)
   refine x_ret (r_tmp rfl ?_)
   exact ⟨congrArg (Value.int .i64) (opE_0 (by omega) (fun q => by exact hRa) (by omega) (fun q => by (exfalso; omega))).symm, hS.ext_of⟩
  try simp only [n3, n4]
  try simp only [dZ, ne_eq] at hp7
  refine g_off (yi (t := 28) rfl rfl) ?_
  try simp only [nY]
  refine g_off (yi (t := 28) rfl rfl) ?_
  try simp only [nY]
  refine g_off (yi (t := 28) rfl rfl) ?_
  try simp only [nY]
  refine g_off (yi (t := 28) rfl rfl) ?_
  try simp only [nY]
  refine g_un (yn (t := 32) rfl rfl) ?_
  try simp only [nY]
  refine g_un (yn (t := 32) rfl rfl) ?_
  try simp only [nY]
  refine g_un (yn (t := 32) rfl rfl) ?_
  try simp only [nY]
  refine g_off (yi (t := 28) rfl rfl) ?_
  try simp only [nY]
  refine s_go s_pick_f ?_
  try simp only [nY]
  refine x_nil (hK10 _ _ ?_)
  refine x_cond_f (h := ?_)
  refine x_skip ?_
  refine hK9 _ _ ?_
  refine x_seq fun K27 hK27 => ?_
  refine x_seq fun K28 hK28 => x_region ?_
  refine s_go (m_fieldAddr U27 (hi := ti3)) ?_
  try simp only [nY, fY, gY]
  refine s_go (m_load_obj U3 (hS := hS) (hv := by exact zi_get rfl (by omega))) ?_
  try simp only [nY, gY]
  rw [show x.getD 0 0 = opK x from rfl]
  refine s_go s_eql ?_
  try simp only [nY]
  refine s_go s_move ?_
  try simp only [nY]
  refine s_part 41 rfl (fun hp11 => ?_) (fun hp11 => ?_)
  ·
   try simp only [n3, n4]
   try simp only [dZ, ne_eq] at hp11
   (exfalso; omega)
  try simp only [n3, n4]
  try simp only [dZ, ne_eq] at hp11
  refine g_off (yi (t := 41) rfl rfl) ?_
  try simp only [nY]
  refine g_off (yi (t := 41) rfl rfl) ?_
  try simp only [nY]
  refine g_off (yi (t := 41) rfl rfl) ?_
  try simp only [nY]
  refine g_off (yi (t := 41) rfl rfl) ?_
  try simp only [nY]
  refine s_go s_pick_f ?_
  try simp only [nY]
  refine s_go s_move ?_
  try simp only [nY]
  refine g_off (yi (t := 47) rfl rfl) ?_
  try simp only [nY]
  refine g_off (yi (t := 47) rfl rfl) ?_
  try simp only [nY]
  refine g_off (yi (t := 47) rfl rfl) ?_
  try simp only [nY]
  refine g_off (yi (t := 47) rfl rfl) ?_
  try simp only [nY]
  refine s_go s_pick_f ?_
  try simp only [nY]
  refine x_nil (hK28 _ _ ?_)
  refine x_cond_f (h := ?_)
  try have hRa : nright (kitem x) = true := by simpa using @c
  try have hTa : nright (opT x) = true := by simpa using @c
  refine x_skip ?_
  refine hK27 _ _ ?_
  refine x_seq fun K32 hK32 => x_region ?_
  refine s_go s_assign ?_
  try simp only [nY]
  refine x_nil (hK32 _ _ ?_)
  refine x_ret (r_tmp rfl ?_)
  exact ⟨congrArg (Value.int .i64) (opE_0 (by omega) (fun q => by exact hRa) (by omega) (fun q => by (exfalso; omega))).symm, hS.ext_of⟩
 try simp only [n3, n4]
 try simp only [dZ, ne_eq] at hp2
 refine g_off (yi (t := 14) rfl rfl) ?_
 try simp only [nY]
 refine g_off (yi (t := 14) rfl rfl) ?_
 try simp only [nY]
 refine g_off (yi (t := 14) rfl rfl) ?_
 try simp only [nY]
 refine g_off (yi (t := 14) rfl rfl) ?_
 try simp only [nY]
 refine s_go s_pick_f ?_
 try simp only [nY]
 refine x_nil (hK7 _ _ ?_)
 refine x_cond_f (h := ?_)
 try have hRa : nright (kitem x) = true := by simpa using @c
 try have hTa : nright (opT x) = true := by simpa using @c
 refine x_skip ?_
 refine hK6 _ _ ?_
 refine x_seq fun K33 hK33 => ?_
 refine x_seq fun K34 hK34 => x_region ?_
 refine s_go (m_fieldAddr U27 (hi := ti3)) ?_
 try simp only [nY, fY, gY]
 refine s_go (m_load_obj U3 (hS := hS) (hv := by exact zi_get rfl (by omega))) ?_
 try simp only [nY, gY]
 rw [show x.getD 0 0 = opK x from rfl]
 refine s_go s_eql ?_
 try simp only [nY]
 refine s_go s_move ?_
 try simp only [nY]
 refine s_part 23 rfl (fun hp13 => ?_) (fun hp13 => ?_)
 ·
  try simp only [n3, n4]
  try simp only [dZ, ne_eq] at hp13
  (exfalso; omega)
 try simp only [n3, n4]
 try simp only [dZ, ne_eq] at hp13
 refine g_on (yi (t := 23) rfl rfl) ?_
 refine s_go (m_fieldAddr U27 (hi := ti3)) ?_
 try simp only [nY, fY, gY]
 refine g_on (yi (t := 23) rfl rfl) ?_
 refine s_go (m_load_obj U3 (hS := hS) (hv := by exact zi_get rfl (by omega))) ?_
 try simp only [nY, gY]
 rw [show x.getD 0 0 = opK x from rfl]
 refine g_on (yi (t := 23) rfl rfl) ?_
 refine s_go s_eql ?_
 try simp only [nY]
 refine s_go s_pick_f ?_
 try simp only [nY]
 refine s_go s_move ?_
 try simp only [nY]
 refine s_part 28 rfl (fun hp17 => ?_) (fun hp17 => ?_)
 ·
  try simp only [n3, n4]
  try simp only [dZ, ne_eq] at hp17
  (exfalso; omega)
 try simp only [n3, n4]
 try simp only [dZ, ne_eq] at hp17
 refine g_off (yi (t := 28) rfl rfl) ?_
 try simp only [nY]
 refine g_off (yi (t := 28) rfl rfl) ?_
 try simp only [nY]
 refine g_off (yi (t := 28) rfl rfl) ?_
 try simp only [nY]
 refine g_off (yi (t := 28) rfl rfl) ?_
 try simp only [nY]
 refine g_un (yn (t := 32) rfl rfl) ?_
 try simp only [nY]
 refine g_un (yn (t := 32) rfl rfl) ?_
 try simp only [nY]
 refine g_un (yn (t := 32) rfl rfl) ?_
 try simp only [nY]
 refine g_off (yi (t := 28) rfl rfl) ?_
 try simp only [nY]
 refine s_go s_pick_f ?_
 try simp only [nY]
 refine x_nil (hK34 _ _ ?_)
 refine x_cond_f (h := ?_)
 refine x_skip ?_
 refine hK33 _ _ ?_
 refine x_seq fun K51 hK51 => ?_
 refine x_seq fun K52 hK52 => x_region ?_
 refine s_go (m_fieldAddr U27 (hi := ti3)) ?_
 try simp only [nY, fY, gY]
 refine s_go (m_load_obj U3 (hS := hS) (hv := by exact zi_get rfl (by omega))) ?_
 try simp only [nY, gY]
 rw [show x.getD 0 0 = opK x from rfl]
 refine s_go s_eql ?_
 try simp only [nY]
 refine s_go s_move ?_
 try simp only [nY]
 refine s_part 41 rfl (fun hp21 => ?_) (fun hp21 => ?_)
 ·
  try simp only [n3, n4]
  try simp only [dZ, ne_eq] at hp21
  refine g_on (yi (t := 41) rfl rfl) ?_
  refine s_go (m_fieldAddr U27 (hi := ti25)) ?_
  try simp only [nY, fY, gY]
  refine g_on (yi (t := 41) rfl rfl) ?_
  refine s_go (m_loada_obj U25 (hi := ti25) (hS := hS) (hfit := by (rw [zi_size (by omega)]; decide))) ?_
  try simp only [nY, gY]
  rw [op_text hxl]
  refine g_on (yi (t := 41) rfl rfl) ?_
  refine s_go (s_build_arr (cells := #[.int .u8 0, .int .u8 0, .int .u8 0, .int .u8 0, .int .u8 0, .int .u8 0, .int .u8 0, .int .u8 0]) U25 ti25 ti5 (hc := by simp only [List.map_toArray, List.map_cons, List.map_nil, nY, List.toList_toArray]; (repeat (refine fill_cons rfl rfl (Nat.le_of_ble_eq_true rfl) ?_)); rfl)) ?_
  try simp only [nY]
  rw [show (#[.int .u8 0, .int .u8 0, .int .u8 0, .int .u8 0, .int .u8 0, .int .u8 0, .int .u8 0, .int .u8 0] : Array Value) = ic .u8 nm0 from rfl]
  refine g_on (yi (t := 41) rfl rfl) ?_
  refine s_go (s_neq_agg eqv25 (hg := eg25) (hX := zi_ic (by assumption)) (hY := zi_ic (by assumption)) (h1 := by assumption) (h2 := by assumption)) ?_
  try simp only [nY]
  refine s_go s_pick_t ?_
  try simp only [nY]
  refine s_go s_move ?_
  try simp only [nY]
  refine s_part 47 rfl (fun hp22 => ?_) (fun hp22 => ?_)
  ·
   try simp only [n3, n4]
   try simp only [dZ, ne_eq] at hp22
   have hTn : ¬ opT x = nm0 := by simpa using hp22
   refine g_on (yi (t := 47) rfl rfl) ?_
   refine s_go (m_fieldAddr U27 (hi := ti25)) ?_
   try simp only [nY, fY, gY]
   refine g_on (yi (t := 47) rfl rfl) ?_
   refine s_go (m_loada_obj U25 (hi := ti25) (hS := hS) (hfit := by (rw [zi_size (by omega)]; decide))) ?_
   try simp only [nY, gY]
   rw [op_text hxl]
   refine g_on (yi (t := 47) rfl rfl) ?_
   refine s_call en41 ?_
   try simp only [nY, mY]
   refine CallR.mono (c_ref06Right (opT x) htl hbt _) ?_
   rintro _ w8 ⟨rfl, hE8⟩
   replace hS := hS.ext hE8
   try simp only [nY]
   refine g_on (yi (t := 47) rfl rfl) ?_
   refine s_go s_not ?_
   try simp only [nY]
   refine s_go s_pick_t ?_
   try simp only [nY]
   refine x_nil (hK52 _ _ ?_)
   refine x_cond (ht := fun hc30 => ?_) (hf := fun hc30 => ?_)
   ·
    try simp only [dY] at hc30
    try have hRb : nright (kitem x) = false := by simpa using hc30
    try have hTb : nright (opT x) = false := by simpa using hc30
    refine x_seq fun K53 hK53 => x_region ?_
    refine s_go s_assign ?_
    try simp only [nY]
    refine x_nil (hK53 _ _ ?_)
    refine x_ret (r_tmp rfl ?_)
    exact ⟨congrArg (Value.int .i64) (opE_a (by omega) (by exact .inr (.inr ⟨by omega, hTn, hTb⟩))).symm, hS.ext_of⟩
   try simp only [dY] at hc30
   try have hRa : nright (kitem x) = true := by simpa using hc30
   try have hTa : nright (opT x) = true := by simpa using hc30
   refine x_skip ?_
   refine hK51 _ _ ?_
   refine x_seq fun K54 hK54 => x_region ?_
   refine s_go s_assign ?_
   try simp only [nY]
   refine x_nil (hK54 _ _ ?_)
   refine x_ret (r_tmp rfl ?_)
   exact ⟨congrArg (Value.int .i64) (opE_0 (by omega) (fun q => by (exfalso; omega)) (by omega) (fun q => by exact .inr hTa)).symm, hS.ext_of⟩
  try simp only [n3, n4]
  try simp only [dZ, ne_eq] at hp22
  have hT0 : opT x = nm0 := by simpa using hp22
  refine g_off (yi (t := 47) rfl rfl) ?_
  try simp only [nY]
  refine g_off (yi (t := 47) rfl rfl) ?_
  try simp only [nY]
  refine g_off (yi (t := 47) rfl rfl) ?_
  try simp only [nY]
  refine g_off (yi (t := 47) rfl rfl) ?_
  try simp only [nY]
  refine s_go s_pick_f ?_
  try simp only [nY]
  refine x_nil (hK52 _ _ ?_)
  refine x_cond_f (h := ?_)
  try have hRa : nright (kitem x) = true := by simpa using @c
  try have hTa : nright (opT x) = true := by simpa using @c
  refine x_skip ?_
  refine hK51 _ _ ?_
  refine x_seq fun K55 hK55 => x_region ?_
  refine s_go s_assign ?_
  try simp only [nY]
  refine x_nil (hK55 _ _ ?_)
  refine x_ret (r_tmp rfl ?_)
  exact ⟨congrArg (Value.int .i64) (opE_0 (by omega) (fun q => by (exfalso; omega)) (by omega) (fun q => by exact .inl hT0)).symm, hS.ext_of⟩
 try simp only [n3, n4]
 try simp only [dZ, ne_eq] at hp21
 refine g_off (yi (t := 41) rfl rfl) ?_
 try simp only [nY]
 refine g_off (yi (t := 41) rfl rfl) ?_
 try simp only [nY]
 refine g_off (yi (t := 41) rfl rfl) ?_
 try simp only [nY]
 refine g_off (yi (t := 41) rfl rfl) ?_
 try simp only [nY]
 refine s_go s_pick_f ?_
 try simp only [nY]
 refine s_go s_move ?_
 try simp only [nY]
 refine g_off (yi (t := 47) rfl rfl) ?_
 try simp only [nY]
 refine g_off (yi (t := 47) rfl rfl) ?_
 try simp only [nY]
 refine g_off (yi (t := 47) rfl rfl) ?_
 try simp only [nY]
 refine g_off (yi (t := 47) rfl rfl) ?_
 try simp only [nY]
 refine s_go s_pick_f ?_
 try simp only [nY]
 refine x_nil (hK52 _ _ ?_)
 refine x_cond_f (h := ?_)
 try have hRa : nright (kitem x) = true := by simpa using @c
 try have hTa : nright (opT x) = true := by simpa using @c
 refine x_skip ?_
 refine hK51 _ _ ?_
 refine x_seq fun K56 hK56 => x_region ?_
 refine s_go s_assign ?_
 try simp only [nY]
 refine x_nil (hK56 _ _ ?_)
 refine x_ret (r_tmp rfl ?_)
 exact ⟨congrArg (Value.int .i64) (opE_0 (by omega) (fun q => by (exfalso; omega)) (by omega) (fun q => by (exfalso; omega))).symm, hS.ext_of⟩
end Go.Proofs.YtpekghaodmeemaaGreat
set_option linter.unusedSimpArgs false
set_option linter.unusedVariables false
set_option maxHeartbeats 2000000
set_option maxRecDepth 100000
namespace Go.Proofs.YtpekghaodmeemaaGreat
open Go.RowKit

section
variable {l : List (List Int)} {x : List Int}
theorem amt_a (h : ¬ opE x = 0) : amtN l x = 0 := by rw [amtN, if_pos h]
theorem amt_1 (h : opE x = 0) (hk : opK x = 1) : amtN l x = opN x := by rw [amtN, if_neg (fun q => q h), if_pos hk]
theorem amt_2 (h : opE x = 0) (hk : opK x = 2) (hq : qtyB l (kn x 1) (kitem x) = true) : amtN l x = -(qtyN l (kn x 1) (kitem x)) := by rw [amtN, if_neg (fun q => q h), if_neg (by omega), if_pos ⟨hq, hk⟩]
theorem amt_3 (h : opE x = 0) (hk : opK x = 3) (hq : qtyB l (kn x 1) (kitem x) = true) : amtN l x = opN x - totL (normP l) (kn x 1) (kitem x) := by rw [amtN, if_neg (fun q => q h), if_neg (by omega), if_neg (fun q => by omega), if_pos ⟨hq, hk⟩]
theorem amt_n (h : opE x = 0) (hk : ¬ opK x = 1) (h2 : qtyB l (kn x 1) (kitem x) = false ∨ (¬ opK x = 2 ∧ ¬ opK x = 3)) : amtN l x = 0 := by
  rw [amtN, if_neg (fun q => q h), if_neg hk, if_neg, if_neg]
  · rintro ⟨q1, q2⟩
    rcases h2 with h2 | h2
    · rw [h2] at q1; cases q1
    · exact h2.2 q2
  · rintro ⟨q1, q2⟩
    rcases h2 with h2 | h2
    · rw [h2] at q1; cases q1
    · exact h2.1 q2
end

theorem c_shopAmount (w0 : World) (A : Option Addr) (c : Nat) (l : List (List Int)) (hr : Rd w0 A 21 l.length (arows l)) (hv : AOks l) (hn : l.length ≤ 1000000000) (x : List Int) (hx : OpOk x)  :
    CallR Tryz.prog 18 #[.slice A l.length c, .agg (OA x)] w0 fun v w' => v = .int .i64 (amtN l x) ∧ Ext w0 w' := by
 have hS := St.rd1 (S := NoB) hr
 have hxl := hx.len
 have hil := op_il hxl
 have htl := op_tl hxl
 have hk1 := hx.k1
 have hk2 := hx.k2
 have hm1 := hx.m1
 have hm2 := hx.m2
 have hbi := hx.item
 have hbt := hx.text
 have hcx := hx.b1
 have hqb := qty_b hv hn (kn x 1) (kitem x)
 have htb := tot_b hv hn (kn x 1) (kitem x)
 refine c_enter (l := [.slice A l.length c, .agg (OA x), undef, undef, undef, undef, undef, undef, undef, undef, undef, undef, undef, undef, undef, undef, undef, undef, undef, undef, undef, undef, undef, undef, undef, undef, undef, undef, undef, undef, undef, undef, undef, undef, undef, undef, undef, undef, undef, undef, undef, undef, undef, undef, undef, undef, undef, undef, undef, undef]) Tryz.func18 rfl (by simp only [Tryz.ntmps18, List.size_toArray, List.length_cons, List.length_nil, Nat.reduceAdd, Nat.reduceSub, Array.replicate_succ, Array.replicate_zero, List.push_toArray, List.append_toArray, List.nil_append, List.cons_append]) ?_
 refine x_seq fun K1 hK1 => x_region ?_
 refine m_box hS (fun w1 g1 hS => ?_)
 try simp only [nY, aY] at hS ⊢
 refine s_go s_assign ?_
 try simp only [nY]
 refine x_nil (hK1 _ _ ?_)
 refine x_seq fun K2 hK2 => ?_
 refine x_seq fun K3 hK3 => x_region ?_
 refine s_go (m_load_row U27 (hi := ti27) (hS := hS) (hfit := by (rw [zi_size (by omega)]; rfl))) ?_
 try simp only [nY, gY]
 skip
 refine s_call en16 ?_
 try simp only [nY, mY]
 refine CallR.mono (c_shopRight _ (by assumption) _) ?_
 rintro _ w2 ⟨rfl, hE2⟩
 replace hS := hS.ext hE2
 try simp only [nY]
 refine s_go s_neq ?_
 try simp only [nY]
 refine x_nil (hK3 _ _ ?_)
 refine x_cond (ht := fun hc1 => ?_) (hf := fun hc1 => ?_)
 ·
  try simp only [dY] at hc1
  have hE : ¬ opE x = 0 := hc1
  refine x_seq fun K4 hK4 => x_region ?_
  refine s_go s_assign ?_
  try simp only [nY]
  refine x_nil (hK4 _ _ ?_)
  refine x_ret (r_tmp rfl ?_)
  exact ⟨congrArg (Value.int .i64) (amt_a hE).symm, hS.ext_of⟩
 try simp only [dY] at hc1
 have hE : opE x = 0 := by omega
 obtain ⟨hK, hOn, hON, hOt⟩ := opE_ok hE
 refine x_skip ?_
 refine hK2 _ _ ?_
 refine x_seq fun K5 hK5 => x_region ?_
 refine s_go s_move ?_
 try simp only [nY]
 refine s_go (m_fieldAddr U27 (hi := ti23)) ?_
 try simp only [nY, fY, gY]
 refine s_go (m_load_obj U23 (hS := hS) (hv := by exact zi_get rfl (by omega))) ?_
 try simp only [nY, gY]
 rw [hx.e1]
 refine s_go (m_fieldAddr U27 (hi := ti25)) ?_
 try simp only [nY, fY, gY]
 refine s_go (m_loada_obj U25 (hi := ti25) (hS := hS) (hfit := by (rw [zi_size (by omega)]; decide))) ?_
 try simp only [nY, gY]
 rw [op_item hxl]
 refine s_call en42 ?_
 try simp only [nY, mY]
 refine CallR.mono (c_cartQuantity _ A c l (hS.hasA) hv hn _ hcx _ hil) ?_
 rintro _ w3 ⟨rfl, hE3⟩
 replace hS := hS.ext hE3
 try simp only [nY]
 refine s_go s_move ?_
 try simp only [nY]
 refine s_go (s_extract (hv := rfl)) ?_
 try simp only [gY]
 try simp only [nY]
 refine s_go (s_extract (hv := rfl)) ?_
 try simp only [gY]
 try simp only [nY]
 refine s_go s_assign ?_
 try simp only [nY]
 refine s_go s_assign ?_
 try simp only [nY]
 refine x_nil (hK5 _ _ ?_)
 refine x_seq fun K6 hK6 => ?_
 refine x_block ?_
 refine x_seq fun K7 hK7 => x_region ?_
 refine s_go (m_fieldAddr U27 (hi := ti3)) ?_
 try simp only [nY, fY, gY]
 refine s_go (m_load_obj U3 (hS := hS) (hv := by exact zi_get rfl (by omega))) ?_
 try simp only [nY, gY]
 rw [show x.getD 0 0 = opK x from rfl]
 refine s_go s_eql ?_
 try simp only [nY]
 refine s_go s_assign ?_
 try simp only [nY]
 refine x_nil (hK7 _ _ ?_)
 refine x_cond (ht := fun hc2 => ?_) (hf := fun hc2 => ?_)
 ·
  try simp only [dY] at hc2
  refine x_seq fun K8 hK8 => x_region ?_
  refine s_go (m_fieldAddr U27 (hi := ti3)) ?_
  try simp only [nY, fY, gY]
  refine s_go (m_load_obj U3 (hS := hS) (hv := by exact zi_get rfl (by omega))) ?_
  try simp only [nY, gY]
  rw [show x.getD 10 0 = opN x from rfl]
  refine s_go s_assign ?_
  try simp only [nY]
  refine x_nil (hK8 _ _ ?_)
  refine x_ret (r_tmp rfl ?_)
  exact ⟨congrArg (Value.int .i64) (amt_1 hE (by omega)).symm, hS.ext_of⟩
 try simp only [dY] at hc2
 refine x_seq fun K9 hK9 => x_region ?_
 refine s_go s_move ?_
 try simp only [nY]
 refine s_go s_move ?_
 try simp only [nY]
 refine s_part 27 rfl (fun hp1 => ?_) (fun hp1 => ?_)
 ·
  try simp only [n3, n4]
  try simp only [dZ, ne_eq] at hp1
  have hQ : qtyB l (kn x 1) (kitem x) = true := hp1
  refine g_on (yi (t := 27) rfl rfl) ?_
  refine s_go (m_fieldAddr U27 (hi := ti3)) ?_
  try simp only [nY, fY, gY]
  refine g_on (yi (t := 27) rfl rfl) ?_
  refine s_go (m_load_obj U3 (hS := hS) (hv := by exact zi_get rfl (by omega))) ?_
  try simp only [nY, gY]
  rw [show x.getD 0 0 = opK x from rfl]
  refine g_on (yi (t := 27) rfl rfl) ?_
  refine s_go s_eql ?_
  try simp only [nY]
  refine s_go s_pick_t ?_
  try simp only [nY]
  refine s_go s_assign ?_
  try simp only [nY]
  refine x_nil (hK9 _ _ ?_)
  refine x_cond (ht := fun hc3 => ?_) (hf := fun hc3 => ?_)
  ·
   try simp only [dY] at hc3
   refine x_seq fun K10 hK10 => x_region ?_
   refine s_go s_move ?_
   try simp only [nY]
   refine s_go (s_neg (hc := by exact wr_i64 (by omega) (by omega))) ?_
   try simp only [nY]
   refine s_go s_assign ?_
   try simp only [nY]
   refine x_nil (hK10 _ _ ?_)
   refine x_ret (r_tmp rfl ?_)
   exact ⟨congrArg (Value.int .i64) (amt_2 hE (by omega) hQ).symm, hS.ext_of⟩
  try simp only [dY] at hc3
  refine x_seq fun K11 hK11 => x_region ?_
  refine s_go s_move ?_
  try simp only [nY]
  refine s_go s_move ?_
  try simp only [nY]
  refine s_part 36 rfl (fun hp2 => ?_) (fun hp2 => ?_)
  ·
   try simp only [n3, n4]
   try simp only [dZ, ne_eq] at hp2
   have hQ : qtyB l (kn x 1) (kitem x) = true := hp2
   refine g_on (yi (t := 36) rfl rfl) ?_
   refine s_go (m_fieldAddr U27 (hi := ti3)) ?_
   try simp only [nY, fY, gY]
   refine g_on (yi (t := 36) rfl rfl) ?_
   refine s_go (m_load_obj U3 (hS := hS) (hv := by exact zi_get rfl (by omega))) ?_
   try simp only [nY, gY]
   rw [show x.getD 0 0 = opK x from rfl]
   refine g_on (yi (t := 36) rfl rfl) ?_
   refine s_go s_eql ?_
   try simp only [nY]
   refine s_go s_pick_t ?_
   try simp only [nY]
   refine s_go s_assign ?_
   try simp only [nY]
   refine x_nil (hK11 _ _ ?_)
   refine x_cond (ht := fun hc4 => ?_) (hf := fun hc4 => ?_)
   ·
    try simp only [dY] at hc4
    refine x_seq fun K12 hK12 => ?_
    refine x_quiet (by kernel_rfl) (by kernel_rfl) hS ?_
    refine q_go (fun w hS => m_fieldAddr U27 (hi := ti3)) ?_
    try simp only [nY, fY, gY]
    refine q_go (fun w hS => m_load_obj U3 (hS := hS) (hv := by exact zi_get rfl (by omega))) ?_
    try simp only [nY, gY]
    rw [show x.getD 10 0 = opN x from rfl]
    refine q_go (fun w hS => s_move) ?_
    try simp only [nY]
    refine q_go (fun w hS => m_fieldAddr U27 (hi := ti23)) ?_
    try simp only [nY, fY, gY]
    refine q_go (fun w hS => m_load_obj U23 (hS := hS) (hv := by exact zi_get rfl (by omega))) ?_
    try simp only [nY, gY]
    rw [hx.e1]
    refine q_go (fun w hS => m_fieldAddr U27 (hi := ti25)) ?_
    try simp only [nY, fY, gY]
    refine q_go (fun w hS => m_loada_obj U25 (hi := ti25) (hS := hS) (hfit := by (rw [zi_size (by omega)]; decide))) ?_
    try simp only [nY, gY]
    rw [op_item hxl]
    apply q_call en43
    case H =>
      intro w hS
      try simp only [nY, mY]
      refine CallR.mono (c_countTotal _ A c l (hS.hasA) hv hn _ hcx _ hil) ?_
      rintro _ w1 ⟨rfl, hE⟩; exact ⟨rfl, hS.ext hE⟩
    try simp only [nY]
    refine q_go (fun w hS => s_sub (hc := by exact wr_i64 (by omega) (by omega))) ?_
    try simp only [nY]
    refine q_go (fun w hS => s_assign) ?_
    try simp only [nY]
    clear hS
    refine q_nil fun w4 hS => ?_
    refine hK12 _ _ ?_
    refine x_ret (r_tmp rfl ?_)
    exact ⟨congrArg (Value.int .i64) (amt_3 hE (by omega) hQ).symm, hS.ext_of⟩
   try simp only [dY] at hc4
   refine x_skip ?_
   refine hK6 _ _ ?_
   refine x_seq fun K13 hK13 => x_region ?_
   refine s_go s_assign ?_
   try simp only [nY]
   refine x_nil (hK13 _ _ ?_)
   refine x_ret (r_tmp rfl ?_)
   exact ⟨congrArg (Value.int .i64) (amt_n hE (by omega) (by exact .inr ⟨by omega, by omega⟩)).symm, hS.ext_of⟩
  try simp only [n3, n4]
  try simp only [dZ, ne_eq] at hp2
  have hQ : qtyB l (kn x 1) (kitem x) = false := hp2
  refine g_off (yi (t := 36) rfl rfl) ?_
  try simp only [nY]
  refine g_off (yi (t := 36) rfl rfl) ?_
  try simp only [nY]
  refine g_off (yi (t := 36) rfl rfl) ?_
  try simp only [nY]
  refine s_go s_pick_f ?_
  try simp only [nY]
  refine s_go s_assign ?_
  try simp only [nY]
  refine x_nil (hK11 _ _ ?_)
  refine x_cond_f (h := ?_)
  refine x_skip ?_
  refine hK6 _ _ ?_
  refine x_seq fun K14 hK14 => x_region ?_
  refine s_go s_assign ?_
  try simp only [nY]
  refine x_nil (hK14 _ _ ?_)
  refine x_ret (r_tmp rfl ?_)
  exact ⟨congrArg (Value.int .i64) (amt_n hE (by omega) (by exact .inl hQ)).symm, hS.ext_of⟩
 try simp only [n3, n4]
 try simp only [dZ, ne_eq] at hp1
 have hQ : qtyB l (kn x 1) (kitem x) = false := hp1
 refine g_off (yi (t := 27) rfl rfl) ?_
 try simp only [nY]
 refine g_off (yi (t := 27) rfl rfl) ?_
 try simp only [nY]
 refine g_off (yi (t := 27) rfl rfl) ?_
 try simp only [nY]
 refine s_go s_pick_f ?_
 try simp only [nY]
 refine s_go s_assign ?_
 try simp only [nY]
 refine x_nil (hK9 _ _ ?_)
 refine x_cond_f (h := ?_)
 refine x_seq fun K15 hK15 => x_region ?_
 refine s_go s_move ?_
 try simp only [nY]
 refine s_go s_move ?_
 try simp only [nY]
 refine s_part 36 rfl (fun hp3 => ?_) (fun hp3 => ?_)
 ·
  try simp only [n3, n4]
  try simp only [dZ, ne_eq] at hp3
  have hQ : qtyB l (kn x 1) (kitem x) = true := hp3
  refine g_on (yi (t := 36) rfl rfl) ?_
  refine s_go (m_fieldAddr U27 (hi := ti3)) ?_
  try simp only [nY, fY, gY]
  refine g_on (yi (t := 36) rfl rfl) ?_
  refine s_go (m_load_obj U3 (hS := hS) (hv := by exact zi_get rfl (by omega))) ?_
  try simp only [nY, gY]
  rw [show x.getD 0 0 = opK x from rfl]
  refine g_on (yi (t := 36) rfl rfl) ?_
  refine s_go s_eql ?_
  try simp only [nY]
  refine s_go s_pick_t ?_
  try simp only [nY]
  refine s_go s_assign ?_
  try simp only [nY]
  refine x_nil (hK15 _ _ ?_)
  refine x_cond (ht := fun hc7 => ?_) (hf := fun hc7 => ?_)
  ·
   try simp only [dY] at hc7
   refine x_seq fun K16 hK16 => ?_
   refine x_quiet (by kernel_rfl) (by kernel_rfl) hS ?_
   refine q_go (fun w hS => m_fieldAddr U27 (hi := ti3)) ?_
   try simp only [nY, fY, gY]
   refine q_go (fun w hS => m_load_obj U3 (hS := hS) (hv := by exact zi_get rfl (by omega))) ?_
   try simp only [nY, gY]
   rw [show x.getD 10 0 = opN x from rfl]
   refine q_go (fun w hS => s_move) ?_
   try simp only [nY]
   refine q_go (fun w hS => m_fieldAddr U27 (hi := ti23)) ?_
   try simp only [nY, fY, gY]
   refine q_go (fun w hS => m_load_obj U23 (hS := hS) (hv := by exact zi_get rfl (by omega))) ?_
   try simp only [nY, gY]
   rw [hx.e1]
   refine q_go (fun w hS => m_fieldAddr U27 (hi := ti25)) ?_
   try simp only [nY, fY, gY]
   refine q_go (fun w hS => m_loada_obj U25 (hi := ti25) (hS := hS) (hfit := by (rw [zi_size (by omega)]; decide))) ?_
   try simp only [nY, gY]
   rw [op_item hxl]
   apply q_call en43
   case H =>
     intro w hS
     try simp only [nY, mY]
     refine CallR.mono (c_countTotal _ A c l (hS.hasA) hv hn _ hcx _ hil) ?_
     rintro _ w1 ⟨rfl, hE⟩; exact ⟨rfl, hS.ext hE⟩
   try simp only [nY]
   refine q_go (fun w hS => s_sub (hc := by exact wr_i64 (by omega) (by omega))) ?_
   try simp only [nY]
   refine q_go (fun w hS => s_assign) ?_
   try simp only [nY]
   clear hS
   refine q_nil fun w5 hS => ?_
   refine hK16 _ _ ?_
   refine x_ret (r_tmp rfl ?_)
   exact ⟨congrArg (Value.int .i64) (amt_3 hE (by omega) hQ).symm, hS.ext_of⟩
  try simp only [dY] at hc7
  refine x_skip ?_
  refine hK6 _ _ ?_
  refine x_seq fun K17 hK17 => x_region ?_
  refine s_go s_assign ?_
  try simp only [nY]
  refine x_nil (hK17 _ _ ?_)
  refine x_ret (r_tmp rfl ?_)
  (exfalso; simp_all; done)
 try simp only [n3, n4]
 try simp only [dZ, ne_eq] at hp3
 have hQ : qtyB l (kn x 1) (kitem x) = false := hp3
 refine g_off (yi (t := 36) rfl rfl) ?_
 try simp only [nY]
 refine g_off (yi (t := 36) rfl rfl) ?_
 try simp only [nY]
 refine g_off (yi (t := 36) rfl rfl) ?_
 try simp only [nY]
 refine s_go s_pick_f ?_
 try simp only [nY]
 refine s_go s_assign ?_
 try simp only [nY]
 refine x_nil (hK15 _ _ ?_)
 refine x_cond_f (h := ?_)
 refine x_skip ?_
 refine hK6 _ _ ?_
 refine x_seq fun K18 hK18 => x_region ?_
 refine s_go s_assign ?_
 try simp only [nY]
 refine x_nil (hK18 _ _ ?_)
 refine x_ret (r_tmp rfl ?_)
 exact ⟨congrArg (Value.int .i64) (amt_n hE (by omega) (by exact .inl hQ)).symm, hS.ext_of⟩
theorem c_ref18Amount (w0 : World) (A : Option Addr) (c : Nat) (l : List (List Int)) (hr : Rd w0 A 21 l.length (arows l)) (hv : AOks l) (hn : l.length ≤ 1000000000) (x : List Int) (hx : OpOk x)  :
    CallR Tryz.prog 19 #[.slice A l.length c, .agg (OA x)] w0 fun v w' => v = .int .i64 (amtN l x) ∧ Ext w0 w' := by
 have hS := St.rd1 (S := NoB) hr
 have hxl := hx.len
 have hil := op_il hxl
 have htl := op_tl hxl
 have hk1 := hx.k1
 have hk2 := hx.k2
 have hm1 := hx.m1
 have hm2 := hx.m2
 have hbi := hx.item
 have hbt := hx.text
 have hcx := hx.b1
 have hqb := qty_b hv hn (kn x 1) (kitem x)
 have htb := tot_b hv hn (kn x 1) (kitem x)
 refine c_enter (l := [.slice A l.length c, .agg (OA x), undef, undef, undef, undef, undef, undef, undef, undef, undef, undef, undef, undef, undef, undef, undef, undef, undef, undef, undef, undef, undef, undef, undef, undef, undef, undef, undef, undef, undef, undef, undef, undef, undef, undef, undef, undef, undef, undef, undef, undef, undef, undef, undef, undef, undef, undef, undef, undef]) Tryz.func19 rfl (by simp only [Tryz.ntmps19, List.size_toArray, List.length_cons, List.length_nil, Nat.reduceAdd, Nat.reduceSub, Array.replicate_succ, Array.replicate_zero, List.push_toArray, List.append_toArray, List.nil_append, List.cons_append]) ?_
 refine x_seq fun K1 hK1 => x_region ?_
 refine m_box hS (fun w1 g1 hS => ?_)
 try simp only [nY, aY] at hS ⊢
 refine s_go s_assign ?_
 try simp only [nY]
 refine x_nil (hK1 _ _ ?_)
 refine x_seq fun K2 hK2 => ?_
 refine x_seq fun K3 hK3 => x_region ?_
 refine s_go (m_load_row U27 (hi := ti27) (hS := hS) (hfit := by (rw [zi_size (by omega)]; rfl))) ?_
 try simp only [nY, gY]
 skip
 refine s_call en17 ?_
 try simp only [nY, mY]
 refine CallR.mono (c_ref18Right _ (by assumption) _) ?_
 rintro _ w2 ⟨rfl, hE2⟩
 replace hS := hS.ext hE2
 try simp only [nY]
 refine s_go s_neq ?_
 try simp only [nY]
 refine x_nil (hK3 _ _ ?_)
 refine x_cond (ht := fun hc1 => ?_) (hf := fun hc1 => ?_)
 ·
  try simp only [dY] at hc1
  have hE : ¬ opE x = 0 := hc1
  refine x_seq fun K4 hK4 => x_region ?_
  refine s_go s_assign ?_
  try simp only [nY]
  refine x_nil (hK4 _ _ ?_)
  refine x_ret (r_tmp rfl ?_)
  exact ⟨congrArg (Value.int .i64) (amt_a hE).symm, hS.ext_of⟩
 try simp only [dY] at hc1
 have hE : opE x = 0 := by omega
 obtain ⟨hK, hOn, hON, hOt⟩ := opE_ok hE
 refine x_skip ?_
 refine hK2 _ _ ?_
 refine x_seq fun K5 hK5 => x_region ?_
 refine s_go s_move ?_
 try simp only [nY]
 refine s_go (m_fieldAddr U27 (hi := ti23)) ?_
 try simp only [nY, fY, gY]
 refine s_go (m_load_obj U23 (hS := hS) (hv := by exact zi_get rfl (by omega))) ?_
 try simp only [nY, gY]
 rw [hx.e1]
 refine s_go (m_fieldAddr U27 (hi := ti25)) ?_
 try simp only [nY, fY, gY]
 refine s_go (m_loada_obj U25 (hi := ti25) (hS := hS) (hfit := by (rw [zi_size (by omega)]; decide))) ?_
 try simp only [nY, gY]
 rw [op_item hxl]
 refine s_call en22 ?_
 try simp only [nY, mY]
 refine CallR.mono (c_ref17Quantity _ A c l (hS.hasA) hv hn _ hcx _ hil hbi) ?_
 rintro _ w3 ⟨rfl, hE3⟩
 replace hS := hS.ext hE3
 try simp only [nY]
 refine s_go s_move ?_
 try simp only [nY]
 refine s_go (s_extract (hv := rfl)) ?_
 try simp only [gY]
 try simp only [nY]
 refine s_go (s_extract (hv := rfl)) ?_
 try simp only [gY]
 try simp only [nY]
 refine s_go s_assign ?_
 try simp only [nY]
 refine s_go s_assign ?_
 try simp only [nY]
 refine x_nil (hK5 _ _ ?_)
 refine x_seq fun K6 hK6 => ?_
 refine x_block ?_
 refine x_seq fun K7 hK7 => x_region ?_
 refine s_go (m_fieldAddr U27 (hi := ti3)) ?_
 try simp only [nY, fY, gY]
 refine s_go (m_load_obj U3 (hS := hS) (hv := by exact zi_get rfl (by omega))) ?_
 try simp only [nY, gY]
 rw [show x.getD 0 0 = opK x from rfl]
 refine s_go s_eql ?_
 try simp only [nY]
 refine s_go s_assign ?_
 try simp only [nY]
 refine x_nil (hK7 _ _ ?_)
 refine x_cond (ht := fun hc2 => ?_) (hf := fun hc2 => ?_)
 ·
  try simp only [dY] at hc2
  refine x_seq fun K8 hK8 => x_region ?_
  refine s_go (m_fieldAddr U27 (hi := ti3)) ?_
  try simp only [nY, fY, gY]
  refine s_go (m_load_obj U3 (hS := hS) (hv := by exact zi_get rfl (by omega))) ?_
  try simp only [nY, gY]
  rw [show x.getD 10 0 = opN x from rfl]
  refine s_go s_assign ?_
  try simp only [nY]
  refine x_nil (hK8 _ _ ?_)
  refine x_ret (r_tmp rfl ?_)
  exact ⟨congrArg (Value.int .i64) (amt_1 hE (by omega)).symm, hS.ext_of⟩
 try simp only [dY] at hc2
 refine x_seq fun K9 hK9 => x_region ?_
 refine s_go (m_fieldAddr U27 (hi := ti3)) ?_
 try simp only [nY, fY, gY]
 refine s_go (m_load_obj U3 (hS := hS) (hv := by exact zi_get rfl (by omega))) ?_
 try simp only [nY, gY]
 rw [show x.getD 0 0 = opK x from rfl]
 refine s_go s_eql ?_
 try simp only [nY]
 refine s_go s_move ?_
 try simp only [nY]
 refine s_part 29 rfl (fun hp1 => ?_) (fun hp1 => ?_)
 ·
  try simp only [n3, n4]
  try simp only [dZ, ne_eq] at hp1
  refine g_on (yi (t := 29) rfl rfl) ?_
  refine s_go s_move ?_
  try simp only [nY]
  refine s_go s_pick_t ?_
  try simp only [nY]
  refine s_go s_assign ?_
  try simp only [nY]
  refine x_nil (hK9 _ _ ?_)
  refine x_cond (ht := fun hc3 => ?_) (hf := fun hc3 => ?_)
  ·
   try simp only [dY] at hc3
   have hQ : qtyB l (kn x 1) (kitem x) = true := hc3
   refine x_seq fun K10 hK10 => x_region ?_
   refine s_go s_move ?_
   try simp only [nY]
   refine s_go (s_neg (hc := by exact wr_i64 (by omega) (by omega))) ?_
   try simp only [nY]
   refine s_go s_assign ?_
   try simp only [nY]
   refine x_nil (hK10 _ _ ?_)
   refine x_ret (r_tmp rfl ?_)
   exact ⟨congrArg (Value.int .i64) (amt_2 hE (by omega) hQ).symm, hS.ext_of⟩
  try simp only [dY] at hc3
  try have hQ : qtyB l (kn x 1) (kitem x) = false := by simpa using hc3
  refine x_seq fun K11 hK11 => x_region ?_
  refine s_go (m_fieldAddr U27 (hi := ti3)) ?_
  try simp only [nY, fY, gY]
  refine s_go (m_load_obj U3 (hS := hS) (hv := by exact zi_get rfl (by omega))) ?_
  try simp only [nY, gY]
  rw [show x.getD 0 0 = opK x from rfl]
  refine s_go s_eql ?_
  try simp only [nY]
  refine s_go s_move ?_
  try simp only [nY]
  refine s_part 38 rfl (fun hp2 => ?_) (fun hp2 => ?_)
  ·
   try simp only [n3, n4]
   try simp only [dZ, ne_eq] at hp2
   (exfalso; omega)
  try simp only [n3, n4]
  try simp only [dZ, ne_eq] at hp2
  refine g_off (yi (t := 38) rfl rfl) ?_
  try simp only [nY]
  refine s_go s_pick_f ?_
  try simp only [nY]
  refine s_go s_assign ?_
  try simp only [nY]
  refine x_nil (hK11 _ _ ?_)
  refine x_cond_f (h := ?_)
  try have hQ : qtyB l (kn x 1) (kitem x) = false := by simpa using @c
  refine x_skip ?_
  refine hK6 _ _ ?_
  refine x_seq fun K14 hK14 => x_region ?_
  refine s_go s_assign ?_
  try simp only [nY]
  refine x_nil (hK14 _ _ ?_)
  refine x_ret (r_tmp rfl ?_)
  exact ⟨congrArg (Value.int .i64) (amt_n hE (by omega) (by exact .inl hQ)).symm, hS.ext_of⟩
 try simp only [n3, n4]
 try simp only [dZ, ne_eq] at hp1
 refine g_off (yi (t := 29) rfl rfl) ?_
 try simp only [nY]
 refine s_go s_pick_f ?_
 try simp only [nY]
 refine s_go s_assign ?_
 try simp only [nY]
 refine x_nil (hK9 _ _ ?_)
 refine x_cond_f (h := ?_)
 try have hQ : qtyB l (kn x 1) (kitem x) = false := by simpa using @c
 refine x_seq fun K15 hK15 => x_region ?_
 refine s_go (m_fieldAddr U27 (hi := ti3)) ?_
 try simp only [nY, fY, gY]
 refine s_go (m_load_obj U3 (hS := hS) (hv := by exact zi_get rfl (by omega))) ?_
 try simp only [nY, gY]
 rw [show x.getD 0 0 = opK x from rfl]
 refine s_go s_eql ?_
 try simp only [nY]
 refine s_go s_move ?_
 try simp only [nY]
 refine s_part 38 rfl (fun hp3 => ?_) (fun hp3 => ?_)
 ·
  try simp only [n3, n4]
  try simp only [dZ, ne_eq] at hp3
  refine g_on (yi (t := 38) rfl rfl) ?_
  refine s_go s_move ?_
  try simp only [nY]
  refine s_go s_pick_t ?_
  try simp only [nY]
  refine s_go s_assign ?_
  try simp only [nY]
  refine x_nil (hK15 _ _ ?_)
  refine x_cond (ht := fun hc7 => ?_) (hf := fun hc7 => ?_)
  ·
   try simp only [dY] at hc7
   have hQ : qtyB l (kn x 1) (kitem x) = true := hc7
   refine x_seq fun K16 hK16 => ?_
   refine x_quiet (by kernel_rfl) (by kernel_rfl) hS ?_
   refine q_go (fun w hS => m_fieldAddr U27 (hi := ti3)) ?_
   try simp only [nY, fY, gY]
   refine q_go (fun w hS => m_load_obj U3 (hS := hS) (hv := by exact zi_get rfl (by omega))) ?_
   try simp only [nY, gY]
   rw [show x.getD 10 0 = opN x from rfl]
   refine q_go (fun w hS => s_move) ?_
   try simp only [nY]
   refine q_go (fun w hS => m_fieldAddr U27 (hi := ti23)) ?_
   try simp only [nY, fY, gY]
   refine q_go (fun w hS => m_load_obj U23 (hS := hS) (hv := by exact zi_get rfl (by omega))) ?_
   try simp only [nY, gY]
   rw [hx.e1]
   refine q_go (fun w hS => m_fieldAddr U27 (hi := ti25)) ?_
   try simp only [nY, fY, gY]
   refine q_go (fun w hS => m_loada_obj U25 (hi := ti25) (hS := hS) (hfit := by (rw [zi_size (by omega)]; decide))) ?_
   try simp only [nY, gY]
   rw [op_item hxl]
   apply q_call en20
   case H =>
     intro w hS
     try simp only [nY, mY]
     refine CallR.mono (c_ref15Total _ A c l (hS.hasA) hv hn _ hcx _ hil hbi) ?_
     rintro _ w1 ⟨rfl, hE⟩; exact ⟨rfl, hS.ext hE⟩
   try simp only [nY]
   refine q_go (fun w hS => s_sub (hc := by exact wr_i64 (by omega) (by omega))) ?_
   try simp only [nY]
   refine q_go (fun w hS => s_assign) ?_
   try simp only [nY]
   clear hS
   refine q_nil fun w5 hS => ?_
   refine hK16 _ _ ?_
   refine x_ret (r_tmp rfl ?_)
   exact ⟨congrArg (Value.int .i64) (amt_3 hE (by omega) hQ).symm, hS.ext_of⟩
  try simp only [dY] at hc7
  try have hQ : qtyB l (kn x 1) (kitem x) = false := by simpa using hc7
  refine x_skip ?_
  refine hK6 _ _ ?_
  refine x_seq fun K17 hK17 => x_region ?_
  refine s_go s_assign ?_
  try simp only [nY]
  refine x_nil (hK17 _ _ ?_)
  refine x_ret (r_tmp rfl ?_)
  exact ⟨congrArg (Value.int .i64) (amt_n hE (by omega) (by exact .inl hQ)).symm, hS.ext_of⟩
 try simp only [n3, n4]
 try simp only [dZ, ne_eq] at hp3
 refine g_off (yi (t := 38) rfl rfl) ?_
 try simp only [nY]
 refine s_go s_pick_f ?_
 try simp only [nY]
 refine s_go s_assign ?_
 try simp only [nY]
 refine x_nil (hK15 _ _ ?_)
 refine x_cond_f (h := ?_)
 try have hQ : qtyB l (kn x 1) (kitem x) = false := by simpa using @c
 refine x_skip ?_
 refine hK6 _ _ ?_
 refine x_seq fun K18 hK18 => x_region ?_
 refine s_go s_assign ?_
 try simp only [nY]
 refine x_nil (hK18 _ _ ?_)
 refine x_ret (r_tmp rfl ?_)
 exact ⟨congrArg (Value.int .i64) (amt_n hE (by omega) (by exact .inr ⟨by omega, by omega⟩)).symm, hS.ext_of⟩
end Go.Proofs.YtpekghaodmeemaaGreat
