/- Rules, plain words and walks that the claim leans on: Cw, Cwb, Tb, Vj, Tc. -/
import Derived.Test.YtpjpaipkkcengaaZVecCounts1
set_option linter.unusedSimpArgs false
set_option linter.unusedVariables false
set_option linter.unusedSimpArgs false
set_option linter.unusedVariables false
set_option maxHeartbeats 4000000
set_option maxRecDepth 100000
namespace Go.Proofs.Ytpjpaipkkcengaa
open Go.RowKit

abbrev vrows (l : List (List Int)) : List Value := rowsZ (List.replicate 16 IntKind.u32) l
theorem vrow_get {l : List (List Int)} {k : Nat} (hk : k < l.length) (hv : ∀ x ∈ l, x.length = 16) : (((vrows l).drop (k * 16)).take 16).toArray = ic .u32 (l.getD k []) := by
  have h := hv _ (getD_mem' (d := []) hk)
  have := rowsZ_get (ks := (List.replicate 16 IntKind.u32)) hk (by simpa using h)
  simp only [List.length_replicate] at this
  rw [this, zi_ic h]
theorem vrows_len (l : List (List Int)) : (vrows l).length = l.length * 16 := rowsZ_len _ _
theorem vrow_one {x : List Int} (h : x.length = 16) : (ic .u32 x).toList = vrows [x] := by
  show (ic .u32 x).toList = rowsZ (List.replicate 16 IntKind.u32) [x]
  rw [rowsZ_one, ← padL_ic h]
theorem c_vecCount (w0 : World) (A : Option Addr) (n c : Nat) (l : List (List Int)) (hr : Rd w0 A 16 n (vrows l)) (hl : l.length = n) (hv : ∀ x ∈ l, x.length = 16) (hn : n ≤ 1000000)  :
    CallR Try.prog 21 #[.slice A n c] w0 fun v w' => ∃ g, v = .map (some g) ∧ St NoB w0 w' [.obj g (mObj kv27 (cntR l.reverse))] := by
 have hS := St.rd1 (S := NoB) hr
 refine c_enter (l := [.slice A n c, undef, undef, undef, undef, undef, undef, undef, undef, undef, undef, undef, undef, undef, undef, undef, undef, undef, undef, undef, undef]) Try.func21 rfl (by simp only [Try.ntmps21, List.size_toArray, List.length_cons, List.length_nil, Nat.reduceAdd, Nat.reduceSub, Array.replicate_succ, Array.replicate_zero, List.push_toArray, List.append_toArray, List.nil_append, List.cons_append]) ?_
 refine x_seq fun K1 hK1 => ?_
 refine x_region ?_
 refine s_go (s_assign) ?_
 try simp only [opv, n1, n2, n3, n4, Value.cells]
 refine x_nil ?_
 refine hK1 _ _ ?_
 refine x_seq fun K2 hK2 => ?_
 refine x_region ?_
 refine m_makeMap kv27 hS (fun w1 g1 hS => ?_)
 try simp only [opv, n1, n2, n3, n4, Value.cells, Array.toArray_toList] at hS ⊢
 refine s_go (s_assign) ?_
 try simp only [opv, n1, n2, n3, n4, Value.cells]
 refine x_nil ?_
 refine hK2 _ _ ?_
 refine x_seq fun K3 hK3 => ?_
 refine x_seq fun K4 hK4 => ?_
 refine x_region ?_
 refine s_go (s_move) ?_
 try simp only [opv, n1, n2, n3, n4, Value.cells]
 refine s_go (s_len_sl Try.underlying24) ?_
 try simp only [opv, n1, n2, n3, n4, Value.cells]
 refine s_go (s_move) ?_
 try simp only [opv, n1, n2, n3, n4, Value.cells]
 refine x_nil ?_
 refine hK4 _ _ ?_
 refine x_block ?_
 refine x_loop [5, 9, 10, 11, 12, 13, 14, 15, 16, 17, 18, 19] (fun m f w => ∃ k : Nat, k ≤ n ∧ m = n - k ∧ f 9 = .int .i64 (k : Int) ∧ St NoB w0 w [.obj g1 (mObj kv27 (cntR (l.take k).reverse)), .rd A 16 n (vrows l)]) (n) ?init1 (fun m1 f1 wl1 hI => ?_)
 case init1 =>
  try simp only [opv, n1, n2, n3, n4, Value.cells]
  exact ⟨0, by omega, rfl, rfl, hS⟩
 obtain ⟨k, hk, hm, h9, hS⟩ := hI
 simp only [clob, List.foldl, n3, n4, h9]
 have hvl := vrows_len l
 obtain ⟨x, hx⟩ : ∃ x, l.getD k [] = x := ⟨_, rfl⟩
 have hct := cnt_le (x := x) (l := l) (k := k)
 have hok := cnt_ok (n := 16) (l := (l.take k).reverse) (fun y hy => hv y (List.mem_of_mem_take (List.mem_reverse.1 hy)))
 refine x_seq fun K5 hK5 => ?_
 refine x_region ?_
 refine s_go (s_lss) ?_
 try simp only [opv, n1, n2, n3, n4, Value.cells]
 refine x_nil ?_
 refine hK5 _ _ ?_
 refine x_seq fun K6 hK6 => ?_
 refine x_cond (ht := fun hc1 => ?_) (hf := fun hc1 => ?_)
 ·
  try simp only [decide_eq_true_eq, decide_eq_false_iff_not, Bool.not_eq_true', Bool.not_eq_false', Int.not_lt, Int.not_le, ne_eq, Decidable.not_not, bne_iff_ne, beq_iff_eq, not_true_eq_false, not_false_eq_true] at hc1
  have hx16 : x.length = 16 := by rw [← hx]; exact hv _ (getD_mem' (by omega))
  have hst := cnt_step (l := l) (k := k) (by omega)
  rw [hx] at hst
  refine x_skip ?_
  refine hK6 _ _ ?_
  refine x_seq fun K7 hK7 => ?_
  refine x_block ?_
  refine x_seq fun K8 hK8 => ?_
  refine x_region ?_
  refine s_go (m_indexAddr_rd Try.underlying24 ti27 (hS := hS)) ?_
  try simp only [opv, n1, n2, n3, n4, Value.cells, Nat.mul_one, Nat.zero_add, Int.toNat_natCast, Int.reduceToNat]
  refine s_go (m_loada_rd Try.underlying27 (hi := ti27) (hS := hS) (hfit := by rw [vrows_len]; omega)) ?_
  try simp only [opv, n1, n2, n3, n4, Value.cells, List.getElem_toArray, List.getElem_cons_zero, List.getElem_cons_succ]
  rw [vrow_get (by omega) hv, hx]
  refine m_alloc ti27 hS (fun w2 g2 hS => ?_)
  try simp only [opv, n1, n2, n3, n4, Value.cells, Array.toArray_toList] at hS ⊢
  refine m_store_obj ti27 (hS := hS) (h := fun w3 hS => ?_)
  try simp only [opv, n1, n2, n3, n4, Value.cells, Array.toArray_toList] at hS ⊢
  refine x_nil ?_
  refine hK8 _ _ ?_
  refine x_mixed_f [4, 6] 0 [13, 14, 15, 16, 17, 18] (fun f w => St NoB w0 w [.obj g1 (mObj kv27 (cntR (l.take (k + 1)).reverse)), .rd A 16 n (vrows l)]) (by kernel_rfl) (by kernel_rfl) (by kernel_rfl) (by decide) hS (fun w4 hS => ?mixpre501) ?mixrest501
  case mixpre501 =>
   refine p_nil ?_
   simp only [List.length_cons, List.length_nil, Nat.reduceAdd, Nat.reduceSub]
   refine any_go (i := 0) (by rfl) (by decide +kernel) (by decide +kernel) (by unfold noLate; decide) (go_yields w_none (fun w hS => s_move)) ?_
   try simp only [opv, n1, n2, n3, n4, Value.cells]
   refine any_go (i := 1) (by rfl) (by decide +kernel) (by decide +kernel) (by unfold noLate; decide) (go_yields w_none (fun w hS => m_load_row Try.underlying27 (hi := ti27) (hS := hS))) ?_
   try simp only [opv, n1, n2, n3, n4, Value.cells, List.getElem_toArray, List.getElem_cons_zero, List.getElem_cons_succ]
   refine any_step [2, 4] (by kernel_rfl) (by decide) (fun w5 hE => ⟨fun _ => (hS.ext hE).sel (by repeat (first | exact Sel.nil | (refine Sel.cons (by repeat (exact Del.head)) ?_))), ?_⟩)
   replace hS := hS.ext hE
   intro i hi
   simp only [List.mem_cons, List.not_mem_nil, or_false] at hi
   rcases hi with rfl | rfl
   ·
    refine any_op (by rfl) ?_
    refine s_go (m_lookup ky27 Try.underlying28 ti3 (hy := rfl) (ha := by trivial) (hD := by assumption) (hS := hS)) ?_
    try simp only [opv, n1, n2, n3, n4, Value.cells]
    simp only [mget_put, if_true, eq_self, Option.getD_some, cnt_getD]
    refine x_nil ?_
    refine any_step [3, 4] (by kernel_rfl) (by decide) (fun w6 hE => ⟨fun _ => (hS.ext hE).sel (by repeat (first | exact Sel.nil | (refine Sel.cons (by repeat (exact Del.head)) ?_))), ?_⟩)
    replace hS := hS.ext hE
    intro i hi
    simp only [List.mem_cons, List.not_mem_nil, or_false] at hi
    rcases hi with rfl | rfl
    ·
     refine any_op (by rfl) ?_
     refine s_go (s_add (hc := by exact wr_i64 (by omega) (by omega))) ?_
     try simp only [opv, n1, n2, n3, n4, Value.cells]
     refine x_nil ?_
     refine any_step [4] (by kernel_rfl) (by decide) (fun w7 hE => ⟨fun _ => (hS.ext hE).sel (by repeat (first | exact Sel.nil | (refine Sel.cons (by repeat (exact Del.head)) ?_))), ?_⟩)
     replace hS := hS.ext hE
     intro i hi
     simp only [List.mem_cons, List.not_mem_nil, or_false] at hi
     subst hi
     ·
      refine any_op (by rfl) ?_
      refine m_mapEntry ky27 Try.underlying28 ti3 (hy := rfl) (ha := by trivial) (hD := by assumption) (hS := hS) (h := fun w8 hS => ?_)
      try simp only [opv, n1, n2, n3, n4, Value.cells, Array.toArray_toList] at hS ⊢
      simp only [cnt_getD]
      refine x_nil ?_
      refine any_step [5] (by kernel_rfl) (by decide) (fun w9 hE => ⟨fun hl => absurd (hl 4 (by decide)) (by decide +kernel), ?_⟩)
      replace hS := hS.ext hE
      intro i hi
      simp only [List.mem_cons, List.not_mem_nil, or_false] at hi
      subst hi
      ·
       refine any_op (by rfl) ?_
       refine s_go (s_extract (hv := rfl)) ?_
       try simp only [List.getElem_toArray, List.getElem_cons_zero, List.getElem_cons_succ]
       try simp only [opv, n1, n2, n3, n4, Value.cells]
       refine x_nil ?_
       refine any_step [6] (by kernel_rfl) (by decide) (fun w10 hE => ⟨fun hl => absurd (hl 4 (by decide)) (by decide +kernel), ?_⟩)
       replace hS := hS.ext hE
       intro i hi
       simp only [List.mem_cons, List.not_mem_nil, or_false] at hi
       subst hi
       ·
        refine any_op (by rfl) ?_
        refine m_entryStore (hS := hS) (h := fun w11 hS => ?_)
        try simp only [opv, n1, n2, n3, n4, Value.cells, Array.toArray_toList] at hS ⊢
        refine x_nil ?_
        refine any_nil (by kernel_rfl) (fun w12 hE => ?_)
        replace hS := hS.ext hE
        refine ⟨fun hl => absurd (hl 4 (by decide)) (by decide +kernel), ?_⟩
        refine mix_leaf (by simp only [clob, List.foldl, n1, n2, n3, n4]) ?_
        try simp only [n1, n2]
        rw [hst]; exact hS.sel (by repeat (first | exact Sel.nil | (refine Sel.cons (by repeat (first | exact Del.head | apply Del.tail)) ?_)))
    ·
     refine any_op (by rfl) ?_
     refine m_mapEntry ky27 Try.underlying28 ti3 (hy := rfl) (ha := by trivial) (hD := by assumption) (hS := hS) (h := fun w13 hS => ?_)
     try simp only [opv, n1, n2, n3, n4, Value.cells, Array.toArray_toList] at hS ⊢
     simp only [cnt_getD]
     refine x_nil ?_
     refine any_step [3, 5] (by kernel_rfl) (by decide) (fun w14 hE => ⟨fun hl => absurd (hl 4 (by decide)) (by decide +kernel), ?_⟩)
     replace hS := hS.ext hE
     intro i hi
     simp only [List.mem_cons, List.not_mem_nil, or_false] at hi
     rcases hi with rfl | rfl
     ·
      refine any_op (by rfl) ?_
      refine s_go (s_add (hc := by exact wr_i64 (by omega) (by omega))) ?_
      try simp only [opv, n1, n2, n3, n4, Value.cells]
      refine x_nil ?_
      refine any_step [5] (by kernel_rfl) (by decide) (fun w15 hE => ⟨fun hl => absurd (hl 4 (by decide)) (by decide +kernel), ?_⟩)
      replace hS := hS.ext hE
      intro i hi
      simp only [List.mem_cons, List.not_mem_nil, or_false] at hi
      subst hi
      ·
       refine any_op (by rfl) ?_
       refine s_go (s_extract (hv := rfl)) ?_
       try simp only [List.getElem_toArray, List.getElem_cons_zero, List.getElem_cons_succ]
       try simp only [opv, n1, n2, n3, n4, Value.cells]
       refine x_nil ?_
       refine any_step [6] (by kernel_rfl) (by decide) (fun w16 hE => ⟨fun hl => absurd (hl 4 (by decide)) (by decide +kernel), ?_⟩)
       replace hS := hS.ext hE
       intro i hi
       simp only [List.mem_cons, List.not_mem_nil, or_false] at hi
       subst hi
       ·
        refine any_op (by rfl) ?_
        refine m_entryStore (hS := hS) (h := fun w17 hS => ?_)
        try simp only [opv, n1, n2, n3, n4, Value.cells, Array.toArray_toList] at hS ⊢
        refine x_nil ?_
        refine any_nil (by kernel_rfl) (fun w18 hE => ?_)
        replace hS := hS.ext hE
        refine ⟨fun hl => absurd (hl 4 (by decide)) (by decide +kernel), ?_⟩
        refine mix_leaf (by simp only [clob, List.foldl, n1, n2, n3, n4]) ?_
        try simp only [n1, n2]
        rw [hst]; exact hS.sel (by repeat (first | exact Sel.nil | (refine Sel.cons (by repeat (first | exact Del.head | apply Del.tail)) ?_)))
     ·
      refine any_op (by rfl) ?_
      refine s_go (s_extract (hv := rfl)) ?_
      try simp only [List.getElem_toArray, List.getElem_cons_zero, List.getElem_cons_succ]
      try simp only [opv, n1, n2, n3, n4, Value.cells]
      refine x_nil ?_
      refine any_step [3] (by kernel_rfl) (by decide) (fun w19 hE => ⟨fun hl => absurd (hl 4 (by decide)) (by decide +kernel), ?_⟩)
      replace hS := hS.ext hE
      intro i hi
      simp only [List.mem_cons, List.not_mem_nil, or_false] at hi
      subst hi
      ·
       refine any_op (by rfl) ?_
       refine s_go (s_add (hc := by exact wr_i64 (by omega) (by omega))) ?_
       try simp only [opv, n1, n2, n3, n4, Value.cells]
       refine x_nil ?_
       refine any_step [6] (by kernel_rfl) (by decide) (fun w20 hE => ⟨fun hl => absurd (hl 4 (by decide)) (by decide +kernel), ?_⟩)
       replace hS := hS.ext hE
       intro i hi
       simp only [List.mem_cons, List.not_mem_nil, or_false] at hi
       subst hi
       ·
        refine any_op (by rfl) ?_
        refine m_entryStore (hS := hS) (h := fun w21 hS => ?_)
        try simp only [opv, n1, n2, n3, n4, Value.cells, Array.toArray_toList] at hS ⊢
        refine x_nil ?_
        refine any_nil (by kernel_rfl) (fun w22 hE => ?_)
        replace hS := hS.ext hE
        refine ⟨fun hl => absurd (hl 4 (by decide)) (by decide +kernel), ?_⟩
        refine mix_leaf (by simp only [clob, List.foldl, n1, n2, n3, n4]) ?_
        try simp only [n1, n2]
        rw [hst]; exact hS.sel (by repeat (first | exact Sel.nil | (refine Sel.cons (by repeat (first | exact Del.head | apply Del.tail)) ?_)))
   ·
    refine any_op (by rfl) ?_
    refine m_mapEntry ky27 Try.underlying28 ti3 (hy := rfl) (ha := by trivial) (hD := by assumption) (hS := hS) (h := fun w23 hS => ?_)
    try simp only [opv, n1, n2, n3, n4, Value.cells, Array.toArray_toList] at hS ⊢
    simp only [cnt_getD]
    refine x_nil ?_
    refine any_step [2, 5] (by kernel_rfl) (by decide) (fun w24 hE => ⟨fun hl => absurd (hl 4 (by decide)) (by decide +kernel), ?_⟩)
    replace hS := hS.ext hE
    intro i hi
    simp only [List.mem_cons, List.not_mem_nil, or_false] at hi
    rcases hi with rfl | rfl
    ·
     refine any_op (by rfl) ?_
     refine s_go (m_lookup ky27 Try.underlying28 ti3 (hy := rfl) (ha := by trivial) (hD := by exact mput_ok (by assumption) (by assumption)) (hS := hS)) ?_
     try simp only [opv, n1, n2, n3, n4, Value.cells]
     simp only [mget_put, if_true, eq_self, Option.getD_some, cnt_getD]
     refine x_nil ?_
     refine any_step [3, 5] (by kernel_rfl) (by decide) (fun w25 hE => ⟨fun hl => absurd (hl 4 (by decide)) (by decide +kernel), ?_⟩)
     replace hS := hS.ext hE
     intro i hi
     simp only [List.mem_cons, List.not_mem_nil, or_false] at hi
     rcases hi with rfl | rfl
     ·
      refine any_op (by rfl) ?_
      refine s_go (s_add (hc := by exact wr_i64 (by omega) (by omega))) ?_
      try simp only [opv, n1, n2, n3, n4, Value.cells]
      refine x_nil ?_
      refine any_step [5] (by kernel_rfl) (by decide) (fun w26 hE => ⟨fun hl => absurd (hl 4 (by decide)) (by decide +kernel), ?_⟩)
      replace hS := hS.ext hE
      intro i hi
      simp only [List.mem_cons, List.not_mem_nil, or_false] at hi
      subst hi
      ·
       refine any_op (by rfl) ?_
       refine s_go (s_extract (hv := rfl)) ?_
       try simp only [List.getElem_toArray, List.getElem_cons_zero, List.getElem_cons_succ]
       try simp only [opv, n1, n2, n3, n4, Value.cells]
       refine x_nil ?_
       refine any_step [6] (by kernel_rfl) (by decide) (fun w27 hE => ⟨fun hl => absurd (hl 4 (by decide)) (by decide +kernel), ?_⟩)
       replace hS := hS.ext hE
       intro i hi
       simp only [List.mem_cons, List.not_mem_nil, or_false] at hi
       subst hi
       ·
        refine any_op (by rfl) ?_
        refine m_entryStore (hS := hS) (h := fun w28 hS => ?_)
        try simp only [opv, n1, n2, n3, n4, Value.cells, Array.toArray_toList] at hS ⊢
        refine x_nil ?_
        refine any_nil (by kernel_rfl) (fun w29 hE => ?_)
        replace hS := hS.ext hE
        refine ⟨fun hl => absurd (hl 4 (by decide)) (by decide +kernel), ?_⟩
        refine mix_leaf (by simp only [clob, List.foldl, n1, n2, n3, n4]) ?_
        try simp only [n1, n2]
        rw [hst]; exact hS.sel (by repeat (first | exact Sel.nil | (refine Sel.cons (by repeat (first | exact Del.head | apply Del.tail)) ?_)))
     ·
      refine any_op (by rfl) ?_
      refine s_go (s_extract (hv := rfl)) ?_
      try simp only [List.getElem_toArray, List.getElem_cons_zero, List.getElem_cons_succ]
      try simp only [opv, n1, n2, n3, n4, Value.cells]
      refine x_nil ?_
      refine any_step [3] (by kernel_rfl) (by decide) (fun w30 hE => ⟨fun hl => absurd (hl 4 (by decide)) (by decide +kernel), ?_⟩)
      replace hS := hS.ext hE
      intro i hi
      simp only [List.mem_cons, List.not_mem_nil, or_false] at hi
      subst hi
      ·
       refine any_op (by rfl) ?_
       refine s_go (s_add (hc := by exact wr_i64 (by omega) (by omega))) ?_
       try simp only [opv, n1, n2, n3, n4, Value.cells]
       refine x_nil ?_
       refine any_step [6] (by kernel_rfl) (by decide) (fun w31 hE => ⟨fun hl => absurd (hl 4 (by decide)) (by decide +kernel), ?_⟩)
       replace hS := hS.ext hE
       intro i hi
       simp only [List.mem_cons, List.not_mem_nil, or_false] at hi
       subst hi
       ·
        refine any_op (by rfl) ?_
        refine m_entryStore (hS := hS) (h := fun w32 hS => ?_)
        try simp only [opv, n1, n2, n3, n4, Value.cells, Array.toArray_toList] at hS ⊢
        refine x_nil ?_
        refine any_nil (by kernel_rfl) (fun w33 hE => ?_)
        replace hS := hS.ext hE
        refine ⟨fun hl => absurd (hl 4 (by decide)) (by decide +kernel), ?_⟩
        refine mix_leaf (by simp only [clob, List.foldl, n1, n2, n3, n4]) ?_
        try simp only [n1, n2]
        rw [hst]; exact hS.sel (by repeat (first | exact Sel.nil | (refine Sel.cons (by repeat (first | exact Del.head | apply Del.tail)) ?_)))
    ·
     refine any_op (by rfl) ?_
     refine s_go (s_extract (hv := rfl)) ?_
     try simp only [List.getElem_toArray, List.getElem_cons_zero, List.getElem_cons_succ]
     try simp only [opv, n1, n2, n3, n4, Value.cells]
     refine x_nil ?_
     refine any_step [2] (by kernel_rfl) (by decide) (fun w34 hE => ⟨fun hl => absurd (hl 4 (by decide)) (by decide +kernel), ?_⟩)
     replace hS := hS.ext hE
     intro i hi
     simp only [List.mem_cons, List.not_mem_nil, or_false] at hi
     subst hi
     ·
      refine any_op (by rfl) ?_
      refine s_go (m_lookup ky27 Try.underlying28 ti3 (hy := rfl) (ha := by trivial) (hD := by exact mput_ok (by assumption) (by assumption)) (hS := hS)) ?_
      try simp only [opv, n1, n2, n3, n4, Value.cells]
      simp only [mget_put, if_true, eq_self, Option.getD_some, cnt_getD]
      refine x_nil ?_
      refine any_step [3] (by kernel_rfl) (by decide) (fun w35 hE => ⟨fun hl => absurd (hl 4 (by decide)) (by decide +kernel), ?_⟩)
      replace hS := hS.ext hE
      intro i hi
      simp only [List.mem_cons, List.not_mem_nil, or_false] at hi
      subst hi
      ·
       refine any_op (by rfl) ?_
       refine s_go (s_add (hc := by exact wr_i64 (by omega) (by omega))) ?_
       try simp only [opv, n1, n2, n3, n4, Value.cells]
       refine x_nil ?_
       refine any_step [6] (by kernel_rfl) (by decide) (fun w36 hE => ⟨fun hl => absurd (hl 4 (by decide)) (by decide +kernel), ?_⟩)
       replace hS := hS.ext hE
       intro i hi
       simp only [List.mem_cons, List.not_mem_nil, or_false] at hi
       subst hi
       ·
        refine any_op (by rfl) ?_
        refine m_entryStore (hS := hS) (h := fun w37 hS => ?_)
        try simp only [opv, n1, n2, n3, n4, Value.cells, Array.toArray_toList] at hS ⊢
        refine x_nil ?_
        refine any_nil (by kernel_rfl) (fun w38 hE => ?_)
        replace hS := hS.ext hE
        refine ⟨fun hl => absurd (hl 4 (by decide)) (by decide +kernel), ?_⟩
        refine mix_leaf (by simp only [clob, List.foldl, n1, n2, n3, n4]) ?_
        try simp only [n1, n2]
        rw [hst]; exact hS.sel (by repeat (first | exact Sel.nil | (refine Sel.cons (by repeat (first | exact Del.head | apply Del.tail)) ?_)))
  intro fm1 w39 hM
  replace hS := hM
  simp only [clob, List.foldl, n3, n4]
  refine hK7 _ _ ?_
  refine x_region ?_
  refine s_go (s_add (hc := by exact wr_i64 (by omega) (by omega))) ?_
  try simp only [opv, n1, n2, n3, n4, Value.cells]
  refine s_go (s_move) ?_
  try simp only [opv, n1, n2, n3, n4, Value.cells]
  refine x_nil ?_
  refine loop_back (m' := n - (k + 1)) (by simp only [clob, List.foldl, n1, n2, n3, n4]) ?_ ?_
  · try simp only [opv, n1, n2, n3, n4, Value.cells]
    exact ⟨k + 1, by omega, by omega, by rfl, hS.sel (by repeat (first | exact Sel.nil | (refine Sel.cons (by repeat (exact Del.head)) ?_)))⟩
  · omega
 ·
  try simp only [decide_eq_true_eq, decide_eq_false_iff_not, Bool.not_eq_true', Bool.not_eq_false', Int.not_lt, Int.not_le, ne_eq, Decidable.not_not, bne_iff_ne, beq_iff_eq, not_true_eq_false, not_false_eq_true] at hc1
  obtain rfl : k = n := by omega
  rw [List.take_of_length_le (by omega)] at hS
  refine x_exit (look_here ?_)
  refine hK3 _ _ ?_
  refine x_seq fun K9 hK9 => ?_
  refine x_region ?_
  refine s_go (s_move) ?_
  try simp only [opv, n1, n2, n3, n4, Value.cells]
  refine s_go (s_assign) ?_
  try simp only [opv, n1, n2, n3, n4, Value.cells]
  refine x_nil ?_
  refine hK9 _ _ ?_
  refine x_ret ?_
  refine r_tmp rfl ?_
  exact ⟨_, rfl, hS.sel (by repeat (first | exact Sel.nil | (refine Sel.cons (by repeat (exact Del.head)) ?_)))⟩
theorem c_vecTop (w0 : World) (x : List Int) (hx : x.length = 16) (g q : Nat) (D : List (List Int × Value)) (hD : ∀ p ∈ D, p.1.length = 16) (hM : St (OwnB [.obj g (mObj kv27 D), .obj q (.cells #[.map (some g)] 28 (0, 0))]) w0 w0 [.obj g (mObj kv27 D), .obj q (.cells #[.map (some g)] 28 (0, 0))])  :
    CallR Try.prog 113 #[.agg (ic .u32 x), .pointer (some ⟨q, 0, none⟩)] w0 fun v w' => v = .bool (topL vcmp x (D.map (·.1))) ∧ St (OwnB [.obj g (mObj kv27 D), .obj q (.cells #[.map (some g)] 28 (0, 0))]) w0 w' [.obj g (mObj kv27 D), .obj q (.cells #[.map (some g)] 28 (0, 0))] := by
 have hS := hM
 refine c_enter (l := [.agg (ic .u32 x), .pointer (some ⟨q, 0, none⟩), undef, undef, undef, undef, undef, undef, undef, undef, undef, undef, undef, undef, undef]) Try.func113 rfl (by simp only [Try.ntmps113, List.size_toArray, List.length_cons, List.length_nil, Nat.reduceAdd, Nat.reduceSub, Array.replicate_succ, Array.replicate_zero, List.push_toArray, List.append_toArray, List.nil_append, List.cons_append]) ?_
 refine x_seq fun K1 hK1 => ?_
 refine x_region ?_
 refine m_box hS (fun w1 g1 hS => ?_)
 try simp only [opv, n1, n2, n3, n4, Value.cells, Array.toArray_toList] at hS ⊢
 refine s_go (s_assign) ?_
 try simp only [opv, n1, n2, n3, n4, Value.cells]
 refine x_nil ?_
 refine hK1 _ _ ?_
 refine x_seq fun K2 hK2 => ?_
 refine x_seq fun K3 hK3 => ?_
 refine x_region ?_
 refine s_go (m_load_obj Try.underlying28 (hS := hS)) ?_
 try simp only [opv, n1, n2, n3, n4, Value.cells, List.getElem_toArray, List.getElem_cons_zero, List.getElem_cons_succ]
 refine m_range Try.underlying28 (hS := hS) (h := fun w2 r2 hS => ?_)
 try simp only [opv, n1, n2, n3, n4, Value.cells, Array.toArray_toList] at hS ⊢
 refine x_nil ?_
 refine hK3 _ _ ?_
 refine x_block ?_
 refine x_loop [3, 4, 7, 8, 9, 10, 11, 12, 13, 14] (fun m f w => ∃ seen : List Nat, seen.Nodup ∧ (∀ i ∈ seen, i < D.length) ∧ (∀ i ∈ seen, ∀ p, D[i]? = some p → ¬ vcmp x p.1 = 1) ∧ m = D.length - seen.length ∧ St (OwnB [.obj g (mObj kv27 D), .obj q (.cells #[.map (some g)] 28 (0, 0))]) w0 w [.obj r2 (itObj g D.length seen), .obj g1 (.cells (ic .u32 x) 27 (0, 0)), .obj g (mObj kv27 D), .obj q (.cells #[.map (some g)] 28 (0, 0))]) (D.length) ?init1 (fun m1 f1 wl1 hI => ?_)
 case init1 =>
  try simp only [opv, n1, n2, n3, n4, Value.cells]
  exact ⟨[], .nil, (fun i hi => by cases hi), (fun i hi => by cases hi), rfl, hS.sel (by repeat (first | exact Sel.nil | (refine Sel.cons (by repeat (exact Del.head)) ?_)))⟩
 obtain ⟨seen, hnd, hlt, htp, hm, hS⟩ := hI
 simp only [clob, List.foldl, n3, n4]
 refine x_seq fun K4 hK4 => ?_
 refine x_region ?_
 refine m_next (hS := hS) (hu := fun i => by repeat (exact Upd.head)) (h1 := fun hall1 => ?_) (h2 := fun w3 i1 p1 hp1 hn1 hS => ?_)
 ·
  try simp only [opv, n1, n2, n3, n4, Value.cells, Array.toArray_toList] at hS ⊢
  have hT : topL vcmp x (D.map (·.1)) = true := top_all (fun i hi p hp => htp i (hall1 i hi) p hp)
  refine s_go (s_extract (hv := rfl)) ?_
  try simp only [List.getElem_toArray, List.getElem_cons_zero, List.getElem_cons_succ]
  try simp only [opv, n1, n2, n3, n4, Value.cells]
  refine x_nil ?_
  refine hK4 _ _ ?_
  refine x_seq fun K5 hK5 => ?_
  refine x_cond_f (h := ?_)
  refine x_exit (look_here ?_)
  refine hK2 _ _ ?_
  refine x_seq fun K6 hK6 => ?_
  refine x_region ?_
  refine s_go (s_assign) ?_
  try simp only [opv, n1, n2, n3, n4, Value.cells]
  refine x_nil ?_
  refine hK6 _ _ ?_
  refine x_ret ?_
  refine r_tmp rfl ?_
  exact ⟨congrArg Value.bool hT.symm, hS.sel (by repeat (first | exact Sel.nil | (refine Sel.cons (by repeat (first | exact Del.head | apply Del.tail)) ?_)))⟩
 ·
  try simp only [opv, n1, n2, n3, n4, Value.cells, Array.toArray_toList] at hS ⊢
  simp only [kv27]
  have hpx := hp1
  have hnw := hn1
  obtain ⟨ix, hix⟩ : ∃ z, z = i1 := ⟨_, rfl⟩
  rw [← hix] at hpx hnw hS
  have hiD : ix < D.length := (List.getElem?_eq_some_iff.1 hpx).1
  have hpl : p1.1.length = 16 := hD _ (List.mem_of_getElem? hpx)
  have hnd2 := nodup_snoc hnd hnw
  have hlt2 : ∀ i ∈ seen ++ [ix], i < D.length := by intro i hi; rcases List.mem_append.1 hi with hi | hi; exact hlt i hi; simp at hi; subst hi; exact hiD
  have hln := nodup_len hnd2 hlt2
  simp only [List.length_append, List.length_cons, List.length_nil] at hln
  refine s_go (s_extract (hv := rfl)) ?_
  try simp only [List.getElem_toArray, List.getElem_cons_zero, List.getElem_cons_succ]
  try simp only [opv, n1, n2, n3, n4, Value.cells]
  refine x_nil ?_
  refine hK4 _ _ ?_
  refine x_seq fun K7 hK7 => ?_
  refine x_cond_t (h := ?_)
  refine x_skip ?_
  refine hK7 _ _ ?_
  refine x_block ?_
  refine x_seq fun K8 hK8 => ?_
  refine x_region ?_
  refine s_go (m_entry (hn := rfl) (hp := by assumption) (hS := hS)) ?_
  try simp only [opv, n1, n2, n3, n4, Value.cells]
  refine s_go (s_extract (hv := rfl)) ?_
  try simp only [List.getElem_toArray, List.getElem_cons_zero, List.getElem_cons_succ]
  try simp only [opv, n1, n2, n3, n4, Value.cells]
  simp only [kv27]
  refine m_alloc ti27 hS (fun w4 g4 hS => ?_)
  try simp only [opv, n1, n2, n3, n4, Value.cells, Array.toArray_toList] at hS ⊢
  refine m_store_obj ti27 (hS := hS) (h := fun w5 hS => ?_)
  try simp only [opv, n1, n2, n3, n4, Value.cells, Array.toArray_toList] at hS ⊢
  refine x_nil ?_
  refine hK8 _ _ ?_
  refine x_seq fun K9 hK9 => ?_
  refine x_region ?_
  refine s_go (m_load_row Try.underlying27 (hi := ti27) (hS := hS)) ?_
  try simp only [opv, n1, n2, n3, n4, Value.cells, List.getElem_toArray, List.getElem_cons_zero, List.getElem_cons_succ]
  refine s_go (m_load_row Try.underlying27 (hi := ti27) (hS := hS)) ?_
  try simp only [opv, n1, n2, n3, n4, Value.cells, List.getElem_toArray, List.getElem_cons_zero, List.getElem_cons_succ]
  refine s_call en111 ?_
  try simp only [opv, n1, n2, n3, n4, Value.cells, List.map_toArray, List.map_cons, List.map_nil, List.append_toArray, List.cons_append, List.nil_append, Array.append_empty]
  refine CallR.mono (c_vecCompare x _ hx (by assumption) _) ?_
  rintro _ w6 ⟨rfl, hE6⟩
  replace hS := hS.ext hE6
  try simp only [opv, n1, n2, n3, n4, Value.cells]
  refine s_go (s_eql) ?_
  try simp only [opv, n1, n2, n3, n4, Value.cells]
  refine x_nil ?_
  refine hK9 _ _ ?_
  refine x_cond (ht := fun hc3 => ?_) (hf := fun hc3 => ?_)
  ·
   try simp only [decide_eq_true_eq, decide_eq_false_iff_not, Bool.not_eq_true', Bool.not_eq_false', Int.not_lt, Int.not_le, ne_eq, Decidable.not_not, bne_iff_ne, beq_iff_eq, not_true_eq_false, not_false_eq_true] at hc3
   have hT : topL vcmp x (D.map (·.1)) = false := top_not hpx hc3
   refine x_seq fun K10 hK10 => ?_
   refine x_region ?_
   refine s_go (s_assign) ?_
   try simp only [opv, n1, n2, n3, n4, Value.cells]
   refine x_nil ?_
   refine hK10 _ _ ?_
   refine x_ret ?_
   refine r_tmp rfl ?_
   exact ⟨congrArg Value.bool hT.symm, hS.sel (by repeat (first | exact Sel.nil | (refine Sel.cons (by repeat (first | exact Del.head | apply Del.tail)) ?_)))⟩
  ·
   try simp only [decide_eq_true_eq, decide_eq_false_iff_not, Bool.not_eq_true', Bool.not_eq_false', Int.not_lt, Int.not_le, ne_eq, Decidable.not_not, bne_iff_ne, beq_iff_eq, not_true_eq_false, not_false_eq_true] at hc3
   have hne := hc3
   refine x_skip ?_
   refine loop_back (m' := D.length - (seen.length + 1)) (by simp only [clob, List.foldl, n1, n2, n3, n4]) ?_ ?_
   · try simp only [opv, n1, n2, n3, n4, Value.cells]
     exact ⟨seen ++ [ix], hnd2, hlt2, (by intro i hi p hp; rcases List.mem_append.1 hi with hi | hi; exact htp i hi p hp; simp at hi; subst hi; rw [hpx] at hp; obtain rfl := Option.some.inj hp; exact hne), by rw [List.length_append]; rfl, hS.sel (by repeat (first | exact Sel.nil | (refine Sel.cons (by repeat (first | exact Del.head | apply Del.tail)) ?_)))⟩
   · omega
theorem c_vecPeaks (w0 : World) (A : Option Addr) (n c : Nat) (l : List (List Int)) (hr : Rd w0 A 16 n (vrows l)) (hl : l.length = n) (hv : ∀ x ∈ l, x.length = 16) (hn : n ≤ 1000000)  :
    CallR Try.prog 24 #[.slice A n c] w0 fun v w' => ∃ A c, v = .slice A (pkL vcmp l n).length c ∧ St NoB w0 w' [.vec A c 3 1 (pkL vcmp l n).length ((pkL vcmp l n).map (Value.int .i64))] := by
 have hS := St.rd1 (S := NoB) hr
 refine c_enter (l := [.slice A n c, undef, undef, undef, undef, undef, undef, undef, undef, undef, undef, undef, undef, undef, undef, undef, undef, undef, undef, undef, undef, undef, undef, undef, undef, undef]) Try.func24 rfl (by simp only [Try.ntmps24, List.size_toArray, List.length_cons, List.length_nil, Nat.reduceAdd, Nat.reduceSub, Array.replicate_succ, Array.replicate_zero, List.push_toArray, List.append_toArray, List.nil_append, List.cons_append]) ?_
 refine x_seq fun K1 hK1 => ?_
 refine x_region ?_
 refine s_go (s_assign) ?_
 try simp only [opv, n1, n2, n3, n4, Value.cells]
 refine x_nil ?_
 refine hK1 _ _ ?_
 refine x_seq fun K2 hK2 => ?_
 refine x_region ?_
 refine s_go (s_move) ?_
 try simp only [opv, n1, n2, n3, n4, Value.cells]
 refine s_call en21 ?_
 try simp only [opv, n1, n2, n3, n4, Value.cells, List.map_toArray, List.map_cons, List.map_nil, List.append_toArray, List.cons_append, List.nil_append, Array.append_empty]
 refine CallR.mono (c_vecCount _ A n c l (hS.hasRd (by repeat (exact Has.head))) hl hv (by omega)) ?_
 rintro _ w1 ⟨g, rfl, hC1⟩
 replace hS := hS.call hC1
 simp only [List.cons_append, List.nil_append] at hS
 have hok : ∀ p ∈ cntR l.reverse, p.1.length = 16 := cnt_ok (fun y hy => hv y (List.mem_reverse.1 hy))
 try simp only [opv, n1, n2, n3, n4, Value.cells]
 refine m_alloc ti28 hS (fun w2 g2 hS => ?_)
 try simp only [opv, n1, n2, n3, n4, Value.cells, Array.toArray_toList] at hS ⊢
 obtain ⟨g3, hg3⟩ : ∃ z, z = g2 := ⟨_, rfl⟩
 rw [← hg3] at hS ⊢
 refine m_store_obj ti28 (hS := hS) (h := fun w3 hS => ?_)
 try simp only [opv, n1, n2, n3, n4, Value.cells, Array.toArray_toList] at hS ⊢
 refine x_nil ?_
 refine hK2 _ _ ?_
 refine x_seq fun K3 hK3 => ?_
 refine x_region ?_
 refine s_go (s_makeFunc) ?_
 try simp only [opv, n1, n2, n3, n4, Value.cells, List.map_toArray, List.map_cons, List.map_nil]
 refine s_go (s_assign) ?_
 try simp only [opv, n1, n2, n3, n4, Value.cells]
 refine x_nil ?_
 refine hK3 _ _ ?_
 refine x_seq fun K4 hK4 => ?_
 refine x_seq fun K5 hK5 => ?_
 refine x_region ?_
 refine s_go (s_move) ?_
 try simp only [opv, n1, n2, n3, n4, Value.cells]
 refine s_go (s_len_sl Try.underlying24) ?_
 try simp only [opv, n1, n2, n3, n4, Value.cells]
 refine s_go (s_move) ?_
 try simp only [opv, n1, n2, n3, n4, Value.cells]
 refine x_nil ?_
 refine hK5 _ _ ?_
 refine x_block ?_
 refine x_loop [2, 5, 6, 12, 13, 14, 15, 16, 17, 18, 19, 20, 21, 22, 23, 24] (fun m f w => ∃ (k : Nat) (B : Option Addr) (d : Nat), k ≤ n ∧ m = n - k ∧ f 12 = .int .i64 (k : Int) ∧ f 2 = .slice B (pkL vcmp l k).length d ∧ St NoB w0 w [.vec B d 3 1 (pkL vcmp l k).length ((pkL vcmp l k).map (Value.int .i64)), .obj g3 (.cells #[.map (some g)] 28 (0, 0)), .obj g (mObj kv27 (cntR l.reverse)), .rd A 16 n (vrows l)]) (n) ?init1 (fun m1 f1 wl1 hI => ?_)
 case init1 =>
  try simp only [opv, n1, n2, n3, n4, Value.cells]
  replace hS := hS.nil_vec 3 1
  exact ⟨0, none, 0, by omega, rfl, rfl, rfl, hS.sel (by repeat (first | exact Sel.nil | (refine Sel.cons (by repeat (exact Del.head)) ?_)))⟩
 obtain ⟨k, B, d, hk, hm, h12, h2, hS⟩ := hI
 simp only [clob, List.foldl, n3, n4, h12, h2]
 obtain ⟨x, hx⟩ : ∃ x, l.getD k [] = x := ⟨_, rfl⟩
 have hvl := vrows_len l
 have hpl := pkL_len vcmp l k
 refine x_seq fun K6 hK6 => ?_
 refine x_region ?_
 refine s_go (s_lss) ?_
 try simp only [opv, n1, n2, n3, n4, Value.cells]
 refine x_nil ?_
 refine hK6 _ _ ?_
 refine x_seq fun K7 hK7 => ?_
 refine x_cond (ht := fun hc1 => ?_) (hf := fun hc1 => ?_)
 ·
  try simp only [decide_eq_true_eq, decide_eq_false_iff_not, Bool.not_eq_true', Bool.not_eq_false', Int.not_lt, Int.not_le, ne_eq, Decidable.not_not, bne_iff_ne, beq_iff_eq, not_true_eq_false, not_false_eq_true] at hc1
  have hx16 : x.length = 16 := by rw [← hx]; exact hv _ (getD_mem' (by omega))
  refine x_skip ?_
  refine hK7 _ _ ?_
  refine x_seq fun K8 hK8 => ?_
  refine x_block ?_
  refine x_seq fun K9 hK9 => ?_
  refine x_region ?_
  refine s_go (s_move) ?_
  try simp only [opv, n1, n2, n3, n4, Value.cells]
  refine s_go (m_indexAddr_rd Try.underlying24 ti27 (hS := hS)) ?_
  try simp only [opv, n1, n2, n3, n4, Value.cells, Nat.mul_one, Nat.zero_add, Int.toNat_natCast, Int.reduceToNat]
  refine s_go (m_loada_rd Try.underlying27 (hi := ti27) (hS := hS) (hfit := by rw [vrows_len]; omega)) ?_
  try simp only [opv, n1, n2, n3, n4, Value.cells, List.getElem_toArray, List.getElem_cons_zero, List.getElem_cons_succ]
  rw [vrow_get (by omega) hv, hx]
  refine m_alloc ti27 hS (fun w4 g4 hS => ?_)
  try simp only [opv, n1, n2, n3, n4, Value.cells, Array.toArray_toList] at hS ⊢
  refine s_go (s_assign) ?_
  try simp only [opv, n1, n2, n3, n4, Value.cells]
  refine m_store_obj ti27 (hS := hS) (h := fun w5 hS => ?_)
  try simp only [opv, n1, n2, n3, n4, Value.cells, Array.toArray_toList] at hS ⊢
  refine x_nil ?_
  refine hK9 _ _ ?_
  refine x_seq fun K10 hK10 => ?_
  refine x_region ?_
  refine s_go (s_move) ?_
  try simp only [opv, n1, n2, n3, n4, Value.cells]
  refine s_go (m_load_row Try.underlying27 (hi := ti27) (hS := hS)) ?_
  try simp only [opv, n1, n2, n3, n4, Value.cells, List.getElem_toArray, List.getElem_cons_zero, List.getElem_cons_succ]
  refine s_callv (hv := rfl) en113 ?_
  try simp only [opv, n1, n2, n3, n4, Value.cells, List.map_toArray, List.map_cons, List.map_nil, List.append_toArray, List.cons_append, List.nil_append, Array.append_empty]
  refine CallR.mono (c_vecTop _ x hx16 g g3 (cntR l.reverse) hok (hS.owns (by repeat (first | exact Spl.nil | (apply Spl.cons (by repeat (first | exact Del.head | apply Del.tail))))))) ?_
  rintro _ w6 ⟨rfl, hC6⟩
  replace hS := hS.frame (by repeat (first | exact Spl.nil | (apply Spl.cons (by repeat (first | exact Del.head | apply Del.tail))))) hC6 (by intro r hr g hg; simp only [List.mem_cons, List.not_mem_nil, or_false] at hr; rcases hr with rfl | rfl | rfl <;> (simp [Res.reads] at hg; done))
  simp only [List.cons_append, List.nil_append] at hS
  try simp only [opv, n1, n2, n3, n4, Value.cells]
  rw [topL_keys]
  refine x_nil ?_
  refine hK10 _ _ ?_
  refine x_cond (ht := fun hc2 => ?_) (hf := fun hc2 => ?_)
  ·
   try simp only [decide_eq_true_eq, decide_eq_false_iff_not, Bool.not_eq_true', Bool.not_eq_false', Int.not_lt, Int.not_le, ne_eq, Decidable.not_not, bne_iff_ne, beq_iff_eq, not_true_eq_false, not_false_eq_true] at hc2
   have hx16 : x.length = 16 := by rw [← hx]; exact hv _ (getD_mem' (by omega))
   have hst : pkL vcmp l (k + 1) = pkL vcmp l k ++ [(k : Int)] := by rw [pkL, hx, if_pos hc2]
   refine x_region ?_
   refine s_go (s_move) ?_
   try simp only [opv, n1, n2, n3, n4, Value.cells]
   refine s_go (s_move) ?_
   try simp only [opv, n1, n2, n3, n4, Value.cells]
   refine m_buildRow (cells := #[_]) Try.underlying32 ti3 (hc := by simp only [List.map_toArray, List.map_cons, List.map_nil, opv, n1, n2, n3, n4, Value.cells, List.toList_toArray]; (repeat (refine fill_cons rfl rfl (Nat.le_of_ble_eq_true rfl) ?_)); rfl) (hS := hS) (h := fun w7 g7 hS => ?_)
   try simp only [opv, n1, n2, n3, n4, Value.cells, Array.toArray_toList] at hS ⊢
   replace hS := hS.obj_vec (sz := 1) (n := 1) rfl (by decide) .head
   refine m_append_vec Try.underlying32 ti3 (hS := hS) (news := [(k : Int)].map (Value.int .i64)) (h := fun w8 A8 C8 hS => ?_)
   try simp only [← List.map_append, ← List.map_drop, ← List.map_take, Nat.mul_one, Nat.zero_mul, Nat.sub_zero, List.drop_zero, List.nil_append, Nat.zero_add] at hS ⊢
   try simp only [opv, n1, n2, n3, n4, Value.cells, Array.toArray_toList] at hS ⊢
   refine s_go (s_assign) ?_
   try simp only [opv, n1, n2, n3, n4, Value.cells]
   refine x_nil ?_
   refine hK8 _ _ ?_
   refine x_region ?_
   refine s_go (s_add (hc := by exact wr_i64 (by omega) (by omega))) ?_
   try simp only [opv, n1, n2, n3, n4, Value.cells]
   refine s_go (s_move) ?_
   try simp only [opv, n1, n2, n3, n4, Value.cells]
   refine x_nil ?_
   refine loop_back (m' := n - (k + 1)) (by simp only [clob, List.foldl, n1, n2, n3, n4]) ?_ ?_
   · try simp only [opv, n1, n2, n3, n4, Value.cells]
     exact ⟨k + 1, _, _, by omega, by omega, by rfl, by rw [hst, List.length_append]; rfl, by rw [hst, List.length_append]; exact hS.sel (by repeat (first | exact Sel.nil | (refine Sel.cons (by repeat (first | exact Del.head | apply Del.tail)) ?_)))⟩
   · omega
  ·
   try simp only [decide_eq_true_eq, decide_eq_false_iff_not, Bool.not_eq_true', Bool.not_eq_false', Int.not_lt, Int.not_le, ne_eq, Decidable.not_not, bne_iff_ne, beq_iff_eq, not_true_eq_false, not_false_eq_true] at hc2
   have hx16 : x.length = 16 := by rw [← hx]; exact hv _ (getD_mem' (by omega))
   have hst : pkL vcmp l (k + 1) = pkL vcmp l k := by rw [pkL, hx, if_neg (by rw [hc2]; decide)]
   refine x_skip ?_
   refine hK8 _ _ ?_
   refine x_region ?_
   refine s_go (s_add (hc := by exact wr_i64 (by omega) (by omega))) ?_
   try simp only [opv, n1, n2, n3, n4, Value.cells]
   refine s_go (s_move) ?_
   try simp only [opv, n1, n2, n3, n4, Value.cells]
   refine x_nil ?_
   refine loop_back (m' := n - (k + 1)) (by simp only [clob, List.foldl, n1, n2, n3, n4]) ?_ ?_
   · try simp only [opv, n1, n2, n3, n4, Value.cells]
     exact ⟨k + 1, _, _, by omega, by omega, by rfl, by rw [hst], by rw [hst]; exact hS.sel (by repeat (first | exact Sel.nil | (refine Sel.cons (by repeat (first | exact Del.head | apply Del.tail)) ?_)))⟩
   · omega
 ·
  try simp only [decide_eq_true_eq, decide_eq_false_iff_not, Bool.not_eq_true', Bool.not_eq_false', Int.not_lt, Int.not_le, ne_eq, Decidable.not_not, bne_iff_ne, beq_iff_eq, not_true_eq_false, not_false_eq_true] at hc1
  obtain rfl : k = n := by omega
  refine x_exit (look_here ?_)
  refine hK4 _ _ ?_
  refine x_seq fun K11 hK11 => ?_
  refine x_region ?_
  refine s_go (s_move) ?_
  try simp only [opv, n1, n2, n3, n4, Value.cells]
  refine s_go (s_assign) ?_
  try simp only [opv, n1, n2, n3, n4, Value.cells]
  refine x_nil ?_
  refine hK11 _ _ ?_
  refine x_ret ?_
  refine r_tmp rfl ?_
  exact ⟨_, _, rfl, hS.sel (by repeat (first | exact Sel.nil | (refine Sel.cons (by repeat (exact Del.head)) ?_)))⟩
theorem c_ref12Peaks (w0 : World) (A : Option Addr) (n c : Nat) (l : List (List Int)) (hr : Rd w0 A 16 n (vrows l)) (hl : l.length = n) (hv : ∀ x ∈ l, x.length = 16) (hn : n ≤ 1000000)  :
    CallR Try.prog 25 #[.slice A n c] w0 fun v w' => ∃ A c, v = .slice A (pkL vcmp l n).length c ∧ St NoB w0 w' [.vec A c 3 1 (pkL vcmp l n).length ((pkL vcmp l n).map (Value.int .i64))] := by
 have hS := St.rd1 (S := NoB) hr
 refine c_enter (l := [.slice A n c, undef, undef, undef, undef, undef, undef, undef, undef, undef, undef, undef, undef, undef, undef, undef, undef, undef, undef, undef, undef, undef, undef, undef, undef, undef, undef, undef, undef, undef, undef, undef, undef, undef, undef, undef, undef, undef]) Try.func25 rfl (by simp only [Try.ntmps25, List.size_toArray, List.length_cons, List.length_nil, Nat.reduceAdd, Nat.reduceSub, Array.replicate_succ, Array.replicate_zero, List.push_toArray, List.append_toArray, List.nil_append, List.cons_append]) ?_
 refine x_seq fun K1 hK1 => ?_
 refine x_region ?_
 refine s_go (s_assign) ?_
 try simp only [opv, n1, n2, n3, n4, Value.cells]
 refine x_nil ?_
 refine hK1 _ _ ?_
 refine x_seq fun K2 hK2 => ?_
 refine x_region ?_
 refine s_go (s_assign) ?_
 try simp only [opv, n1, n2, n3, n4, Value.cells]
 refine x_nil ?_
 refine hK2 _ _ ?_
 refine x_seq fun K3 hK3 => ?_
 refine x_seq fun K4 hK4 => ?_
 refine x_region ?_
 refine s_go (s_assign) ?_
 try simp only [opv, n1, n2, n3, n4, Value.cells]
 refine x_nil ?_
 refine hK4 _ _ ?_
 refine x_block ?_
 refine x_loop [3, 4, 5, 6, 7, 8, 9, 10, 11, 12, 13, 14, 15, 16, 17, 18, 19, 20, 21, 22, 23, 24, 25, 26, 27, 28, 29, 30, 31, 32, 33, 34, 35, 36] (fun m f w => ∃ (k : Nat) (B : Option Addr) (d : Nat), k ≤ n ∧ m = n - k ∧ f 4 = .int .i64 (k : Int) ∧ f 3 = .slice B (pkL vcmp l k).length d ∧ St NoB w0 w [.vec B d 3 1 (pkL vcmp l k).length ((pkL vcmp l k).map (Value.int .i64)), .rd A 16 n (vrows l)]) (n) ?init1 (fun m1 f1 wl1 hI => ?_)
 case init1 =>
  try simp only [opv, n1, n2, n3, n4, Value.cells]
  replace hS := hS.nil_vec 3 1
  exact ⟨0, none, 0, by omega, rfl, rfl, rfl, hS.sel (by repeat (first | exact Sel.nil | (refine Sel.cons (by repeat (exact Del.head)) ?_)))⟩
 obtain ⟨k, B, d, hk, hm, h4, h3, hS⟩ := hI
 simp only [clob, List.foldl, n3, n4, h4, h3]
 obtain ⟨x, hx⟩ : ∃ x, l.getD k [] = x := ⟨_, rfl⟩
 have hvl := vrows_len l
 have hpl := pkL_len vcmp l k
 refine x_seq fun K5 hK5 => ?_
 refine x_seq fun K6 hK6 => ?_
 refine x_region ?_
 refine s_go (s_move) ?_
 try simp only [opv, n1, n2, n3, n4, Value.cells]
 refine s_go (s_move) ?_
 try simp only [opv, n1, n2, n3, n4, Value.cells]
 refine s_go (s_len_sl Try.underlying22) ?_
 try simp only [opv, n1, n2, n3, n4, Value.cells]
 refine s_go (s_lss) ?_
 try simp only [opv, n1, n2, n3, n4, Value.cells]
 refine x_nil ?_
 refine hK6 _ _ ?_
 refine x_cond (ht := fun hc1 => ?_) (hf := fun hc1 => ?_)
 ·
  try simp only [decide_eq_true_eq, decide_eq_false_iff_not, Bool.not_eq_true', Bool.not_eq_false', Int.not_lt, Int.not_le, ne_eq, Decidable.not_not, bne_iff_ne, beq_iff_eq, not_true_eq_false, not_false_eq_true] at hc1
  have hx16 : x.length = 16 := by rw [← hx]; exact hv _ (getD_mem' (by omega))
  refine x_skip ?_
  refine hK5 _ _ ?_
  refine x_seq fun K7 hK7 => ?_
  refine x_block ?_
  refine x_seq fun K8 hK8 => ?_
  refine x_region ?_
  refine s_go (s_assign) ?_
  try simp only [opv, n1, n2, n3, n4, Value.cells]
  refine x_nil ?_
  refine hK8 _ _ ?_
  refine x_seq fun K9 hK9 => ?_
  refine x_seq fun K10 hK10 => ?_
  refine x_region ?_
  refine s_go (s_assign) ?_
  try simp only [opv, n1, n2, n3, n4, Value.cells]
  refine x_nil ?_
  refine hK10 _ _ ?_
  refine x_block ?_
  refine x_loop [5, 6, 13, 14, 15, 16, 17, 18, 19, 20, 21, 22, 23, 24, 25, 26, 27, 28, 29, 30, 31] (fun m f w => ∃ j : Nat, j ≤ n ∧ m = n - j ∧ f 6 = .int .i64 (j : Int) ∧ f 5 = .bool (topL vcmp x (l.take j)) ∧ St NoB w0 w [.vec B d 3 1 (pkL vcmp l k).length ((pkL vcmp l k).map (Value.int .i64)), .rd A 16 n (vrows l)]) (n) ?init2 (fun m2 f2 wl2 hI => ?_)
  case init2 =>
   try simp only [opv, n1, n2, n3, n4, Value.cells]
   exact ⟨0, by omega, rfl, rfl, rfl, hS⟩
  obtain ⟨j, hj, hm2, h6, h5, hS⟩ := hI
  simp only [clob, List.foldl, n3, n4, h6, h5]
  obtain ⟨y, hy⟩ : ∃ y, l.getD j [] = y := ⟨_, rfl⟩
  refine x_seq fun K11 hK11 => ?_
  refine x_seq fun K12 hK12 => ?_
  refine x_region ?_
  refine s_go (s_move) ?_
  try simp only [opv, n1, n2, n3, n4, Value.cells]
  refine s_go (s_move) ?_
  try simp only [opv, n1, n2, n3, n4, Value.cells]
  refine s_go (s_len_sl Try.underlying22) ?_
  try simp only [opv, n1, n2, n3, n4, Value.cells]
  refine s_go (s_lss) ?_
  try simp only [opv, n1, n2, n3, n4, Value.cells]
  refine x_nil ?_
  refine hK12 _ _ ?_
  refine x_cond (ht := fun hc2 => ?_) (hf := fun hc2 => ?_)
  ·
   try simp only [decide_eq_true_eq, decide_eq_false_iff_not, Bool.not_eq_true', Bool.not_eq_false', Int.not_lt, Int.not_le, ne_eq, Decidable.not_not, bne_iff_ne, beq_iff_eq, not_true_eq_false, not_false_eq_true] at hc2
   have hy16 : y.length = 16 := by rw [← hy]; exact hv _ (getD_mem' (by omega))
   refine x_skip ?_
   refine hK11 _ _ ?_
   refine x_seq fun K13 hK13 => ?_
   refine x_block ?_
   refine x_quiet (by kernel_rfl) (by kernel_rfl) hS ?_
   refine q_go (fun w hS => s_move) ?_
   try simp only [opv, n1, n2, n3, n4, Value.cells]
   refine q_go (fun w hS => s_move) ?_
   try simp only [opv, n1, n2, n3, n4, Value.cells]
   refine q_part 20 rfl (fun hp1 => ?_) (fun hp1 => ?_)
   ·
    try simp only [n3, n4]
    try simp only [decide_eq_true_eq, decide_eq_false_iff_not, Bool.not_eq_true', Bool.not_eq_false', Int.not_lt, Int.not_le, ne_eq, Decidable.not_not] at hp1
    have hb : topL vcmp x (l.take j) = true := hp1
    refine q_on (yi (t := 20) rfl rfl) ?_
    refine q_go (fun w hS => s_move) ?_
    try simp only [opv, n1, n2, n3, n4, Value.cells]
    refine q_on (yi (t := 20) rfl rfl) ?_
    refine q_go (fun w hS => s_move) ?_
    try simp only [opv, n1, n2, n3, n4, Value.cells]
    refine q_on (yi (t := 20) rfl rfl) ?_
    refine q_go (fun w hS => m_indexAddr_rd Try.underlying22 ti26 (hS := hS)) ?_
    try simp only [opv, n1, n2, n3, n4, Value.cells, Nat.mul_one, Nat.zero_add, Int.toNat_natCast, Int.reduceToNat]
    refine q_on (yi (t := 20) rfl rfl) ?_
    refine q_go (fun w hS => m_loada_rd Try.underlying26 (hi := ti26) (hS := hS) (hfit := by rw [vrows_len]; omega)) ?_
    try simp only [opv, n1, n2, n3, n4, Value.cells, List.getElem_toArray, List.getElem_cons_zero, List.getElem_cons_succ]
    rw [vrow_get (by omega) hv, hx]
    refine q_on (yi (t := 20) rfl rfl) ?_
    refine q_go (fun w hS => s_move) ?_
    try simp only [opv, n1, n2, n3, n4, Value.cells]
    refine q_on (yi (t := 20) rfl rfl) ?_
    refine q_go (fun w hS => s_move) ?_
    try simp only [opv, n1, n2, n3, n4, Value.cells]
    refine q_on (yi (t := 20) rfl rfl) ?_
    refine q_go (fun w hS => m_indexAddr_rd Try.underlying22 ti26 (hS := hS)) ?_
    try simp only [opv, n1, n2, n3, n4, Value.cells, Nat.mul_one, Nat.zero_add, Int.toNat_natCast, Int.reduceToNat]
    refine q_on (yi (t := 20) rfl rfl) ?_
    refine q_go (fun w hS => m_loada_rd Try.underlying26 (hi := ti26) (hS := hS) (hfit := by rw [vrows_len]; omega)) ?_
    try simp only [opv, n1, n2, n3, n4, Value.cells, List.getElem_toArray, List.getElem_cons_zero, List.getElem_cons_succ]
    rw [vrow_get (by omega) hv, hy]
    refine q_on (yi (t := 20) rfl rfl) ?_
    apply q_call en114
    case H =>
      intro w hS
      try simp only [opv, n1, n2, n3, n4, List.map_toArray, List.map_cons, List.map_nil, List.append_toArray, List.cons_append, List.nil_append, Array.append_empty]
      refine CallR.mono (c_ref12Compare x y hx16 hy16 _) ?_
      rintro _ w1 ⟨rfl, hE⟩; exact ⟨rfl, hS.ext hE⟩
    try simp only [opv, n1, n2, n3, n4, Value.cells]
    refine q_on (yi (t := 20) rfl rfl) ?_
    refine q_go (fun w hS => s_neq) ?_
    try simp only [opv, n1, n2, n3, n4, Value.cells]
    refine q_go (fun w hS => s_pick_t) ?_
    try simp only [opv, n1, n2, n3, n4, Value.cells]
    refine q_go (fun w hS => s_assign) ?_
    try simp only [opv, n1, n2, n3, n4, Value.cells]
    clear hS
    refine q_nil fun w1 hS => ?_
    refine hK13 _ _ ?_
    refine x_region ?_
    refine s_go (s_move) ?_
    try simp only [opv, n1, n2, n3, n4, Value.cells]
    refine s_go (s_add (hc := by exact wr_i64 (by omega) (by omega))) ?_
    try simp only [opv, n1, n2, n3, n4, Value.cells]
    refine s_go (s_assign) ?_
    try simp only [opv, n1, n2, n3, n4, Value.cells]
    refine x_nil ?_
    refine loop_back (m' := n - (j + 1)) (by simp only [clob, List.foldl, n1, n2, n3, n4]) ?_ ?_
    · try simp only [opv, n1, n2, n3, n4, Value.cells]
      exact ⟨j + 1, by omega, by omega, by rfl, congrArg Value.bool (by rw [topL_take (by omega), hb, hy]; simp), hS⟩
    · omega
   ·
    try simp only [n3, n4]
    try simp only [decide_eq_true_eq, decide_eq_false_iff_not, Bool.not_eq_true', Bool.not_eq_false', Int.not_lt, Int.not_le, ne_eq, Decidable.not_not] at hp1
    have hb : topL vcmp x (l.take j) = false := hp1
    refine q_off (yi (t := 20) rfl rfl) ?_
    try simp only [opv, n1, n2, n3, n4, Value.cells]
    refine q_off (yi (t := 20) rfl rfl) ?_
    try simp only [opv, n1, n2, n3, n4, Value.cells]
    refine q_off (yi (t := 20) rfl rfl) ?_
    try simp only [opv, n1, n2, n3, n4, Value.cells]
    refine q_off (yi (t := 20) rfl rfl) ?_
    try simp only [opv, n1, n2, n3, n4, Value.cells]
    refine q_off (yi (t := 20) rfl rfl) ?_
    try simp only [opv, n1, n2, n3, n4, Value.cells]
    refine q_off (yi (t := 20) rfl rfl) ?_
    try simp only [opv, n1, n2, n3, n4, Value.cells]
    refine q_off (yi (t := 20) rfl rfl) ?_
    try simp only [opv, n1, n2, n3, n4, Value.cells]
    refine q_off (yi (t := 20) rfl rfl) ?_
    try simp only [opv, n1, n2, n3, n4, Value.cells]
    refine q_off (yi (t := 20) rfl rfl) ?_
    try simp only [opv, n1, n2, n3, n4, Value.cells]
    refine q_off (yi (t := 20) rfl rfl) ?_
    try simp only [opv, n1, n2, n3, n4, Value.cells]
    refine q_go (fun w hS => s_pick_f) ?_
    try simp only [opv, n1, n2, n3, n4, Value.cells]
    refine q_go (fun w hS => s_assign) ?_
    try simp only [opv, n1, n2, n3, n4, Value.cells]
    clear hS
    refine q_nil fun w2 hS => ?_
    refine hK13 _ _ ?_
    refine x_region ?_
    refine s_go (s_move) ?_
    try simp only [opv, n1, n2, n3, n4, Value.cells]
    refine s_go (s_add (hc := by exact wr_i64 (by omega) (by omega))) ?_
    try simp only [opv, n1, n2, n3, n4, Value.cells]
    refine s_go (s_assign) ?_
    try simp only [opv, n1, n2, n3, n4, Value.cells]
    refine x_nil ?_
    refine loop_back (m' := n - (j + 1)) (by simp only [clob, List.foldl, n1, n2, n3, n4]) ?_ ?_
    · try simp only [opv, n1, n2, n3, n4, Value.cells]
      exact ⟨j + 1, by omega, by omega, by rfl, congrArg Value.bool (by rw [topL_take (by omega), hb, hy]; simp), hS⟩
    · omega
  ·
   try simp only [decide_eq_true_eq, decide_eq_false_iff_not, Bool.not_eq_true', Bool.not_eq_false', Int.not_lt, Int.not_le, ne_eq, Decidable.not_not, bne_iff_ne, beq_iff_eq, not_true_eq_false, not_false_eq_true] at hc2
   obtain rfl : n = j := by omega
   rw [List.take_of_length_le (by omega)]
   refine x_exit (look_here ?_)
   refine hK9 _ _ ?_
   refine x_seq fun K14 hK14 => ?_
   refine x_region ?_
   refine s_go (s_move) ?_
   try simp only [opv, n1, n2, n3, n4, Value.cells]
   refine x_nil ?_
   refine hK14 _ _ ?_
   refine x_cond (ht := fun hc3 => ?_) (hf := fun hc3 => ?_)
   ·
    try simp only [decide_eq_true_eq, decide_eq_false_iff_not, Bool.not_eq_true', Bool.not_eq_false', Int.not_lt, Int.not_le, ne_eq, Decidable.not_not, bne_iff_ne, beq_iff_eq, not_true_eq_false, not_false_eq_true] at hc3
    have hst : pkL vcmp l (k + 1) = pkL vcmp l k ++ [(k : Int)] := by rw [pkL, hx, if_pos hc3]
    refine x_region ?_
    refine s_go (s_move) ?_
    try simp only [opv, n1, n2, n3, n4, Value.cells]
    refine s_go (s_move) ?_
    try simp only [opv, n1, n2, n3, n4, Value.cells]
    refine m_buildRow (cells := #[_]) Try.underlying32 ti3 (hc := by simp only [List.map_toArray, List.map_cons, List.map_nil, opv, n1, n2, n3, n4, Value.cells, List.toList_toArray]; (repeat (refine fill_cons rfl rfl (Nat.le_of_ble_eq_true rfl) ?_)); rfl) (hS := hS) (h := fun w3 g3 hS => ?_)
    try simp only [opv, n1, n2, n3, n4, Value.cells, Array.toArray_toList] at hS ⊢
    replace hS := hS.obj_vec (sz := 1) (n := 1) rfl (by decide) .head
    refine m_append_vec Try.underlying32 ti3 (hS := hS) (news := [(k : Int)].map (Value.int .i64)) (h := fun w4 A4 C4 hS => ?_)
    try simp only [← List.map_append, ← List.map_drop, ← List.map_take, Nat.mul_one, Nat.zero_mul, Nat.sub_zero, List.drop_zero, List.nil_append, Nat.zero_add] at hS ⊢
    try simp only [opv, n1, n2, n3, n4, Value.cells, Array.toArray_toList] at hS ⊢
    refine s_go (s_assign) ?_
    try simp only [opv, n1, n2, n3, n4, Value.cells]
    refine x_nil ?_
    refine hK7 _ _ ?_
    refine x_region ?_
    refine s_go (s_move) ?_
    try simp only [opv, n1, n2, n3, n4, Value.cells]
    refine s_go (s_add (hc := by exact wr_i64 (by omega) (by omega))) ?_
    try simp only [opv, n1, n2, n3, n4, Value.cells]
    refine s_go (s_assign) ?_
    try simp only [opv, n1, n2, n3, n4, Value.cells]
    refine x_nil ?_
    refine loop_back (m' := n - (k + 1)) (by simp only [clob, List.foldl, n1, n2, n3, n4]) ?_ ?_
    · try simp only [opv, n1, n2, n3, n4, Value.cells]
      exact ⟨k + 1, _, _, by omega, by omega, by rfl, by rw [hst, List.length_append]; rfl, by rw [hst, List.length_append]; exact hS.sel (by repeat (first | exact Sel.nil | (refine Sel.cons (by repeat (first | exact Del.head | apply Del.tail)) ?_)))⟩
    · omega
   ·
    try simp only [decide_eq_true_eq, decide_eq_false_iff_not, Bool.not_eq_true', Bool.not_eq_false', Int.not_lt, Int.not_le, ne_eq, Decidable.not_not, bne_iff_ne, beq_iff_eq, not_true_eq_false, not_false_eq_true] at hc3
    have hst : pkL vcmp l (k + 1) = pkL vcmp l k := by rw [pkL, hx, if_neg (by rw [hc3]; decide)]
    refine x_skip ?_
    refine hK7 _ _ ?_
    refine x_region ?_
    refine s_go (s_move) ?_
    try simp only [opv, n1, n2, n3, n4, Value.cells]
    refine s_go (s_add (hc := by exact wr_i64 (by omega) (by omega))) ?_
    try simp only [opv, n1, n2, n3, n4, Value.cells]
    refine s_go (s_assign) ?_
    try simp only [opv, n1, n2, n3, n4, Value.cells]
    refine x_nil ?_
    refine loop_back (m' := n - (k + 1)) (by simp only [clob, List.foldl, n1, n2, n3, n4]) ?_ ?_
    · try simp only [opv, n1, n2, n3, n4, Value.cells]
      exact ⟨k + 1, _, _, by omega, by omega, by rfl, by rw [hst], by rw [hst]; exact hS.sel (by repeat (first | exact Sel.nil | (refine Sel.cons (by repeat (exact Del.head)) ?_)))⟩
    · omega
 ·
  try simp only [decide_eq_true_eq, decide_eq_false_iff_not, Bool.not_eq_true', Bool.not_eq_false', Int.not_lt, Int.not_le, ne_eq, Decidable.not_not, bne_iff_ne, beq_iff_eq, not_true_eq_false, not_false_eq_true] at hc1
  obtain rfl : k = n := by omega
  refine x_exit (look_here ?_)
  refine hK3 _ _ ?_
  refine x_seq fun K15 hK15 => ?_
  refine x_region ?_
  refine s_go (s_move) ?_
  try simp only [opv, n1, n2, n3, n4, Value.cells]
  refine s_go (s_assign) ?_
  try simp only [opv, n1, n2, n3, n4, Value.cells]
  refine x_nil ?_
  refine hK15 _ _ ?_
  refine x_ret ?_
  refine r_tmp rfl ?_
  exact ⟨_, _, rfl, hS.sel (by repeat (first | exact Sel.nil | (refine Sel.cons (by repeat (exact Del.head)) ?_)))⟩
theorem c_ref12Times (w0 : World) (A : Option Addr) (n c : Nat) (l : List (List Int)) (hr : Rd w0 A 16 n (vrows l)) (hl : l.length = n) (hv : ∀ x ∈ l, x.length = 16) (hn : n ≤ 1000000) (x : List Int) (hx : x.length = 16)  :
    CallR Try.prog 22 #[.slice A n c, .agg (ic .u32 x)] w0 fun v w' => v = .int .i64 (l.count x : Int) ∧ Ext w0 w' := by
 have hS := St.rd1 (S := NoB) hr
 refine c_enter (l := [.slice A n c, .agg (ic .u32 x), undef, undef, undef, undef, undef, undef, undef, undef, undef, undef, undef, undef, undef, undef, undef, undef, undef, undef, undef, undef]) Try.func22 rfl (by simp only [Try.ntmps22, List.size_toArray, List.length_cons, List.length_nil, Nat.reduceAdd, Nat.reduceSub, Array.replicate_succ, Array.replicate_zero, List.push_toArray, List.append_toArray, List.nil_append, List.cons_append]) ?_
 refine x_seq fun K1 hK1 => ?_
 refine x_region ?_
 refine m_box hS (fun w1 g1 hS => ?_)
 try simp only [opv, n1, n2, n3, n4, Value.cells, Array.toArray_toList] at hS ⊢
 refine s_go (s_assign) ?_
 try simp only [opv, n1, n2, n3, n4, Value.cells]
 refine x_nil ?_
 refine hK1 _ _ ?_
 refine x_seq fun K2 hK2 => ?_
 refine x_region ?_
 refine s_go (s_assign) ?_
 try simp only [opv, n1, n2, n3, n4, Value.cells]
 refine x_nil ?_
 refine hK2 _ _ ?_
 refine x_seq fun K3 hK3 => ?_
 refine x_seq fun K4 hK4 => ?_
 refine x_region ?_
 refine s_go (s_assign) ?_
 try simp only [opv, n1, n2, n3, n4, Value.cells]
 refine x_nil ?_
 refine hK4 _ _ ?_
 refine x_block ?_
 refine x_loop [5, 6, 7, 8, 9, 10, 11, 12, 13, 14, 15, 16, 17, 18, 19, 20] (fun m f w => ∃ k : Nat, k ≤ n ∧ m = n - k ∧ f 6 = .int .i64 (k : Int) ∧ f 5 = .int .i64 ((l.take k).count x : Int) ∧ St NoB w0 w [.obj g1 (.cells (ic .u32 x) 26 (0, 0)), .rd A 16 n (vrows l)]) (n) ?init1 (fun m1 f1 wl1 hI => ?_)
 case init1 =>
  try simp only [opv, n1, n2, n3, n4, Value.cells]
  exact ⟨0, by omega, rfl, rfl, rfl, hS⟩
 obtain ⟨k, hk, hm, h6, h5, hS⟩ := hI
 simp only [clob, List.foldl, n3, n4, h6, h5]
 obtain ⟨y, hy⟩ : ∃ y, l.getD k [] = y := ⟨_, rfl⟩
 have hvl := vrows_len l
 have hct := cnt_le (x := x) (l := l) (k := k)
 rw [List.count_reverse] at hct
 refine x_seq fun K5 hK5 => ?_
 refine x_seq fun K6 hK6 => ?_
 refine x_region ?_
 refine s_go (s_move) ?_
 try simp only [opv, n1, n2, n3, n4, Value.cells]
 refine s_go (s_move) ?_
 try simp only [opv, n1, n2, n3, n4, Value.cells]
 refine s_go (s_len_sl Try.underlying22) ?_
 try simp only [opv, n1, n2, n3, n4, Value.cells]
 refine s_go (s_lss) ?_
 try simp only [opv, n1, n2, n3, n4, Value.cells]
 refine x_nil ?_
 refine hK6 _ _ ?_
 refine x_cond (ht := fun hc1 => ?_) (hf := fun hc1 => ?_)
 ·
  try simp only [decide_eq_true_eq, decide_eq_false_iff_not, Bool.not_eq_true', Bool.not_eq_false', Int.not_lt, Int.not_le, ne_eq, Decidable.not_not, bne_iff_ne, beq_iff_eq, not_true_eq_false, not_false_eq_true] at hc1
  have hy16 : y.length = 16 := by rw [← hy]; exact hv _ (getD_mem' (by omega))
  refine x_skip ?_
  refine hK5 _ _ ?_
  refine x_seq fun K7 hK7 => ?_
  refine x_block ?_
  refine x_seq fun K8 hK8 => ?_
  refine x_quiet (by kernel_rfl) (by kernel_rfl) hS ?_
  refine q_go (fun w hS => s_move) ?_
  try simp only [opv, n1, n2, n3, n4, Value.cells]
  refine q_go (fun w hS => s_move) ?_
  try simp only [opv, n1, n2, n3, n4, Value.cells]
  refine q_go (fun w hS => m_indexAddr_rd Try.underlying22 ti26 (hS := hS)) ?_
  try simp only [opv, n1, n2, n3, n4, Value.cells, Nat.mul_one, Nat.zero_add, Int.toNat_natCast, Int.reduceToNat]
  refine q_go (fun w hS => m_loada_rd Try.underlying26 (hi := ti26) (hS := hS) (hfit := by rw [vrows_len]; omega)) ?_
  try simp only [opv, n1, n2, n3, n4, Value.cells, List.getElem_toArray, List.getElem_cons_zero, List.getElem_cons_succ]
  rw [vrow_get (by omega) hv, hy]
  refine q_go (fun w hS => m_load_row Try.underlying26 (hi := ti26) (hS := hS)) ?_
  try simp only [opv, n1, n2, n3, n4, Value.cells, List.getElem_toArray, List.getElem_cons_zero, List.getElem_cons_succ]
  refine q_go (fun w hS => s_eql_agg eqv26 (hg := eg26) (hX := zi_ic (by assumption)) (hY := zi_ic (by assumption)) (h1 := by assumption) (h2 := by assumption)) ?_
  try simp only [opv, n1, n2, n3, n4, Value.cells]
  clear hS
  refine q_nil fun w2 hS => ?_
  refine hK8 _ _ ?_
  refine x_cond (ht := fun hc2 => ?_) (hf := fun hc2 => ?_)
  ·
   try simp only [decide_eq_true_eq, decide_eq_false_iff_not, Bool.not_eq_true', Bool.not_eq_false', Int.not_lt, Int.not_le, ne_eq, Decidable.not_not, bne_iff_ne, beq_iff_eq, not_true_eq_false, not_false_eq_true] at hc2
   have hyx : y = x := hc2
   refine x_region ?_
   refine s_go (s_move) ?_
   try simp only [opv, n1, n2, n3, n4, Value.cells]
   refine s_go (s_add (hc := by exact wr_i64 (by omega) (by omega))) ?_
   try simp only [opv, n1, n2, n3, n4, Value.cells]
   refine s_go (s_assign) ?_
   try simp only [opv, n1, n2, n3, n4, Value.cells]
   refine x_nil ?_
   refine hK7 _ _ ?_
   refine x_region ?_
   refine s_go (s_move) ?_
   try simp only [opv, n1, n2, n3, n4, Value.cells]
   refine s_go (s_add (hc := by exact wr_i64 (by omega) (by omega))) ?_
   try simp only [opv, n1, n2, n3, n4, Value.cells]
   refine s_go (s_assign) ?_
   try simp only [opv, n1, n2, n3, n4, Value.cells]
   refine x_nil ?_
   refine loop_back (m' := n - (k + 1)) (by simp only [clob, List.foldl, n1, n2, n3, n4]) ?_ ?_
   · try simp only [opv, n1, n2, n3, n4, Value.cells]
     exact ⟨k + 1, by omega, by omega, by rfl, congrArg (Value.int .i64) (by rw [count_take (by omega), hy, if_pos hyx]; omega), hS⟩
   · omega
  ·
   try simp only [decide_eq_true_eq, decide_eq_false_iff_not, Bool.not_eq_true', Bool.not_eq_false', Int.not_lt, Int.not_le, ne_eq, Decidable.not_not, bne_iff_ne, beq_iff_eq, not_true_eq_false, not_false_eq_true] at hc2
   have hyx : ¬ y = x := hc2
   refine x_skip ?_
   refine hK7 _ _ ?_
   refine x_region ?_
   refine s_go (s_move) ?_
   try simp only [opv, n1, n2, n3, n4, Value.cells]
   refine s_go (s_add (hc := by exact wr_i64 (by omega) (by omega))) ?_
   try simp only [opv, n1, n2, n3, n4, Value.cells]
   refine s_go (s_assign) ?_
   try simp only [opv, n1, n2, n3, n4, Value.cells]
   refine x_nil ?_
   refine loop_back (m' := n - (k + 1)) (by simp only [clob, List.foldl, n1, n2, n3, n4]) ?_ ?_
   · try simp only [opv, n1, n2, n3, n4, Value.cells]
     exact ⟨k + 1, by omega, by omega, by rfl, congrArg (Value.int .i64) (by rw [count_take (by omega), hy, if_neg hyx]; omega), hS⟩
   · omega
 ·
  try simp only [decide_eq_true_eq, decide_eq_false_iff_not, Bool.not_eq_true', Bool.not_eq_false', Int.not_lt, Int.not_le, ne_eq, Decidable.not_not, bne_iff_ne, beq_iff_eq, not_true_eq_false, not_false_eq_true] at hc1
  obtain rfl : k = n := by omega
  rw [List.take_of_length_le (by omega)]
  refine x_exit (look_here ?_)
  refine hK3 _ _ ?_
  refine x_seq fun K9 hK9 => ?_
  refine x_region ?_
  refine s_go (s_move) ?_
  try simp only [opv, n1, n2, n3, n4, Value.cells]
  refine s_go (s_assign) ?_
  try simp only [opv, n1, n2, n3, n4, Value.cells]
  refine x_nil ?_
  refine hK9 _ _ ?_
  refine x_ret ?_
  refine r_tmp rfl ?_
  exact ⟨rfl, hS.ext_of⟩
theorem c_ref01Same (w0 : World) (A B : Option Addr) (n m c d : Nat) (a b : List Int) (ha : Rd w0 A 1 n (a.map (Value.int .i64))) (hb : Rd w0 B 1 m (b.map (Value.int .i64))) (hal : a.length = n) (hbl : b.length = m) (hn : n ≤ 140737488355328) :
    CallR Try.prog 23 #[.slice A n c, .slice B m d] w0 fun v w' => v = .bool (decide (a = b)) ∧ Ext w0 w' := by
 have hS := St.rd2 (S := NoB) ha hb
 refine c_enter (l := [.slice A n c, .slice B m d, undef, undef, undef, undef, undef, undef, undef, undef, undef, undef, undef, undef, undef, undef, undef, undef, undef, undef, undef, undef, undef, undef, undef, undef]) Try.func23 rfl (by simp only [Try.ntmps23, List.size_toArray, List.length_cons, List.length_nil, Nat.reduceAdd, Nat.reduceSub, Array.replicate_succ, Array.replicate_zero, List.push_toArray, List.append_toArray, List.nil_append, List.cons_append]) ?_
 refine x_seq fun K1 hK1 => ?_
 refine x_region ?_
 refine s_go (s_assign) ?_
 try simp only [opv, n1, n2, n3, n4, Value.cells]
 refine x_nil ?_
 refine hK1 _ _ ?_
 refine x_seq fun K2 hK2 => ?_
 refine x_seq fun K3 hK3 => ?_
 refine x_region ?_
 refine s_go (s_move) ?_
 try simp only [opv, n1, n2, n3, n4, Value.cells]
 refine s_go (s_len_sl Try.underlying32) ?_
 try simp only [opv, n1, n2, n3, n4, Value.cells]
 refine s_go (s_move) ?_
 try simp only [opv, n1, n2, n3, n4, Value.cells]
 refine s_go (s_len_sl Try.underlying32) ?_
 try simp only [opv, n1, n2, n3, n4, Value.cells]
 refine s_go (s_neq) ?_
 try simp only [opv, n1, n2, n3, n4, Value.cells]
 refine x_nil ?_
 refine hK3 _ _ ?_
 refine x_cond (ht := fun hc1 => ?_) (hf := fun hc1 => ?_)
 ·
  try simp only [decide_eq_true_eq, decide_eq_false_iff_not, Bool.not_eq_true', Bool.not_eq_false', Int.not_lt, Int.not_le, ne_eq, Decidable.not_not, bne_iff_ne, beq_iff_eq, not_true_eq_false, not_false_eq_true] at hc1
  have hne : ¬ a = b := fun h => by subst h; omega
  refine x_seq fun K4 hK4 => ?_
  refine x_region ?_
  refine s_go (s_assign) ?_
  try simp only [opv, n1, n2, n3, n4, Value.cells]
  refine x_nil ?_
  refine hK4 _ _ ?_
  refine x_ret ?_
  refine r_tmp rfl ?_
  exact ⟨by simp [hne], hS.ext_of⟩
 ·
  try simp only [decide_eq_true_eq, decide_eq_false_iff_not, Bool.not_eq_true', Bool.not_eq_false', Int.not_lt, Int.not_le, ne_eq, Decidable.not_not, bne_iff_ne, beq_iff_eq, not_true_eq_false, not_false_eq_true] at hc1
  obtain rfl : n = m := by omega
  refine x_skip ?_
  refine hK2 _ _ ?_
  refine x_seq fun K5 hK5 => ?_
  refine x_seq fun K6 hK6 => ?_
  refine x_region ?_
  refine s_go (s_assign) ?_
  try simp only [opv, n1, n2, n3, n4, Value.cells]
  refine x_nil ?_
  refine hK6 _ _ ?_
  refine x_block ?_
  refine x_loop [4, 5, 11, 12, 13, 14, 15, 16, 17, 18, 19, 20, 21, 22, 23, 24, 25] (fun m f w => ∃ k : Nat, k ≤ n ∧ m = n - k ∧ f 5 = .int .i64 (k : Int) ∧ a.take k = b.take k ∧ St NoB w0 w [.rd A 1 n (a.map (Value.int .i64)), .rd B 1 n (b.map (Value.int .i64))]) (n) ?init1 (fun m1 f1 wl1 hI => ?_)
  case init1 =>
   try simp only [opv, n1, n2, n3, n4, Value.cells]
   exact ⟨0, by omega, rfl, rfl, rfl, hS⟩
  obtain ⟨k, hk, hm, h5, hab, hS⟩ := hI
  simp only [clob, List.foldl, n3, n4, h5]
  refine x_seq fun K7 hK7 => ?_
  refine x_seq fun K8 hK8 => ?_
  refine x_region ?_
  refine s_go (s_move) ?_
  try simp only [opv, n1, n2, n3, n4, Value.cells]
  refine s_go (s_move) ?_
  try simp only [opv, n1, n2, n3, n4, Value.cells]
  refine s_go (s_len_sl Try.underlying32) ?_
  try simp only [opv, n1, n2, n3, n4, Value.cells]
  refine s_go (s_lss) ?_
  try simp only [opv, n1, n2, n3, n4, Value.cells]
  refine x_nil ?_
  refine hK8 _ _ ?_
  refine x_cond (ht := fun hc2 => ?_) (hf := fun hc2 => ?_)
  ·
   try simp only [decide_eq_true_eq, decide_eq_false_iff_not, Bool.not_eq_true', Bool.not_eq_false', Int.not_lt, Int.not_le, ne_eq, Decidable.not_not, bne_iff_ne, beq_iff_eq, not_true_eq_false, not_false_eq_true] at hc2
   refine x_skip ?_
   refine hK7 _ _ ?_
   refine x_seq fun K9 hK9 => ?_
   refine x_block ?_
   refine x_seq fun K10 hK10 => ?_
   refine x_quiet (by kernel_rfl) (by kernel_rfl) hS ?_
   refine q_go (fun w hS => s_move) ?_
   try simp only [opv, n1, n2, n3, n4, Value.cells]
   refine q_go (fun w hS => s_move) ?_
   try simp only [opv, n1, n2, n3, n4, Value.cells]
   refine q_go (fun w hS => m_indexAddr_rd Try.underlying32 ti3 (hS := hS)) ?_
   try simp only [opv, n1, n2, n3, n4, Value.cells, Nat.mul_one, Nat.zero_add, Int.toNat_natCast, Int.reduceToNat]
   refine q_go (fun w hS => m_load_rd Try.underlying3 (hS := hS)) ?_
   try simp only [opv, n1, n2, n3, n4, Value.cells, List.getElem_toArray, List.getElem_cons_zero, List.getElem_cons_succ]
   refine q_go (fun w hS => s_move) ?_
   try simp only [opv, n1, n2, n3, n4, Value.cells]
   refine q_go (fun w hS => s_move) ?_
   try simp only [opv, n1, n2, n3, n4, Value.cells]
   refine q_go (fun w hS => m_indexAddr_rd Try.underlying32 ti3 (hS := hS)) ?_
   try simp only [opv, n1, n2, n3, n4, Value.cells, Nat.mul_one, Nat.zero_add, Int.toNat_natCast, Int.reduceToNat]
   refine q_go (fun w hS => m_load_rd Try.underlying3 (hS := hS)) ?_
   try simp only [opv, n1, n2, n3, n4, Value.cells, List.getElem_toArray, List.getElem_cons_zero, List.getElem_cons_succ]
   refine q_go (fun w hS => s_neq) ?_
   try simp only [opv, n1, n2, n3, n4, Value.cells]
   clear hS
   refine q_nil fun w1 hS => ?_
   refine hK10 _ _ ?_
   refine x_cond (ht := fun hc3 => ?_) (hf := fun hc3 => ?_)
   ·
    try simp only [decide_eq_true_eq, decide_eq_false_iff_not, Bool.not_eq_true', Bool.not_eq_false', Int.not_lt, Int.not_le, ne_eq, Decidable.not_not, bne_iff_ne, beq_iff_eq, not_true_eq_false, not_false_eq_true] at hc3
    have hne : ¬ a = b := fun h => by subst h; exact hc3 rfl
    refine x_seq fun K11 hK11 => ?_
    refine x_region ?_
    refine s_go (s_assign) ?_
    try simp only [opv, n1, n2, n3, n4, Value.cells]
    refine x_nil ?_
    refine hK11 _ _ ?_
    refine x_ret ?_
    refine r_tmp rfl ?_
    exact ⟨by simp [hne], hS.ext_of⟩
   ·
    try simp only [decide_eq_true_eq, decide_eq_false_iff_not, Bool.not_eq_true', Bool.not_eq_false', Int.not_lt, Int.not_le, ne_eq, Decidable.not_not, bne_iff_ne, beq_iff_eq, not_true_eq_false, not_false_eq_true] at hc3
    refine x_skip ?_
    refine hK9 _ _ ?_
    refine x_region ?_
    refine s_go (s_move) ?_
    try simp only [opv, n1, n2, n3, n4, Value.cells]
    refine s_go (s_add (hc := by exact wr_i64 (by omega) (by omega))) ?_
    try simp only [opv, n1, n2, n3, n4, Value.cells]
    refine s_go (s_assign) ?_
    try simp only [opv, n1, n2, n3, n4, Value.cells]
    refine x_nil ?_
    refine loop_back (m' := n - (k + 1)) (by simp only [clob, List.foldl, n1, n2, n3, n4]) ?_ ?_
    · try simp only [opv, n1, n2, n3, n4, Value.cells]
      exact ⟨k + 1, by omega, by omega, by rfl, by rw [take_succ_getD (by omega), take_succ_getD (by omega), hab, hc3], hS⟩
    · omega
  ·
   try simp only [decide_eq_true_eq, decide_eq_false_iff_not, Bool.not_eq_true', Bool.not_eq_false', Int.not_lt, Int.not_le, ne_eq, Decidable.not_not, bne_iff_ne, beq_iff_eq, not_true_eq_false, not_false_eq_true] at hc2
   obtain rfl : k = n := by omega
   have heq : a = b := by rw [← List.take_length (l := a), ← List.take_length (l := b), hal, hbl]; exact hab
   refine x_exit (look_here ?_)
   refine hK5 _ _ ?_
   refine x_seq fun K12 hK12 => ?_
   refine x_region ?_
   refine s_go (s_assign) ?_
   try simp only [opv, n1, n2, n3, n4, Value.cells]
   refine x_nil ?_
   refine hK12 _ _ ?_
   refine x_ret ?_
   refine r_tmp rfl ?_
   exact ⟨by simp [heq], hS.ext_of⟩
end Go.Proofs.Ytpjpaipkkcengaa
set_option linter.unusedSimpArgs false
set_option linter.unusedVariables false
set_option maxHeartbeats 4000000
set_option maxRecDepth 100000
namespace Go.Proofs.Ytpjpaipkkcengaa
open Go.RowKit
theorem c_VecCounts (w0 : World) (A : Option Addr) (n c : Nat) (l : List (List Int)) (hr : Rd w0 A 16 n (vrows l)) (hl : l.length = n) (hv : ∀ x ∈ l, x.length = 16) (hn : n ≤ 9000000000000000) (hnc : n ≤ c)  :
    CallR Try.prog 3 #[.slice A n c] w0 fun v w' => v = .bool true ∧ Ext w0 w' := by
 have hS := St.rd1 (S := NoB) hr
 have hvl := vrows_len l
 refine c_enter (l := [.slice A n c, undef, undef, undef, undef, undef, undef, undef, undef, undef, undef, undef, undef, undef, undef, undef, undef, undef, undef, undef, undef, undef, undef, undef, undef, undef, undef, undef, undef, undef, undef, undef, undef, undef, undef, undef, undef, undef, undef, undef, undef, undef, undef, undef, undef, undef, undef, undef, undef, undef, undef, undef, undef, undef, undef, undef, undef, undef, undef, undef, undef, undef, undef, undef, undef, undef, undef, undef, undef, undef, undef]) Try.func3 rfl (by simp only [Try.ntmps3, List.size_toArray, List.length_cons, List.length_nil, Nat.reduceAdd, Nat.reduceSub, Array.replicate_succ, Array.replicate_zero, List.push_toArray, List.append_toArray, List.nil_append, List.cons_append]) ?_
 refine x_seq fun K1 hK1 => ?_
 refine x_region ?_
 refine s_go (s_assign) ?_
 try simp only [opv, n1, n2, n3, n4, Value.cells]
 refine x_nil ?_
 refine hK1 _ _ ?_
 refine x_seq fun K2 hK2 => ?_
 refine x_seq fun K3 hK3 => ?_
 refine x_region ?_
 refine s_go (s_move) ?_
 try simp only [opv, n1, n2, n3, n4, Value.cells]
 refine s_go (s_len_sl Try.underlying22) ?_
 try simp only [opv, n1, n2, n3, n4, Value.cells]
 refine s_go (s_gtr) ?_
 try simp only [opv, n1, n2, n3, n4, Value.cells]
 refine x_nil ?_
 refine hK3 _ _ ?_
 refine x_cond (ht := fun hc1 => ?_) (hf := fun hc1 => ?_)
 ·
  try simp only [decide_eq_true_eq, decide_eq_false_iff_not, Bool.not_eq_true', Bool.not_eq_false', Int.not_lt, Int.not_le, ne_eq, Decidable.not_not, bne_iff_ne, beq_iff_eq, not_true_eq_false, not_false_eq_true] at hc1
  refine x_seq fun K4 hK4 => ?_
  refine x_region ?_
  refine s_call en20 ?_
  try simp only [opv, n1, n2, n3, n4, Value.cells, List.map_toArray, List.map_cons, List.map_nil, List.append_toArray, List.cons_append, List.nil_append, Array.append_empty]
  refine CallR.mono (c_law12alive _) ?_
  rintro _ w1 ⟨rfl, hE1⟩
  replace hS := hS.ext hE1
  try simp only [opv, n1, n2, n3, n4, Value.cells]
  refine s_go (s_assign) ?_
  try simp only [opv, n1, n2, n3, n4, Value.cells]
  refine x_nil ?_
  refine hK4 _ _ ?_
  refine x_ret ?_
  refine r_tmp rfl ?_
  exact ⟨rfl, hS.ext_of⟩
 ·
  try simp only [decide_eq_true_eq, decide_eq_false_iff_not, Bool.not_eq_true', Bool.not_eq_false', Int.not_lt, Int.not_le, ne_eq, Decidable.not_not, bne_iff_ne, beq_iff_eq, not_true_eq_false, not_false_eq_true] at hc1
  have hn20 : n ≤ 20 := by omega
  refine x_skip ?_
  refine hK2 _ _ ?_
  refine x_seq fun K5 hK5 => ?_
  refine x_region ?_
  refine s_go (s_assign) ?_
  try simp only [opv, n1, n2, n3, n4, Value.cells]
  refine x_nil ?_
  refine hK5 _ _ ?_
  refine x_seq fun K6 hK6 => ?_
  refine x_seq fun K7 hK7 => ?_
  refine x_region ?_
  refine s_go (s_assign) ?_
  try simp only [opv, n1, n2, n3, n4, Value.cells]
  refine x_nil ?_
  refine hK7 _ _ ?_
  refine x_block ?_
  refine x_loop [3, 4, 12, 13, 14, 15, 16, 17, 18, 19, 20, 21, 22, 23, 24] (fun m f w => ∃ (k : Nat) (B : Option Addr) (d : Nat), k ≤ n ∧ m = n - k ∧ f 4 = .int .i64 (k : Int) ∧ f 3 = .slice B k d ∧ St NoB w0 w [.vec B d 27 16 k (vrows (l.take k)), .rd A 16 n (vrows l)]) (n) ?init1 (fun m1 f1 wl1 hI => ?_)
  case init1 =>
   try simp only [opv, n1, n2, n3, n4, Value.cells]
   replace hS := hS.nil_vec 27 16
   exact ⟨0, none, 0, by omega, rfl, rfl, rfl, hS⟩
  obtain ⟨k, B, d, hk, hm, h4, h3, hS⟩ := hI
  simp only [clob, List.foldl, n3, n4, h4, h3]
  obtain ⟨x, hx⟩ : ∃ x, l.getD k [] = x := ⟨_, rfl⟩
  refine x_seq fun K8 hK8 => ?_
  refine x_seq fun K9 hK9 => ?_
  refine x_region ?_
  refine s_go (s_move) ?_
  try simp only [opv, n1, n2, n3, n4, Value.cells]
  refine s_go (s_move) ?_
  try simp only [opv, n1, n2, n3, n4, Value.cells]
  refine s_go (s_len_sl Try.underlying22) ?_
  try simp only [opv, n1, n2, n3, n4, Value.cells]
  refine s_go (s_lss) ?_
  try simp only [opv, n1, n2, n3, n4, Value.cells]
  refine x_nil ?_
  refine hK9 _ _ ?_
  refine x_cond (ht := fun hc2 => ?_) (hf := fun hc2 => ?_)
  ·
   try simp only [decide_eq_true_eq, decide_eq_false_iff_not, Bool.not_eq_true', Bool.not_eq_false', Int.not_lt, Int.not_le, ne_eq, Decidable.not_not, bne_iff_ne, beq_iff_eq, not_true_eq_false, not_false_eq_true] at hc2
   have hx16 : x.length = 16 := by rw [← hx]; exact hv _ (getD_mem' (by omega))
   refine x_skip ?_
   refine hK8 _ _ ?_
   refine x_seq fun K10 hK10 => ?_
   refine x_block ?_
   refine x_region ?_
   refine s_go (s_move) ?_
   try simp only [opv, n1, n2, n3, n4, Value.cells]
   refine s_go (s_move) ?_
   try simp only [opv, n1, n2, n3, n4, Value.cells]
   refine s_go (s_move) ?_
   try simp only [opv, n1, n2, n3, n4, Value.cells]
   refine s_go (m_indexAddr_rd Try.underlying22 ti26 (hS := hS)) ?_
   try simp only [opv, n1, n2, n3, n4, Value.cells, Nat.mul_one, Nat.zero_add, Int.toNat_natCast, Int.reduceToNat]
   refine s_go (m_loada_rd Try.underlying26 (hi := ti26) (hS := hS) (hfit := by rw [vrows_len]; omega)) ?_
   try simp only [opv, n1, n2, n3, n4, Value.cells, List.getElem_toArray, List.getElem_cons_zero, List.getElem_cons_succ]
   rw [vrow_get (by omega) hv, hx]
   refine m_buildRow (cells := ic .u32 x) Try.underlying24 ti27 (hc := by simp only [List.map_toArray, List.map_cons, List.map_nil, opv, n1, n2, n3, n4, Value.cells, List.toList_toArray]; exact fill_one rfl (by rw [ic_size]; exact hx16) rfl) (hS := hS) (h := fun w2 g2 hS => ?_)
   try simp only [opv, n1, n2, n3, n4, Value.cells, Array.toArray_toList] at hS ⊢
   replace hS := hS.obj_rd (sz := 16) (n := 1) (by rw [ic_size, hx16]) .head
   rw [vrow_one hx16] at hS
   refine m_append Try.underlying24 ti27 (hS := hS) (h1 := rowsZ_cells _ _) (h := fun w3 A3 C3 hS => ?_)
   try simp only [← List.map_append, ← List.map_drop, ← List.map_take, Nat.mul_one, Nat.zero_mul, Nat.sub_zero, List.drop_zero, List.nil_append, Nat.zero_add] at hS ⊢
   try simp only [opv, n1, n2, n3, n4, Value.cells, Array.toArray_toList] at hS ⊢
   refine s_go (s_assign) ?_
   try simp only [opv, n1, n2, n3, n4, Value.cells]
   refine x_nil ?_
   refine hK10 _ _ ?_
   refine x_region ?_
   refine s_go (s_move) ?_
   try simp only [opv, n1, n2, n3, n4, Value.cells]
   refine s_go (s_add (hc := by exact wr_i64 (by omega) (by omega))) ?_
   try simp only [opv, n1, n2, n3, n4, Value.cells]
   refine s_go (s_assign) ?_
   try simp only [opv, n1, n2, n3, n4, Value.cells]
   refine x_nil ?_
   refine loop_back (m' := n - (k + 1)) (by simp only [clob, List.foldl, n1, n2, n3, n4]) ?_ ?_
   · try simp only [opv, n1, n2, n3, n4, Value.cells]
     rw [← rowsZ_app, ← hx, ← take_snoc (by omega)] at hS
     exact ⟨k + 1, _, _, by omega, by omega, by rfl, by rfl, hS.sel (by repeat (first | exact Sel.nil | (refine Sel.cons (by repeat (first | exact Del.head | apply Del.tail)) ?_)))⟩
   · omega
  ·
   try simp only [decide_eq_true_eq, decide_eq_false_iff_not, Bool.not_eq_true', Bool.not_eq_false', Int.not_lt, Int.not_le, ne_eq, Decidable.not_not, bne_iff_ne, beq_iff_eq, not_true_eq_false, not_false_eq_true] at hc2
   obtain rfl : k = n := by omega
   rw [List.take_of_length_le (by omega)] at hS
   replace hS := hS.vec_rd (by exact Upd.head)
   refine x_exit (look_here ?_)
   refine hK6 _ _ ?_
   refine x_seq fun K11 hK11 => ?_
   refine x_region ?_
   refine s_go (s_move) ?_
   try simp only [opv, n1, n2, n3, n4, Value.cells]
   refine s_call en21 ?_
   try simp only [opv, n1, n2, n3, n4, Value.cells, List.map_toArray, List.map_cons, List.map_nil, List.append_toArray, List.cons_append, List.nil_append, Array.append_empty]
   refine CallR.mono (c_vecCount _ B k d l (hS.hasRd (by repeat (exact Has.head))) hl hv (by omega)) ?_
   rintro _ w4 ⟨g, rfl, hC4⟩
   replace hS := hS.call hC4
   simp only [List.cons_append, List.nil_append] at hS
   have hok : MOk (fun xs : List Int => xs.length = 16) (cntR l.reverse) := cnt_ok (fun y hy => hv y (List.mem_reverse.1 hy))
   try simp only [opv, n1, n2, n3, n4, Value.cells]
   refine s_go (s_assign) ?_
   try simp only [opv, n1, n2, n3, n4, Value.cells]
   refine x_nil ?_
   refine hK11 _ _ ?_
   refine x_seq fun K12 hK12 => ?_
   refine x_region ?_
   refine s_go (s_assign) ?_
   try simp only [opv, n1, n2, n3, n4, Value.cells]
   refine x_nil ?_
   refine hK12 _ _ ?_
   refine x_seq fun K13 hK13 => ?_
   refine x_seq fun K14 hK14 => ?_
   refine x_region ?_
   refine s_go (s_assign) ?_
   try simp only [opv, n1, n2, n3, n4, Value.cells]
   refine x_nil ?_
   refine hK14 _ _ ?_
   refine x_block ?_
   refine x_loop [2, 6, 7, 27, 28, 29, 30, 31, 32, 33, 34, 35, 36, 37, 38, 39, 40, 41, 42, 43, 44, 45, 46, 47, 48, 49, 50, 51, 52, 53, 54, 55, 56] (fun m f w => ∃ j : Nat, j ≤ k ∧ m = k - j ∧ f 7 = .int .i64 (j : Int) ∧ f 6 = .int .i64 ((cntR (l.take j).reverse).length : Int) ∧ St NoB w0 w [.obj g (mObj kv27 (cntR l.reverse)), .rd B 16 k (vrows l), .rd A 16 k (vrows l)]) (k) ?init2 (fun m2 f2 wl2 hI => ?_)
   case init2 =>
    try simp only [opv, n1, n2, n3, n4, Value.cells]
    exact ⟨0, by omega, rfl, rfl, rfl, hS⟩
   obtain ⟨j, hj, hm2, h7, h6, hS⟩ := hI
   simp only [clob, List.foldl, n3, n4, h7, h6]
   obtain ⟨y, hy⟩ : ∃ y, l.getD j [] = y := ⟨_, rfl⟩
   have hcl := cnt_lle l j
   refine x_seq fun K15 hK15 => ?_
   refine x_seq fun K16 hK16 => ?_
   refine x_region ?_
   refine s_go (s_move) ?_
   try simp only [opv, n1, n2, n3, n4, Value.cells]
   refine s_go (s_move) ?_
   try simp only [opv, n1, n2, n3, n4, Value.cells]
   refine s_go (s_len_sl Try.underlying22) ?_
   try simp only [opv, n1, n2, n3, n4, Value.cells]
   refine s_go (s_lss) ?_
   try simp only [opv, n1, n2, n3, n4, Value.cells]
   refine x_nil ?_
   refine hK16 _ _ ?_
   refine x_cond (ht := fun hc3 => ?_) (hf := fun hc3 => ?_)
   ·
    try simp only [decide_eq_true_eq, decide_eq_false_iff_not, Bool.not_eq_true', Bool.not_eq_false', Int.not_lt, Int.not_le, ne_eq, Decidable.not_not, bne_iff_ne, beq_iff_eq, not_true_eq_false, not_false_eq_true] at hc3
    have hy16 : y.length = 16 := by rw [← hy]; exact hv _ (getD_mem' (by omega))
    refine x_skip ?_
    refine hK15 _ _ ?_
    refine x_seq fun K17 hK17 => ?_
    refine x_block ?_
    refine x_seq fun K18 hK18 => ?_
    refine x_seq fun K19 hK19 => ?_
    refine x_quiet (by kernel_rfl) (by kernel_rfl) hS ?_
    refine q_go (fun w hS => s_move) ?_
    try simp only [opv, n1, n2, n3, n4, Value.cells]
    refine q_go (fun w hS => s_move) ?_
    try simp only [opv, n1, n2, n3, n4, Value.cells]
    refine q_go (fun w hS => s_move) ?_
    try simp only [opv, n1, n2, n3, n4, Value.cells]
    refine q_go (fun w hS => m_indexAddr_rd Try.underlying24 ti27 (hS := hS)) ?_
    try simp only [opv, n1, n2, n3, n4, Value.cells, Nat.mul_one, Nat.zero_add, Int.toNat_natCast, Int.reduceToNat]
    refine q_go (fun w hS => m_loada_rd Try.underlying27 (hi := ti27) (hS := hS) (hfit := by rw [vrows_len]; omega)) ?_
    try simp only [opv, n1, n2, n3, n4, Value.cells, List.getElem_toArray, List.getElem_cons_zero, List.getElem_cons_succ]
    rw [vrow_get (by omega) hv, hy]
    refine q_go (fun w hS => m_lookup ky27 Try.underlying28 ti3 (hy := rfl) (ha := by trivial) (hD := by assumption) (hS := hS)) ?_
    try simp only [opv, n1, n2, n3, n4, Value.cells]
    rw [cnt_getD, List.count_reverse]
    refine q_go (fun w hS => s_move) ?_
    try simp only [opv, n1, n2, n3, n4, Value.cells]
    refine q_go (fun w hS => s_move) ?_
    try simp only [opv, n1, n2, n3, n4, Value.cells]
    refine q_go (fun w hS => s_move) ?_
    try simp only [opv, n1, n2, n3, n4, Value.cells]
    refine q_go (fun w hS => m_indexAddr_rd Try.underlying22 ti26 (hS := hS)) ?_
    try simp only [opv, n1, n2, n3, n4, Value.cells, Nat.mul_one, Nat.zero_add, Int.toNat_natCast, Int.reduceToNat]
    refine q_go (fun w hS => m_loada_rd Try.underlying26 (hi := ti26) (hS := hS) (hfit := by rw [vrows_len]; omega)) ?_
    try simp only [opv, n1, n2, n3, n4, Value.cells, List.getElem_toArray, List.getElem_cons_zero, List.getElem_cons_succ]
    rw [vrow_get (by omega) hv, hy]
    apply q_call en22
    case H =>
      intro w hS
      try simp only [opv, n1, n2, n3, n4, List.map_toArray, List.map_cons, List.map_nil, List.append_toArray, List.cons_append, List.nil_append, Array.append_empty]
      refine CallR.mono (c_ref12Times _ _ k _ l (hS.hasRd (by repeat (first | exact Has.head | apply Has.tail))) hl hv (by omega) y hy16) ?_
      rintro _ w1 ⟨rfl, hE⟩; exact ⟨rfl, hS.ext hE⟩
    try simp only [opv, n1, n2, n3, n4, Value.cells]
    refine q_go (fun w hS => s_neq) ?_
    try simp only [opv, n1, n2, n3, n4, Value.cells]
    try simp only [ne_eq, not_true_eq_false, decide_false, eq_self, decide_true]
    clear hS
    refine q_nil fun w5 hS => ?_
    refine hK19 _ _ ?_
    refine x_cond_f (h := ?_)
    refine x_skip ?_
    refine hK18 _ _ ?_
    refine x_seq fun K20 hK20 => ?_
    refine x_mixed_f [] 0 [46, 47, 48, 49, 50, 51, 52, 53, 54] (fun f w => f 54 = .bool (decide (((l.take j).count y : Int) = 0)) ∧ St NoB w0 w [.obj g (mObj kv27 (cntR l.reverse)), .rd B 16 k (vrows l), .rd A 16 k (vrows l)]) (by kernel_rfl) (by kernel_rfl) (by kernel_rfl) (by decide) hS (fun w6 hS => ?mixpre1501) ?mixrest1501
    case mixpre1501 =>
     refine p_nil ?_
     simp only [List.length_cons, List.length_nil, Nat.reduceAdd, Nat.reduceSub]
     refine any_go (i := 0) (by rfl) (by decide +kernel) (by decide +kernel) noLate_nil (go_yields w_none (fun w hS => s_move)) ?_
     try simp only [opv, n1, n2, n3, n4, Value.cells]
     refine any_go (i := 1) (by rfl) (by decide +kernel) (by decide +kernel) noLate_nil (go_yields w_none (fun w hS => s_move)) ?_
     try simp only [opv, n1, n2, n3, n4, Value.cells]
     refine any_go (i := 3) (by rfl) (by decide +kernel) (by decide +kernel) noLate_nil (go_yields w_none (fun w hS => s_move)) ?_
     try simp only [opv, n1, n2, n3, n4, Value.cells]
     refine any_go (i := 4) (by rfl) (by decide +kernel) (by decide +kernel) noLate_nil (go_yields w_none (fun w hS => s_move)) ?_
     try simp only [opv, n1, n2, n3, n4, Value.cells]
     refine any_go (i := 5) (by rfl) (by decide +kernel) (by decide +kernel) noLate_nil (go_yields w_none (fun w hS => m_indexAddr_rd Try.underlying22 ti26 (hS := hS))) ?_
     try simp only [opv, n1, n2, n3, n4, Value.cells, Nat.mul_one, Nat.zero_add, Int.toNat_natCast, Int.reduceToNat]
     refine any_go (i := 6) (by rfl) (by decide +kernel) (by decide +kernel) noLate_nil (go_yields w_none (fun w hS => m_loada_rd Try.underlying26 (hi := ti26) (hS := hS) (hfit := by rw [vrows_len]; omega))) ?_
     try simp only [opv, n1, n2, n3, n4, Value.cells, List.getElem_toArray, List.getElem_cons_zero, List.getElem_cons_succ]
     rw [vrow_get (by omega) hv, hy]
     refine any_step [2] (by kernel_rfl) (by decide) (fun w7 hE => ⟨fun _ => (hS.ext hE).sel (by repeat (first | exact Sel.nil | (refine Sel.cons (by repeat (exact Del.head)) ?_))), ?_⟩)
     replace hS := hS.ext hE
     intro i hi
     simp only [List.mem_cons, List.not_mem_nil, or_false] at hi
     subst hi
     ·
      refine any_op (by rfl) ?_
      refine m_slice_rd (lo := 0) (hi := j) (m := c) Try.underlying22 ti26 (hlo := rfl) (hhi := ⟨_, rfl⟩) (hmx := rfl) (hS := hS) (h := fun A1 hA1 hS => ?_)
      try simp only [Nat.mul_one, Nat.zero_mul] at hA1
      try simp only [← List.map_append, ← List.map_drop, ← List.map_take, Nat.mul_one, Nat.zero_mul, Nat.sub_zero, List.drop_zero, List.nil_append, Nat.zero_add] at hS ⊢
      try simp only [opv, n1, n2, n3, n4, Value.cells, Array.toArray_toList] at hS ⊢
      refine x_nil ?_
      refine any_step [7] (by kernel_rfl) (by decide) (fun w8 hE => ⟨fun _ => (hS.ext hE).sel (by repeat (first | exact Sel.nil | (refine Sel.cons (by repeat (first | exact Del.head | apply Del.tail)) ?_))), ?_⟩)
      replace hS := hS.ext hE
      intro i hi
      simp only [List.mem_cons, List.not_mem_nil, or_false] at hi
      subst hi
      ·
       refine any_op (by rfl) ?_
       rw [show List.take (j * 16) (vrows l) = vrows (l.take j) from rows_take (cells := padL (List.replicate 16 IntKind.u32)) (sz := 16) (fun a => by rw [padL_len]; rfl) l j] at hS
       refine s_call en22 ?_
       try simp only [opv, n1, n2, n3, n4, Value.cells, List.map_toArray, List.map_cons, List.map_nil, List.append_toArray, List.cons_append, List.nil_append, Array.append_empty]
       refine CallR.mono (c_ref12Times _ _ j _ (l.take j) (hS.hasRd (by repeat (exact Has.head))) (by rw [List.length_take]; omega) (fun y hy => hv y (List.mem_of_mem_take hy)) (by omega) y hy16) ?_
       rintro _ w9 ⟨rfl, hE9⟩
       replace hS := hS.ext hE9
       try simp only [opv, n1, n2, n3, n4, Value.cells]
       refine x_nil ?_
       refine any_go (i := 8) (by rfl) (by decide +kernel) (by decide +kernel) noLate_nil (go_yields w_none (fun w hS => s_eql)) ?_
       try simp only [opv, n1, n2, n3, n4, Value.cells]
       refine any_nil (by kernel_rfl) (fun w10 hE => ?_)
       replace hS := hS.ext hE
       refine ⟨fun _ => hS.sel (by repeat (first | exact Sel.nil | (refine Sel.cons (by repeat (first | exact Del.head | apply Del.tail)) ?_))), ?_⟩
       refine mix_leaf (by simp only [clob, List.foldl, n1, n2, n3, n4]) ?_
       try simp only [n1, n2]
       exact ⟨by trivial, hS.sel (by repeat (first | exact Sel.nil | (refine Sel.cons (by repeat (first | exact Del.head | apply Del.tail)) ?_)))⟩
    intro fm1 w11 hM
    obtain ⟨h54, hS⟩ := hM
    simp only [clob, List.foldl, n3, n4, h54]
    refine hK20 _ _ ?_
    refine x_cond (ht := fun hc5 => ?_) (hf := fun hc5 => ?_)
    ·
     try simp only [decide_eq_true_eq, decide_eq_false_iff_not, Bool.not_eq_true', Bool.not_eq_false', Int.not_lt, Int.not_le, ne_eq, Decidable.not_not, bne_iff_ne, beq_iff_eq, not_true_eq_false, not_false_eq_true] at hc5
     have hz : (l.take j).count y = 0 := by omega
     refine x_region ?_
     refine s_go (s_move) ?_
     try simp only [opv, n1, n2, n3, n4, Value.cells]
     refine s_go (s_add (hc := by exact wr_i64 (by omega) (by omega))) ?_
     try simp only [opv, n1, n2, n3, n4, Value.cells]
     refine s_go (s_assign) ?_
     try simp only [opv, n1, n2, n3, n4, Value.cells]
     refine x_nil ?_
     refine hK17 _ _ ?_
     refine x_region ?_
     refine s_go (s_move) ?_
     try simp only [opv, n1, n2, n3, n4, Value.cells]
     refine s_go (s_add (hc := by exact wr_i64 (by omega) (by omega))) ?_
     try simp only [opv, n1, n2, n3, n4, Value.cells]
     refine s_go (s_assign) ?_
     try simp only [opv, n1, n2, n3, n4, Value.cells]
     refine x_nil ?_
     refine loop_back (m' := k - (j + 1)) (by simp only [clob, List.foldl, n1, n2, n3, n4]) ?_ ?_
     · try simp only [opv, n1, n2, n3, n4, Value.cells]
       exact ⟨j + 1, by omega, by omega, by rfl, congrArg (Value.int .i64) (by rw [cnt_len (by omega), hy, if_pos hz]; omega), hS.sel (by repeat (first | exact Sel.nil | (refine Sel.cons (by repeat (exact Del.head)) ?_)))⟩
     · omega
    ·
     try simp only [decide_eq_true_eq, decide_eq_false_iff_not, Bool.not_eq_true', Bool.not_eq_false', Int.not_lt, Int.not_le, ne_eq, Decidable.not_not, bne_iff_ne, beq_iff_eq, not_true_eq_false, not_false_eq_true] at hc5
     have hz : ¬ (l.take j).count y = 0 := by omega
     refine x_skip ?_
     refine hK17 _ _ ?_
     refine x_region ?_
     refine s_go (s_move) ?_
     try simp only [opv, n1, n2, n3, n4, Value.cells]
     refine s_go (s_add (hc := by exact wr_i64 (by omega) (by omega))) ?_
     try simp only [opv, n1, n2, n3, n4, Value.cells]
     refine s_go (s_assign) ?_
     try simp only [opv, n1, n2, n3, n4, Value.cells]
     refine x_nil ?_
     refine loop_back (m' := k - (j + 1)) (by simp only [clob, List.foldl, n1, n2, n3, n4]) ?_ ?_
     · try simp only [opv, n1, n2, n3, n4, Value.cells]
       exact ⟨j + 1, by omega, by omega, by rfl, congrArg (Value.int .i64) (by rw [cnt_len (by omega), hy, if_neg hz]), hS.sel (by repeat (first | exact Sel.nil | (refine Sel.cons (by repeat (exact Del.head)) ?_)))⟩
     · omega
   ·
    try simp only [decide_eq_true_eq, decide_eq_false_iff_not, Bool.not_eq_true', Bool.not_eq_false', Int.not_lt, Int.not_le, ne_eq, Decidable.not_not, bne_iff_ne, beq_iff_eq, not_true_eq_false, not_false_eq_true] at hc3
    obtain rfl : k = j := by omega
    rw [List.take_of_length_le (by omega)]
    refine x_exit (look_here ?_)
    refine hK13 _ _ ?_
    refine x_seq fun K21 hK21 => ?_
    refine x_region ?_
    refine s_go (s_move) ?_
    try simp only [opv, n1, n2, n3, n4, Value.cells]
    refine s_go (s_len_map Try.underlying28 (hS := hS)) ?_
    try simp only [opv, n1, n2, n3, n4, Value.cells]
    refine s_go (s_move) ?_
    try simp only [opv, n1, n2, n3, n4, Value.cells]
    refine s_go (s_eql) ?_
    try simp only [opv, n1, n2, n3, n4, Value.cells]
    try simp only [eq_self, decide_true, beq_self_eq_true, Bool.and_self]
    refine s_go (s_move) ?_
    try simp only [opv, n1, n2, n3, n4, Value.cells]
    refine g_on (yi (t := 61) rfl rfl) ?_
    refine s_go (s_move) ?_
    try simp only [opv, n1, n2, n3, n4, Value.cells]
    refine g_on (yi (t := 61) rfl rfl) ?_
    refine s_call en24 ?_
    try simp only [opv, n1, n2, n3, n4, Value.cells, List.map_toArray, List.map_cons, List.map_nil, List.append_toArray, List.cons_append, List.nil_append, Array.append_empty]
    refine CallR.mono (c_vecPeaks _ B k d l (hS.hasRd (by repeat (first | exact Has.head | apply Has.tail))) hl hv (by omega)) ?_
    rintro _ w12 ⟨B12, d12, rfl, hC12⟩
    replace hS := hS.call hC12
    simp only [List.cons_append, List.nil_append] at hS
    try simp only [opv, n1, n2, n3, n4, Value.cells]
    refine g_on (yi (t := 61) rfl rfl) ?_
    refine s_go (s_move) ?_
    try simp only [opv, n1, n2, n3, n4, Value.cells]
    refine g_on (yi (t := 61) rfl rfl) ?_
    refine s_call en25 ?_
    try simp only [opv, n1, n2, n3, n4, Value.cells, List.map_toArray, List.map_cons, List.map_nil, List.append_toArray, List.cons_append, List.nil_append, Array.append_empty]
    refine CallR.mono (c_ref12Peaks _ A k c l (hS.hasRd (by repeat (first | exact Has.head | apply Has.tail))) hl hv (by omega)) ?_
    rintro _ w13 ⟨B13, d13, rfl, hC13⟩
    replace hS := hS.call hC13
    simp only [List.cons_append, List.nil_append] at hS
    try simp only [opv, n1, n2, n3, n4, Value.cells]
    refine g_on (yi (t := 61) rfl rfl) ?_
    refine s_call en23 ?_
    try simp only [opv, n1, n2, n3, n4, Value.cells, List.map_toArray, List.map_cons, List.map_nil, List.append_toArray, List.cons_append, List.nil_append, Array.append_empty]
    refine CallR.mono (c_ref01Same _ _ _ _ _ _ _ _ _ (hS.vecRd (by repeat (first | exact Has.head | apply Has.tail))) (hS.vecRd (by repeat (exact Has.head))) rfl rfl (by have := pkL_len vcmp l k; omega)) ?_
    rintro _ w14 ⟨rfl, hE14⟩
    replace hS := hS.ext hE14
    try simp only [opv, n1, n2, n3, n4, Value.cells]
    try simp only [eq_self, decide_true, beq_self_eq_true, Bool.and_self]
    refine s_go (s_pick_t) ?_
    try simp only [opv, n1, n2, n3, n4, Value.cells]
    refine s_go (s_move) ?_
    try simp only [opv, n1, n2, n3, n4, Value.cells]
    refine g_on (yi (t := 68) rfl rfl) ?_
    refine s_call en20 ?_
    try simp only [opv, n1, n2, n3, n4, Value.cells, List.map_toArray, List.map_cons, List.map_nil, List.append_toArray, List.cons_append, List.nil_append, Array.append_empty]
    refine CallR.mono (c_law12alive _) ?_
    rintro _ w15 ⟨rfl, hE15⟩
    replace hS := hS.ext hE15
    try simp only [opv, n1, n2, n3, n4, Value.cells]
    refine s_go (s_pick_t) ?_
    try simp only [opv, n1, n2, n3, n4, Value.cells]
    refine s_go (s_assign) ?_
    try simp only [opv, n1, n2, n3, n4, Value.cells]
    refine x_nil ?_
    refine hK21 _ _ ?_
    refine x_ret ?_
    refine r_tmp rfl ?_
    exact ⟨rfl, hS.ext_of⟩
end Go.Proofs.Ytpjpaipkkcengaa
namespace Go.Proofs.Ytpjpaipkkcengaa
open Go.ChangeShapes Go.WideShapes Go.ChangeAt Go.RowKit
theorem own0 : ownKnob Try.prog.godebug = none := by kernel_rfl
theorem laidOut0 : laidOutB Try.prog = true := by kernel_rfl
theorem fl25 : Flat Try.prog 25 [LK.int .u32] := flat_int Try.underlying25
theorem fl26 : Flat Try.prog 26 (List.replicate 16 [LK.int .u32]).flatten := flat_arr Try.underlying26 fl25 rfl (by kernel_rfl) (by kernel_rfl)
end Go.Proofs.Ytpjpaipkkcengaa
namespace Go.Proofs.Ytpjpaipkkcengaa
theorem ws_cons {c : Char} (h : c ≠ Char.ofNat 32) (x : List Char) : wordsSigns (c :: x) = (match wordsSigns x with | w :: ws => (c :: w) :: ws | [] => [[c]]) := by
  conv => lhs; unfold wordsSigns
  split
  · simp_all
  · next h1 => exact absurd (by simpa using (List.cons.inj h1).1) h
  · next h1 => obtain ⟨rfl, rfl⟩ := List.cons.inj h1; rfl
theorem ws_app (b : List Char) : ∀ (a : List Char), (∀ c ∈ a, c ≠ Char.ofNat 32) → wordsSigns (a ++ Char.ofNat 32 :: b) = a :: wordsSigns b
  | [], _ => rfl
  | c :: r, h => by
    rw [List.cons_append, ws_cons (h c (by simp)), ws_app b r (fun x hx => h x (by simp [hx]))]
/-- the head's words: harness, a sum, cut -/
theorem head_words {P : Program} {s b : List Char} (he : P.initOrder = String.ofList ("harness".toList ++ Char.ofNat 32 :: (s ++ Char.ofNat 32 :: ("cut".toList ++ Char.ofNat 32 :: b)))) (hs : isSumSigns s = true) (hb : ∀ c ∈ s, c ≠ Char.ofNat 32) :
    ∃ R, behindMainWord (wordsSigns P.initOrder.toList) = "cut".toList :: R := by
  refine ⟨wordsSigns b, ?_⟩
  rw [he, String.toList_ofList, ws_app _ _ (by decide), ws_app _ _ hb, ws_app _ _ (by decide)]
  simp only [behindMainWord, hs, beq_self_eq_true, Bool.true_or, Bool.and_self, if_true]
theorem e_gc : ("cut".toList == "gc".toList) = false := by decide
theorem e_spec : ("cut".toList == "spec".toList) = false := by decide
theorem e_car : ("cut".toList == "carried".toList) = false := by decide
theorem e_sl (R : List (List Char)) : stripLifts liftWords ("cut".toList :: R) = ([], "cut".toList :: R) := by
  have h : ∀ (l : List String), (∀ o ∈ l, ("cut".toList == o.toList) = false) → stripLifts l ("cut".toList :: R) = ([], "cut".toList :: R) := by
    intro l
    induction l with
    | nil => intro _; rfl
    | cons o os ih => intro hl; rw [stripLifts, hl o (by simp)]; simp only [Bool.false_eq_true, if_false]; exact ih fun x hx => hl x (by simp [hx])
  exact h liftWords (by decide)
section
variable {P : Program} (h : ∃ R, behindMainWord (wordsSigns P.initOrder.toList) = "cut".toList :: R)
include h
theorem make_of : P.make = some .cut := by
  obtain ⟨R, h⟩ := h
  unfold Program.make
  rw [h]
  simp only [e_gc, e_spec, beq_self_eq_true, Bool.or_self, Bool.true_or, Bool.false_eq_true, if_false, if_true]
theorem lifts_of : P.liftsFinal = false := by
  obtain ⟨R, h⟩ := h
  unfold Program.liftsFinal Program.headLifts
  rw [h, e_sl]
  show (_ || _) = false
  rfl
theorem enter_of (hl : P.laysLater = false) (hr : P.bearsReflect = false) (hd : P.doorFits [] = true) : P.mayEnter = true := by
  obtain ⟨R, h⟩ := h
  unfold Program.mayEnter
  rw [h]
  dsimp only
  rw [e_sl, hl, hr]
  simp only [hd, e_gc, e_spec, e_car, beq_self_eq_true, Bool.or_self, Bool.false_and, Bool.not_false, Bool.or_true, Bool.and_true, List.head?_cons, List.contains_nil]
end
theorem closed_of {P : Program} {f : FuncId} {fn : Func} {s : ChangeSpec} {c : OpenClaim} (hm : P.make = some .cut) (hl : P.liftsFinal = false) (he : P.mayEnter = true) (h2 : laidOutB P = true) (h3 : mapsRowed P = true) (hst : (P.stops == []) = true) (hk : (P.stopKnobs == []) = true)
    (hp : P.plainKeys = c.plainKeys) (hh : P.stopsHeard = true) (i1 : P.inPlace f = c.inPlace) (i2 : P.unfollowed f = c.unfollowed) (i3 : P.recurses f = c.recurses) (i4 : P.varsNamed f = c.named)
    (rest : (c.wf (OpenSpec.ofChange s) && fn.params.all (P.readableRec ·) && namedTie P c.named s.vars && (c.stops == []) && (c.knobs == []) &&
      (c.maps == (fn.params.toList ++ s.plain.varTypes P).any (P.mapsRec ·)) && (c.ifaces == (fn.params.toList ++ s.plain.varTypes P).any (P.ifacesRec ·)) && (c.mapsOut == P.mapsAmong fn.resultTypes.toList) &&
      (c.loops == (fn.params.toList ++ s.plain.varTypes P).any (P.loopsFrom ·)) && (c.wideKeys == (fn.params.toList ++ s.plain.varTypes P ++ fn.resultTypes.toList).any (P.wideKeysFrom ·)) &&
      s.vars.all (P.varReadable ·) && fn.resultTypes.all (fun t => P.readableRec t && decide (t < P.types.size)) && (c.ifacesOut == fn.resultTypes.toList.any (P.ifacesRec ·)) && (c.loopsOut == fn.resultTypes.toList.any (P.loopsFrom ·)) && c.shortTexts.isNone && (c.lifted == false) && (some Make.cut == some c.make) &&
      (c.kinds == (if c.domain.isEmpty then [] else fn.params.toList.map fun t => match P.underlying t with | some (.int k) => some k | _ => none)) && (c.pinned == c.pinnedBy) &&
      (c.veiled == (fn.params.toList ++ s.plain.varTypes P ++ fn.resultTypes.toList).any (P.veiledRec ·)) && c.veiledFits P fn.params.toList (fn.params.toList ++ s.plain.varTypes P ++ fn.resultTypes.toList)) = true) : joinedFacts P f fn s c = true := by
  simp only [Bool.and_eq_true] at rest
  unfold joinedFacts
  rw [hm, hl, he, h2, h3, hst, hk, hp, hh, i1, i2, i3, i4]
  simp only [beq_self_eq_true, Bool.and_eq_true, Bool.and_true]
  have hkd := rest.1.1.1.2
  simp only [rest, and_self]
  exact ⟨⟨⟨⟨trivial, hkd⟩, trivial⟩, trivial⟩, trivial⟩
end Go.Proofs.Ytpjpaipkkcengaa
namespace Go.Proofs.Ytpjpaipkkcengaa
def ioS : List Nat := [100, 48, 57, 50, 100, 97, 48, 97, 54, 97, 55, 100, 53, 57, 52, 54, 49, 55, 55, 54, 97, 100, 97, 57, 51, 55, 57, 99, 56, 99, 48, 52, 48, 49, 53, 50, 101, 49, 49, 53, 100, 53, 101, 56, 49, 97, 53, 50, 100, 101, 51, 52, 101, 102, 50, 102, 52, 51, 97, 56, 49, 98, 97, 56]
def ioB : List Nat := [97, 116, 32, 104, 97, 110, 100, 99, 97, 114, 116, 47, 104, 97, 110, 100, 99, 97, 114, 116, 108, 97, 119, 49, 50, 46, 86, 101, 99, 67, 111, 117, 110, 116, 115, 32, 104, 97, 110, 100, 99, 97, 114, 116, 47, 104, 97, 110, 100, 99, 97, 114, 116, 108, 97, 119, 48, 55, 46, 87, 105, 114, 101, 66, 97, 99, 107, 32, 104, 97, 110, 100, 99, 97, 114, 116, 47, 104, 97, 110, 100, 99, 97, 114, 116, 108, 97, 119, 48, 56, 46, 75, 101, 121, 82, 101, 97, 100, 115, 32, 104, 97, 110, 100, 99, 97, 114, 116, 47, 104, 97, 110, 100, 99, 97, 114, 116, 108, 97, 119, 48, 56, 46, 75, 101, 121, 66, 97, 99, 107, 32, 104, 97, 110, 100, 99, 97, 114, 116, 47, 104, 97, 110, 100, 99, 97, 114, 116, 108, 97, 119, 48, 57, 46, 65, 116, 111, 109, 66, 97, 99, 107, 32, 104, 97, 110, 100, 99, 97, 114, 116, 47, 104, 97, 110, 100, 99, 97, 114, 116, 108, 97, 119, 51, 52, 46, 66, 111, 117, 110, 100, 65, 116, 111, 109, 115, 32, 104, 97, 110, 100, 99, 97, 114, 116, 47, 104, 97, 110, 100, 99, 97, 114, 116, 108, 97, 119, 50, 55, 46, 70, 114, 97, 109, 101, 82, 101, 97, 100, 115, 32, 104, 97, 110, 100, 99, 97, 114, 116, 47, 104, 97, 110, 100, 99, 97, 114, 116, 108, 97, 119, 50, 55, 46, 70, 114, 97, 109, 101, 84, 117, 114, 110, 101, 100, 32, 104, 97, 110, 100, 99, 97, 114, 116, 47, 104, 97, 110, 100, 99, 97, 114, 116, 108, 97, 119, 50, 55, 46, 70, 114, 97, 109, 101, 66, 97, 99, 107, 32, 104, 97, 110, 100, 99, 97, 114, 116, 47, 104, 97, 110, 100, 99, 97, 114, 116, 108, 97, 119, 50, 55, 46, 70, 114, 97, 109, 101, 67, 111, 100, 101, 115, 32, 104, 97, 110, 100, 99, 97, 114, 116, 47, 104, 97, 110, 100, 99, 97, 114, 116, 108, 97, 119, 49, 51, 46, 68, 111, 116, 115, 65, 100, 100, 115, 32, 104, 97, 110, 100, 99, 97, 114, 116, 47, 104, 97, 110, 100, 99, 97, 114, 116, 108, 97, 119, 49, 51, 46, 68, 111, 116, 115, 65, 108, 111, 110, 101, 32, 104, 97, 110, 100, 99, 97, 114, 116, 47, 104, 97, 110, 100, 99, 97, 114, 116, 108, 97, 119, 49, 51, 46, 68, 111, 116, 115, 74, 111, 105, 110, 115, 32, 104, 97, 110, 100, 99, 97, 114, 116, 47, 104, 97, 110, 100, 99, 97, 114, 116, 108, 97, 119, 49, 48, 46, 76, 97, 116, 65, 108, 108, 32, 104, 97, 110, 100, 99, 97, 114, 116, 47, 104, 97, 110, 100, 99, 97, 114, 116, 108, 97, 119, 49, 48, 46, 76, 97, 116, 78, 111, 114, 109, 115, 32, 104, 97, 110, 100, 99, 97, 114, 116, 47, 104, 97, 110, 100, 99, 97, 114, 116, 108, 97, 119, 49, 48, 46, 76, 97, 116, 74, 111, 105, 110, 115, 32, 104, 97, 110, 100, 99, 97, 114, 116, 47, 104, 97, 110, 100, 99, 97, 114, 116, 108, 97, 119, 49, 48, 46, 76, 97, 116, 76, 101, 97, 115, 116]
theorem io_eq : Try.prog.initOrder = String.ofList ("harness".toList ++ Char.ofNat 32 :: (ioS.map Char.ofNat ++ Char.ofNat 32 :: ("cut".toList ++ Char.ofNat 32 :: ioB.map Char.ofNat))) := by kernel_rfl
theorem io_sum : isSumSigns (ioS.map Char.ofNat) = true := by kernel_rfl
theorem io_hd : ∃ R, behindMainWord (wordsSigns Try.prog.initOrder.toList) = "cut".toList :: R := head_words io_eq io_sum (by decide)
theorem p_make : Try.prog.make = some .cut := make_of io_hd
theorem p_lifts : Try.prog.liftsFinal = false := lifts_of io_hd
theorem p_ll : Try.prog.laysLater = false := by kernel_rfl
theorem p_br : Try.prog.bearsReflect = false := by kernel_rfl
theorem p_df : Try.prog.doorFits [] = true := by kernel_rfl
theorem p_enter : Try.prog.mayEnter = true := enter_of io_hd p_ll p_br p_df
theorem p_rowed : mapsRowed Try.prog = true := by kernel_rfl
theorem p_stops : (Try.prog.stops == []) = true := by kernel_rfl
theorem p_knobs : (Try.prog.stopKnobs == []) = true := by kernel_rfl
theorem p_keys : Try.prog.plainKeys = false := by kernel_rfl
theorem p_heard : Try.prog.stopsHeard = true := by kernel_rfl
end Go.Proofs.Ytpjpaipkkcengaa
