/- Rules, plain words and walks that the claim leans on: Dt, Tb, Vj, Tc. -/
import Derived.Test.YtpjpaipkkcengaaZKeyReads5
set_option linter.unusedSimpArgs false
set_option linter.unusedVariables false
set_option linter.unusedSimpArgs false
set_option linter.unusedVariables false
set_option maxHeartbeats 4000000
set_option maxRecDepth 100000
namespace Go.Proofs.Ytpjpaipkkcengaa
open Go.RowKit
theorem c_KeyReads (w0 : World) (x : List Int) (hk : KeyOk x) (A : Option Addr) (c : Nat) (xs : List Int) (hx : Rd w0 A 1 xs.length (xs.map (Value.int .u8))) (hw : Byt xs) (hxc : xs.length ≤ c) (hxb : xs.length ≤ 140737488355000)  :
    CallR Try.prog 5 #[.agg (KA x), .slice A xs.length c] w0 fun v w' => v = .bool true ∧ Ext w0 w' := by
 have hS := (St.start (S := NoB) w0).rd_old hx
 have hkl := hk.len
 have hol := keyOut_len hk
 obtain ⟨z, hz⟩ : ∃ z, keyS 0 xs = z := ⟨_, rfl⟩
 have hzl := keyS_12 0 xs
 rw [hz] at hzl
 refine c_enter (l := [.agg (KA x), .slice A xs.length c, undef, undef, undef, undef, undef, undef, undef, undef, undef, undef, undef, undef, undef, undef, undef, undef, undef, undef, undef, undef, undef, undef, undef, undef, undef, undef, undef, undef, undef, undef, undef, undef, undef, undef, undef, undef, undef, undef, undef, undef, undef, undef, undef, undef, undef, undef, undef, undef, undef, undef, undef, undef, undef, undef]) Try.func5 rfl (by simp only [Try.ntmps5, List.size_toArray, List.length_cons, List.length_nil, Nat.reduceAdd, Nat.reduceSub, Array.replicate_succ, Array.replicate_zero, List.push_toArray, List.append_toArray, List.nil_append, List.cons_append]) ?_
 refine x_seq fun K1 hK1 => ?_
 refine x_region ?_
 refine m_box hS (fun w1 g1 hS => ?_)
 try simp only [opv, n1, n2, n3, n4, Value.cells, Array.toArray_toList] at hS ⊢
 refine s_go (s_assign) ?_
 try simp only [opv, n1, n2, n3, n4, Value.cells]
 refine x_nil ?_
 refine hK1 _ _ ?_
 refine x_seq fun K2 hK2 => ?_
 refine x_seq fun K3 hK3 => ?_
 refine x_region ?_
 refine s_go (s_move) ?_
 try simp only [opv, n1, n2, n3, n4, Value.cells]
 refine s_go (s_len_sl Try.underlying43) ?_
 try simp only [opv, n1, n2, n3, n4, Value.cells]
 refine s_go (s_gtr) ?_
 try simp only [opv, n1, n2, n3, n4, Value.cells]
 refine x_nil ?_
 refine hK3 _ _ ?_
 refine x_cond (ht := fun hc1 => ?_) (hf := fun hc1 => ?_)
 ·
  try simp only [decide_eq_true_eq, decide_eq_false_iff_not, Bool.not_eq_true', Bool.not_eq_false', Int.not_lt, Int.not_le, ne_eq, Decidable.not_not, bne_iff_ne, beq_iff_eq, not_true_eq_false, not_false_eq_true] at hc1
  refine x_seq fun K4 hK4 => ?_
  refine x_region ?_
  refine s_call en40 ?_
  try simp only [opv, n1, n2, n3, n4, Value.cells, List.map_toArray, List.map_cons, List.map_nil, List.append_toArray, List.cons_append, List.nil_append, Array.append_empty]
  refine CallR.mono (c_law08alive _) ?_
  rintro _ w2 ⟨rfl, hE2⟩
  replace hS := hS.ext hE2
  try simp only [opv, n1, n2, n3, n4, Value.cells]
  refine s_go (s_assign) ?_
  try simp only [opv, n1, n2, n3, n4, Value.cells]
  refine x_nil ?_
  refine hK4 _ _ ?_
  refine x_ret ?_
  refine r_tmp rfl ?_
  exact ⟨rfl, hS.ext_of⟩
 ·
  try simp only [decide_eq_true_eq, decide_eq_false_iff_not, Bool.not_eq_true', Bool.not_eq_false', Int.not_lt, Int.not_le, ne_eq, Decidable.not_not, bne_iff_ne, beq_iff_eq, not_true_eq_false, not_false_eq_true] at hc1
  refine x_skip ?_
  refine hK2 _ _ ?_
  refine x_seq_j [4, 5, 12, 13, 14, 15, 16, 17, 18, 19, 20, 21, 22, 23] (fun f w => St NoB w0 w [.obj g1 (.cells (KA x) 60 (0, 0)), .rd A 1 xs.length (xs.map (Value.int .u8))]) ?jx1 ?jy1
  case jx1 =>
   refine x_seq fun K5 hK5 => ?_
   refine x_region ?_
   refine s_go (m_load_row Try.underlying60 (hi := ti60) (hS := hS) (hfit := by (rw [zi_size (by omega)]; rfl))) ?_
   try simp only [opv, n1, n2, n3, n4, Value.cells, List.getElem_toArray, List.getElem_cons_zero, List.getElem_cons_succ]
   refine s_call en41 ?_
   try simp only [opv, n1, n2, n3, n4, Value.cells, List.map_toArray, List.map_cons, List.map_nil, List.append_toArray, List.cons_append, List.nil_append, Array.append_empty]
   refine CallR.mono (c_ref08Right x hk _) ?_
   rintro _ w3 ⟨rfl, hE3⟩
   replace hS := hS.ext hE3
   try simp only [opv, n1, n2, n3, n4, Value.cells]
   refine x_nil ?_
   refine hK5 _ _ ?_
   refine x_cond (ht := fun hc2 => ?_) (hf := fun hc2 => ?_)
   ·
    try simp only [decide_eq_true_eq, decide_eq_false_iff_not, Bool.not_eq_true', Bool.not_eq_false', Int.not_lt, Int.not_le, ne_eq, Decidable.not_not, bne_iff_ne, beq_iff_eq, not_true_eq_false, not_false_eq_true] at hc2
    refine x_seq fun K6 hK6 => ?_
    refine x_region ?_
    refine s_call en28 ?_
    try simp only [opv, n1, n2, n3, n4, Value.cells, List.map_toArray, List.map_cons, List.map_nil, List.append_toArray, List.cons_append, List.nil_append, Array.append_empty]
    refine CallR.mono (c_wnew _) ?_
    rintro _ w4 ⟨s, rfl, hC4⟩
    replace hS := hS.call hC4
    simp only [List.cons_append, List.nil_append] at hS
    try simp only [opv, n1, n2, n3, n4, Value.cells]
    refine s_go (s_assign) ?_
    try simp only [opv, n1, n2, n3, n4, Value.cells]
    refine x_nil ?_
    refine hK6 _ _ ?_
    refine x_seq fun K7 hK7 => ?_
    refine x_region ?_
    refine s_go (s_move) ?_
    try simp only [opv, n1, n2, n3, n4, Value.cells]
    refine s_go (m_load_row Try.underlying60 (hi := ti60) (hS := hS) (hfit := by (rw [zi_size (by omega)]; rfl))) ?_
    try simp only [opv, n1, n2, n3, n4, Value.cells, List.getElem_toArray, List.getElem_cons_zero, List.getElem_cons_succ]
    refine s_call en42 ?_
    try simp only [opv, n1, n2, n3, n4, Value.cells, List.map_toArray, List.map_cons, List.map_nil, List.append_toArray, List.cons_append, List.nil_append, Array.append_empty]
    refine CallR.mono (c_keyWrite _ s none 0 [] (by simp) x hk (hS.owns (by repeat (first | exact Spl.nil | (apply Spl.cons (by repeat (exact Del.head))))))) ?_
    rintro _ w5 ⟨rfl, A5, c5, hC5⟩
    replace hS := hS.frame (by repeat (first | exact Spl.nil | (apply Spl.cons (by repeat (exact Del.head))))) hC5 (by intro r hr g hg; simp only [List.mem_cons, List.not_mem_nil, or_false] at hr; rcases hr with rfl | rfl | rfl <;> (simp [Res.reads] at hg; done))
    simp only [List.cons_append, List.nil_append] at hS
    try simp only [opv, n1, n2, n3, n4, Value.cells]
    refine x_nil ?_
    refine hK7 _ _ ?_
    refine x_seq fun K8 hK8 => ?_
    refine x_mixed_c (Lc := [.obj g1 (.cells (KA x) 60 (0, 0)), .rd A 1 xs.length (xs.map (Value.int .u8))]) [] 0 [18, 19, 20, 21, 22, 23] (fun f w => f 23 = .bool false ∧ St NoB w0 w [.obj g1 (.cells (KA x) 60 (0, 0)), .rd A 1 xs.length (xs.map (Value.int .u8))]) (by kernel_rfl) (by kernel_rfl) (by kernel_rfl) (by decide) hS (fun w6 hS => ?mixpre601) ?mixrest601
    case mixpre601 =>
     refine p_nil ?_
     simp only [List.length_cons, List.length_nil, Nat.reduceAdd, Nat.reduceSub]
     refine any_go (i := 0) (by rfl) (by decide +kernel) (by decide +kernel) noLate_nil (go_yields w_none (fun w hS => s_move)) ?_
     try simp only [opv, n1, n2, n3, n4, Value.cells]
     refine any_go (i := 2) (by rfl) (by decide +kernel) (by decide +kernel) noLate_nil (go_yields w_none (fun w hS => m_load_row Try.underlying60 (hi := ti60) (hS := hS) (hfit := by (rw [zi_size (by omega)]; rfl)))) ?_
     try simp only [opv, n1, n2, n3, n4, Value.cells, List.getElem_toArray, List.getElem_cons_zero, List.getElem_cons_succ]
     refine any_step [1] (by kernel_rfl) (by decide) (fun w7 hE => ⟨fun _ => (hS.ext hE).sel (by repeat (first | exact Sel.nil | (refine Sel.cons (by repeat (first | exact Del.head | apply Del.tail)) ?_))), ?_⟩)
     replace hS := hS.ext hE
     intro i hi
     simp only [List.mem_cons, List.not_mem_nil, or_false] at hi
     subst hi
     ·
      refine any_op (by rfl) ?_
      refine s_call en32 ?_
      try simp only [opv, n1, n2, n3, n4, Value.cells, List.map_toArray, List.map_cons, List.map_nil, List.append_toArray, List.cons_append, List.nil_append, Array.append_empty]
      refine CallR.mono (c_wout _ s _ _ (keyOut x) (by omega) (hS.owns (by repeat (first | exact Spl.nil | (apply Spl.cons (by repeat (exact Del.head))))))) ?_
      rintro _ w8 ⟨A8, c8, rfl, hC8⟩
      replace hS := hS.frame (by repeat (first | exact Spl.nil | (apply Spl.cons (by repeat (exact Del.head))))) hC8 (by intro r hr g hg; simp only [List.mem_cons, List.not_mem_nil, or_false] at hr; rcases hr with rfl | rfl | rfl <;> (simp [Res.reads] at hg; done))
      simp only [List.cons_append, List.nil_append] at hS
      try simp only [opv, n1, n2, n3, n4, Value.cells]
      refine x_nil ?_
      refine any_step [3] (by kernel_rfl) (by decide) (fun w9 hE => ⟨fun _ => (hS.ext hE).sel (by repeat (first | exact Sel.nil | (refine Sel.cons (by repeat (first | exact Del.head | apply Del.tail)) ?_))), ?_⟩)
      replace hS := hS.ext hE
      intro i hi
      simp only [List.mem_cons, List.not_mem_nil, or_false] at hi
      subst hi
      ·
       refine any_op (by rfl) ?_
       refine s_call en43 ?_
       try simp only [opv, n1, n2, n3, n4, Value.cells, List.map_toArray, List.map_cons, List.map_nil, List.append_toArray, List.cons_append, List.nil_append, Array.append_empty]
       refine CallR.mono (c_ref08Out x hk _) ?_
       rintro _ w10 ⟨A10, c10, rfl, hC10⟩
       replace hS := hS.call hC10
       simp only [List.cons_append, List.nil_append] at hS
       try simp only [opv, n1, n2, n3, n4, Value.cells]
       refine x_nil ?_
       refine any_step [4] (by kernel_rfl) (by decide) (fun w11 hE => ⟨fun _ => (hS.ext hE).sel (by repeat (first | exact Sel.nil | (refine Sel.cons (by repeat (first | exact Del.head | apply Del.tail)) ?_))), ?_⟩)
       replace hS := hS.ext hE
       intro i hi
       simp only [List.mem_cons, List.not_mem_nil, or_false] at hi
       subst hi
       ·
        refine any_op (by rfl) ?_
        refine s_call en34 ?_
        try simp only [opv, n1, n2, n3, n4, Value.cells, List.map_toArray, List.map_cons, List.map_nil, List.append_toArray, List.cons_append, List.nil_append, Array.append_empty]
        refine CallR.mono (c_ref03Same _ _ _ _ _ _ _ _ _ (hS.vecRd (by repeat (first | exact Has.head | apply Has.tail))) (hS.vecRd (by repeat (exact Has.head))) (by omega) (by omega) (by omega)) ?_
        rintro _ w12 ⟨rfl, hE12⟩
        replace hS := hS.ext hE12
        try simp only [opv, n1, n2, n3, n4, Value.cells]
        try simp only [eq_self, decide_true, beq_self_eq_true, Bool.and_self]
        refine x_nil ?_
        refine any_go (i := 5) (by rfl) (by decide +kernel) (by decide +kernel) noLate_nil (go_yields w_none (fun w hS => s_not)) ?_
        try simp only [opv, n1, n2, n3, n4, Value.cells]
        simp only [Bool.not_true]
        refine any_nil (by kernel_rfl) (fun w13 hE => ?_)
        replace hS := hS.ext hE
        refine ⟨fun _ => hS.sel (by repeat (first | exact Sel.nil | (refine Sel.cons (by repeat (first | exact Del.head | apply Del.tail)) ?_))), ?_⟩
        refine mix_leaf (by simp only [clob, List.foldl, n1, n2, n3, n4]) ?_
        try simp only [n1, n2]
        exact ⟨by trivial, hS.sel (by repeat (first | exact Sel.nil | (refine Sel.cons (by repeat (first | exact Del.head | apply Del.tail)) ?_)))⟩
    intro fm1 w14 hM
    obtain ⟨h23, hS⟩ := hM
    simp only [clob, List.foldl, n3, n4, h23]
    refine hK8 _ _ ?_
    refine x_cond_f (h := ?_)
    refine x_skip ?_
    refine mix_leaf (by simp only [clob, List.foldl, n1, n2, n3, n4]) ?_
    try simp only [n1, n2]
    exact hS.sel (by repeat (first | exact Sel.nil | (refine Sel.cons (by repeat (exact Del.head)) ?_)))
   ·
    try simp only [decide_eq_true_eq, decide_eq_false_iff_not, Bool.not_eq_true', Bool.not_eq_false', Int.not_lt, Int.not_le, ne_eq, Decidable.not_not, bne_iff_ne, beq_iff_eq, not_true_eq_false, not_false_eq_true] at hc2
    refine x_skip ?_
    refine mix_leaf (by simp only [clob, List.foldl, n1, n2, n3, n4]) ?_
    try simp only [n1, n2]
    exact hS.sel (by repeat (first | exact Sel.nil | (refine Sel.cons (by repeat (exact Del.head)) ?_)))
  intro fm2 w15 hM
  simp only [clob, List.foldl, n3, n4]
  have hS := hM
  refine x_seq fun K9 hK9 => ?_
  refine x_region ?_
  refine s_go (s_move) ?_
  try simp only [opv, n1, n2, n3, n4, Value.cells]
  refine s_call en31 ?_
  try simp only [opv, n1, n2, n3, n4, Value.cells, List.map_toArray, List.map_cons, List.map_nil, List.append_toArray, List.cons_append, List.nil_append, Array.append_empty]
  refine CallR.mono (c_cFrom _ A c xs (hS.hasRd (by repeat (first | exact Has.head | apply Has.tail))) (by omega)) ?_
  rintro _ w16 ⟨p, A16, c16, rfl, hcp, hC16⟩
  replace hS := hS.call hC16
  simp only [List.cons_append, List.nil_append] at hS
  replace hS := hS.vec_rd (by exact Upd.tail Upd.head)
  try simp only [opv, n1, n2, n3, n4, Value.cells]
  refine s_go (s_move) ?_
  try simp only [opv, n1, n2, n3, n4, Value.cells]
  refine s_go (s_build_struct (cells := #[_, .int .i64 0]) Try.underlying66 ti66 bp66 (hc := by simp only [List.map_toArray, List.map_cons, List.map_nil, opv, n1, n2, n3, n4, Value.cells, List.toList_toArray]; (repeat (refine fill_cons rfl rfl (Nat.le_of_ble_eq_true rfl) ?_)); rfl)) ?_
  try simp only [opv, n1, n2, n3, n4, Value.cells]
  refine m_box hS (fun w17 g17 hS => ?_)
  try simp only [opv, n1, n2, n3, n4, Value.cells, Array.toArray_toList] at hS ⊢
  obtain ⟨q, hq⟩ : ∃ q, q = g17 := ⟨_, rfl⟩
  rw [← hq] at hS ⊢
  refine s_go (s_assign) ?_
  try simp only [opv, n1, n2, n3, n4, Value.cells]
  refine s_go (s_assign) ?_
  try simp only [opv, n1, n2, n3, n4, Value.cells]
  refine x_nil ?_
  refine hK9 _ _ ?_
  refine x_seq fun K10 hK10 => ?_
  refine x_mixed_c (Lc := [.obj g1 (.cells (KA x) 60 (0, 0))]) [] 0 [4, 29, 30, 31, 32, 33, 34, 35, 36, 37, 38, 39, 40, 41, 42, 43, 44, 45, 46, 47, 48, 49, 50, 51, 52, 53, 54, 55] (fun f w => f 4 = .bool true ∧ Ext w0 w) (by kernel_rfl) (by kernel_rfl) (by kernel_rfl) (by decide) hS (fun w18 hS => ?mixpre902) ?mixrest902
  case mixpre902 =>
   refine p_nil ?_
   simp only [List.length_cons, List.length_nil, Nat.reduceAdd, Nat.reduceSub]
   refine any_go (i := 0) (by rfl) (by decide +kernel) (by decide +kernel) noLate_nil (go_yields w_none (fun w hS => s_move)) ?_
   try simp only [opv, n1, n2, n3, n4, Value.cells]
   refine any_go (i := 2) (by rfl) (by decide +kernel) (by decide +kernel) noLate_nil (go_yields w_none (fun w hS => s_move)) ?_
   try simp only [opv, n1, n2, n3, n4, Value.cells]
   refine any_step [1] (by kernel_rfl) (by decide) (fun w19 hE => ⟨fun _ => (hS.ext hE).sel (by repeat (first | exact Sel.nil | (refine Sel.cons (by repeat (first | exact Del.head | apply Del.tail)) ?_))), ?_⟩)
   replace hS := hS.ext hE
   intro i hi
   simp only [List.mem_cons, List.not_mem_nil, or_false] at hi
   subst hi
   ·
    refine any_op (by rfl) ?_
    refine s_call en44 ?_
    try simp only [opv, n1, n2, n3, n4, Value.cells, List.map_toArray, List.map_cons, List.map_nil, List.append_toArray, List.cons_append, List.nil_append, Array.append_empty]
    refine CallR.mono (c_keyRead _ p 0 _ _ xs (by assumption) hw (by omega) (hS.owns (by repeat (first | exact Spl.nil | (apply Spl.cons (by repeat (first | exact Del.head | apply Del.tail))))))) ?_
    rintro _ w20 ⟨rfl, Aa, ca, hca, hR20, hC20⟩
    replace hS := hS.frame (by repeat (first | exact Spl.nil | (apply Spl.cons (by repeat (first | exact Del.head | apply Del.tail))))) hC20 (by intro r hr b hb; simp only [List.mem_cons, List.not_mem_nil, or_false] at hr; rcases hr with rfl | rfl <;> first | (simp [Res.reads] at hb; done) | exact hR20 b hb)
    simp only [List.cons_append, List.nil_append, hz] at hS hca ⊢
    try simp only [opv, n1, n2, n3, n4, Value.cells]
    refine x_nil ?_
    refine any_step [3] (by kernel_rfl) (by decide) (fun w21 hE => ⟨fun _ => (hS.ext hE).sel (by repeat (first | exact Sel.nil | (refine Sel.cons (by repeat (first | exact Del.head | apply Del.tail)) ?_))), ?_⟩)
    replace hS := hS.ext hE
    intro i hi
    simp only [List.mem_cons, List.not_mem_nil, or_false] at hi
    subst hi
    ·
     refine any_op (by rfl) ?_
     refine s_call en45 ?_
     try simp only [opv, n1, n2, n3, n4, Value.cells, List.map_toArray, List.map_cons, List.map_nil, List.append_toArray, List.cons_append, List.nil_append, Array.append_empty]
     refine CallR.mono (c_ref08In _ q 0 A c xs hxc hw (by omega) (hS.owns (by repeat (first | exact Spl.nil | (apply Spl.cons (by repeat (first | exact Del.head | apply Del.tail))))))) ?_
     rintro _ w22 ⟨rfl, Ab, cb, hcb, hR22, hC22⟩
     replace hS := hS.frame (by repeat (first | exact Spl.nil | (apply Spl.cons (by repeat (first | exact Del.head | apply Del.tail))))) hC22 (by intro r hr b hb; simp only [List.mem_cons, List.not_mem_nil, or_false] at hr; rcases hr with rfl | rfl <;> first | (simp [Res.reads] at hb; done) | exact hR22 b hb)
     simp only [List.cons_append, List.nil_append, hz] at hS hcb ⊢
     try simp only [opv, n1, n2, n3, n4, Value.cells]
     refine x_nil ?_
     refine any_step [4] (by kernel_rfl) (by decide) (fun w23 hE => ⟨fun _ => (hS.ext hE).sel (by repeat (first | exact Sel.nil | (refine Sel.cons (by repeat (first | exact Del.head | apply Del.tail)) ?_))), ?_⟩)
     replace hS := hS.ext hE
     intro i hi
     simp only [List.mem_cons, List.not_mem_nil, or_false] at hi
     subst hi
     ·
      refine any_op (by rfl) ?_
      refine s_go (s_eql_agg eqv60 (hg := eg60) (hX := rfl) (hY := rfl) (h1 := by assumption) (h2 := by assumption)) ?_
      try simp only [opv, n1, n2, n3, n4, Value.cells]
      try simp only [eq_self, decide_true, beq_self_eq_true, Bool.and_self]
      refine x_nil ?_
      refine any_go (i := 5) (by rfl) (by decide +kernel) (by decide +kernel) noLate_nil (go_yields w_none (fun w hS => s_move)) ?_
      try simp only [opv, n1, n2, n3, n4, Value.cells]
      refine any_go (i := 6) (by rfl) (by decide +kernel) (by decide +kernel) noLate_nil (go_yields (w_on (yi (t := 34) rfl rfl)) (fun w hS => s_move)) ?_
      try simp only [opv, n1, n2, n3, n4, Value.cells]
      refine any_go (i := 8) (by rfl) (by decide +kernel) (by decide +kernel) noLate_nil (go_yields (w_on (yi (t := 34) rfl rfl)) (fun w hS => s_move)) ?_
      try simp only [opv, n1, n2, n3, n4, Value.cells]
      refine any_go (i := 9) (by rfl) (by decide +kernel) (by decide +kernel) noLate_nil (go_yields (w_on (yi (t := 34) rfl rfl)) (fun w hS => s_nilCheck)) ?_
      try simp only [opv, n1, n2, n3, n4, Value.cells]
      refine any_go (i := 10) (by rfl) (by decide +kernel) (by decide +kernel) noLate_nil (go_yields (w_on (yi (t := 34) rfl rfl)) (fun w hS => m_fieldAddr Try.underlying66 (hi := ti53))) ?_
      try simp only [opv, n1, n2, n3, n4, Value.cells, Nat.zero_add, Nat.add_zero, List.getElem_toArray, List.getElem_cons_zero, List.getElem_cons_succ]
      refine any_step [7, 11] (by kernel_rfl) (by decide) (fun w24 hE => ⟨fun _ => (hS.ext hE).sel (by repeat (first | exact Sel.nil | (refine Sel.cons (by repeat (first | exact Del.head | apply Del.tail)) ?_))), ?_⟩)
      replace hS := hS.ext hE
      intro i hi
      simp only [List.mem_cons, List.not_mem_nil, or_false] at hi
      rcases hi with rfl | rfl
      ·
       refine any_op (by rfl) ?_
       refine g_on (yi (t := 34) rfl rfl) ?_
       refine s_call en35 ?_
       try simp only [opv, n1, n2, n3, n4, Value.cells, List.map_toArray, List.map_cons, List.map_nil, List.append_toArray, List.cons_append, List.nil_append, Array.append_empty]
       refine CallR.mono (c_cErr _ p (z.2.1) Aa ca (z.2.2) hca (hS.owns (by repeat (first | exact Spl.nil | (apply Spl.cons (by repeat (first | exact Del.head | apply Del.tail))))))) ?_
       rintro _ w25 ⟨rfl, hC25⟩
       replace hS := hS.frame (by repeat (first | exact Spl.nil | (apply Spl.cons (by repeat (first | exact Del.head | apply Del.tail))))) hC25 (by intro r hr g hg; simp only [List.mem_cons, List.not_mem_nil, or_false] at hr; rcases hr with rfl | rfl | rfl <;> first | (simp [Res.reads] at hg; done) | exact .inr ⟨_, by simp, .inr hg⟩)
       simp only [List.cons_append, List.nil_append] at hS
       try simp only [opv, n1, n2, n3, n4, Value.cells]
       refine x_nil ?_
       refine any_step [11] (by kernel_rfl) (by decide) (fun w26 hE => ⟨fun _ => (hS.ext hE).sel (by repeat (first | exact Sel.nil | (refine Sel.cons (by repeat (first | exact Del.head | apply Del.tail)) ?_))), ?_⟩)
       replace hS := hS.ext hE
       intro i hi
       simp only [List.mem_cons, List.not_mem_nil, or_false] at hi
       subst hi
       ·
        refine any_op (by rfl) ?_
        refine g_on (yi (t := 34) rfl rfl) ?_
        refine s_go (m_load_obj Try.underlying53 (hS := hS) (hv := by rfl)) ?_
        try simp only [opv, n1, n2, n3, n4, Value.cells, List.getElem_toArray, List.getElem_cons_zero, List.getElem_cons_succ]
        refine x_nil ?_
        refine any_go (i := 12) (by rfl) (by decide +kernel) (by decide +kernel) noLate_nil (go_yields (w_on (yi (t := 34) rfl rfl)) (fun w hS => s_eql)) ?_
        try simp only [opv, n1, n2, n3, n4, Value.cells]
        try simp only [eq_self, decide_true, beq_self_eq_true, Bool.and_self]
        refine any_go (i := 13) (by rfl) (by decide +kernel) (by decide +kernel) noLate_nil (go_yields w_none (fun w hS => s_pick_t)) ?_
        try simp only [opv, n1, n2, n3, n4, Value.cells]
        refine any_go (i := 14) (by rfl) (by decide +kernel) (by decide +kernel) noLate_nil (go_yields w_none (fun w hS => s_move)) ?_
        try simp only [opv, n1, n2, n3, n4, Value.cells]
        refine any_go (i := 15) (by rfl) (by decide +kernel) (by decide +kernel) noLate_nil (go_yields (w_on (yi (t := 43) rfl rfl)) (fun w hS => s_move)) ?_
        try simp only [opv, n1, n2, n3, n4, Value.cells]
        refine any_go (i := 17) (by rfl) (by decide +kernel) (by decide +kernel) noLate_nil (go_yields (w_on (yi (t := 43) rfl rfl)) (fun w hS => s_move)) ?_
        try simp only [opv, n1, n2, n3, n4, Value.cells]
        refine any_go (i := 18) (by rfl) (by decide +kernel) (by decide +kernel) noLate_nil (go_yields (w_on (yi (t := 43) rfl rfl)) (fun w hS => s_nilCheck)) ?_
        try simp only [opv, n1, n2, n3, n4, Value.cells]
        refine any_go (i := 19) (by rfl) (by decide +kernel) (by decide +kernel) noLate_nil (go_yields (w_on (yi (t := 43) rfl rfl)) (fun w hS => m_fieldAddr Try.underlying66 (hi := ti43))) ?_
        try simp only [opv, n1, n2, n3, n4, Value.cells, Nat.zero_add, Nat.add_zero, List.getElem_toArray, List.getElem_cons_zero, List.getElem_cons_succ]
        refine any_step [16, 20] (by kernel_rfl) (by decide) (fun w27 hE => ⟨fun _ => (hS.ext hE).sel (by repeat (first | exact Sel.nil | (refine Sel.cons (by repeat (first | exact Del.head | apply Del.tail)) ?_))), ?_⟩)
        replace hS := hS.ext hE
        intro i hi
        simp only [List.mem_cons, List.not_mem_nil, or_false] at hi
        rcases hi with rfl | rfl
        ·
         refine any_op (by rfl) ?_
         refine g_on (yi (t := 43) rfl rfl) ?_
         refine s_call en39 ?_
         try simp only [opv, n1, n2, n3, n4, Value.cells, List.map_toArray, List.map_cons, List.map_nil, List.append_toArray, List.cons_append, List.nil_append, Array.append_empty]
         refine CallR.mono (c_cLeft _ p (z.2.1) Aa ca (z.2.2) hca (hS.owns (by repeat (first | exact Spl.nil | (apply Spl.cons (by repeat (exact Del.head))))))) ?_
         rintro _ w28 ⟨rfl, hC28⟩
         replace hS := hS.frame (by repeat (first | exact Spl.nil | (apply Spl.cons (by repeat (exact Del.head))))) hC28 (by intro r hr g hg; simp only [List.mem_cons, List.not_mem_nil, or_false] at hr; rcases hr with rfl | rfl | rfl <;> first | (simp [Res.reads] at hg; done) | exact .inr ⟨_, by simp, .inr hg⟩)
         simp only [List.cons_append, List.nil_append] at hS
         try simp only [opv, n1, n2, n3, n4, Value.cells]
         refine x_nil ?_
         refine any_step [20] (by kernel_rfl) (by decide) (fun w29 hE => ⟨fun _ => (hS.ext hE).sel (by repeat (first | exact Sel.nil | (refine Sel.cons (by repeat (first | exact Del.head | apply Del.tail)) ?_))), ?_⟩)
         replace hS := hS.ext hE
         intro i hi
         simp only [List.mem_cons, List.not_mem_nil, or_false] at hi
         subst hi
         ·
          refine any_op (by rfl) ?_
          refine g_on (yi (t := 43) rfl rfl) ?_
          refine s_go (m_load_obj Try.underlying43 (hS := hS) (hv := by rfl)) ?_
          try simp only [opv, n1, n2, n3, n4, Value.cells, List.getElem_toArray, List.getElem_cons_zero, List.getElem_cons_succ]
          refine x_nil ?_
          refine any_go (i := 21) (by rfl) (by decide +kernel) (by decide +kernel) noLate_nil (go_yields (w_on (yi (t := 43) rfl rfl)) (fun w hS => s_len_sl Try.underlying43)) ?_
          try simp only [opv, n1, n2, n3, n4, Value.cells]
          refine any_go (i := 22) (by rfl) (by decide +kernel) (by decide +kernel) noLate_nil (go_yields (w_on (yi (t := 43) rfl rfl)) (fun w hS => s_eql)) ?_
          try simp only [opv, n1, n2, n3, n4, Value.cells]
          try simp only [eq_self, decide_true, beq_self_eq_true, Bool.and_self]
          refine any_go (i := 23) (by rfl) (by decide +kernel) (by decide +kernel) noLate_nil (go_yields w_none (fun w hS => s_pick_t)) ?_
          try simp only [opv, n1, n2, n3, n4, Value.cells]
          refine any_go (i := 24) (by rfl) (by decide +kernel) (by decide +kernel) noLate_nil (go_yields w_none (fun w hS => s_move)) ?_
          try simp only [opv, n1, n2, n3, n4, Value.cells]
          apply any_go (i := 25) (by rfl) (by decide +kernel) (by decide +kernel) noLate_nil (call_yields (w_on (yi (t := 53) rfl rfl)) en40 ?H1) ?K1
          case H1 =>
            intro w hS
            try simp only [opv, n1, n2, n3, n4, List.map_toArray, List.map_cons, List.map_nil, List.append_toArray, List.cons_append, List.nil_append, Array.append_empty]
            refine CallR.mono (c_law08alive _) ?_
            rintro _ w1 ⟨rfl, hE⟩; exact ⟨rfl, hE⟩
          try simp only [opv, n1, n2, n3, n4, Value.cells]
          refine any_go (i := 26) (by rfl) (by decide +kernel) (by decide +kernel) noLate_nil (go_yields w_none (fun w hS => s_pick_t)) ?_
          try simp only [opv, n1, n2, n3, n4, Value.cells]
          refine any_go (i := 27) (by rfl) (by decide +kernel) (by decide +kernel) noLate_nil (go_yields w_none (fun w hS => s_assign)) ?_
          try simp only [opv, n1, n2, n3, n4, Value.cells]
          refine any_nil (by kernel_rfl) (fun w30 hE => ?_)
          replace hS := hS.ext hE
          refine ⟨fun _ => hS.sel (by repeat (first | exact Sel.nil | (refine Sel.cons (by repeat (first | exact Del.head | apply Del.tail)) ?_))), ?_⟩
          refine mix_leaf (by simp only [clob, List.foldl, n1, n2, n3, n4]) ?_
          try simp only [n1, n2]
          exact ⟨by trivial, hS.ext_of⟩
        ·
         refine any_op (by rfl) ?_
         refine g_on (yi (t := 43) rfl rfl) ?_
         refine s_go (m_load_obj Try.underlying43 (hS := hS) (hv := by rfl)) ?_
         try simp only [opv, n1, n2, n3, n4, Value.cells, List.getElem_toArray, List.getElem_cons_zero, List.getElem_cons_succ]
         refine x_nil ?_
         refine any_go (i := 21) (by rfl) (by decide +kernel) (by decide +kernel) noLate_nil (go_yields (w_on (yi (t := 43) rfl rfl)) (fun w hS => s_len_sl Try.underlying43)) ?_
         try simp only [opv, n1, n2, n3, n4, Value.cells]
         refine any_step [16] (by kernel_rfl) (by decide) (fun w31 hE => ⟨fun _ => (hS.ext hE).sel (by repeat (first | exact Sel.nil | (refine Sel.cons (by repeat (first | exact Del.head | apply Del.tail)) ?_))), ?_⟩)
         replace hS := hS.ext hE
         intro i hi
         simp only [List.mem_cons, List.not_mem_nil, or_false] at hi
         subst hi
         ·
          refine any_op (by rfl) ?_
          refine g_on (yi (t := 43) rfl rfl) ?_
          refine s_call en39 ?_
          try simp only [opv, n1, n2, n3, n4, Value.cells, List.map_toArray, List.map_cons, List.map_nil, List.append_toArray, List.cons_append, List.nil_append, Array.append_empty]
          refine CallR.mono (c_cLeft _ p (z.2.1) Aa ca (z.2.2) hca (hS.owns (by repeat (first | exact Spl.nil | (apply Spl.cons (by repeat (exact Del.head))))))) ?_
          rintro _ w32 ⟨rfl, hC32⟩
          replace hS := hS.frame (by repeat (first | exact Spl.nil | (apply Spl.cons (by repeat (exact Del.head))))) hC32 (by intro r hr g hg; simp only [List.mem_cons, List.not_mem_nil, or_false] at hr; rcases hr with rfl | rfl | rfl <;> first | (simp [Res.reads] at hg; done) | exact .inr ⟨_, by simp, .inr hg⟩)
          simp only [List.cons_append, List.nil_append] at hS
          try simp only [opv, n1, n2, n3, n4, Value.cells]
          refine x_nil ?_
          refine any_go (i := 22) (by rfl) (by decide +kernel) (by decide +kernel) noLate_nil (go_yields (w_on (yi (t := 43) rfl rfl)) (fun w hS => s_eql)) ?_
          try simp only [opv, n1, n2, n3, n4, Value.cells]
          try simp only [eq_self, decide_true, beq_self_eq_true, Bool.and_self]
          refine any_go (i := 23) (by rfl) (by decide +kernel) (by decide +kernel) noLate_nil (go_yields w_none (fun w hS => s_pick_t)) ?_
          try simp only [opv, n1, n2, n3, n4, Value.cells]
          refine any_go (i := 24) (by rfl) (by decide +kernel) (by decide +kernel) noLate_nil (go_yields w_none (fun w hS => s_move)) ?_
          try simp only [opv, n1, n2, n3, n4, Value.cells]
          apply any_go (i := 25) (by rfl) (by decide +kernel) (by decide +kernel) noLate_nil (call_yields (w_on (yi (t := 53) rfl rfl)) en40 ?H2) ?K2
          case H2 =>
            intro w hS
            try simp only [opv, n1, n2, n3, n4, List.map_toArray, List.map_cons, List.map_nil, List.append_toArray, List.cons_append, List.nil_append, Array.append_empty]
            refine CallR.mono (c_law08alive _) ?_
            rintro _ w1 ⟨rfl, hE⟩; exact ⟨rfl, hE⟩
          try simp only [opv, n1, n2, n3, n4, Value.cells]
          refine any_go (i := 26) (by rfl) (by decide +kernel) (by decide +kernel) noLate_nil (go_yields w_none (fun w hS => s_pick_t)) ?_
          try simp only [opv, n1, n2, n3, n4, Value.cells]
          refine any_go (i := 27) (by rfl) (by decide +kernel) (by decide +kernel) noLate_nil (go_yields w_none (fun w hS => s_assign)) ?_
          try simp only [opv, n1, n2, n3, n4, Value.cells]
          refine any_nil (by kernel_rfl) (fun w33 hE => ?_)
          replace hS := hS.ext hE
          refine ⟨fun _ => hS.sel (by repeat (first | exact Sel.nil | (refine Sel.cons (by repeat (first | exact Del.head | apply Del.tail)) ?_))), ?_⟩
          refine mix_leaf (by simp only [clob, List.foldl, n1, n2, n3, n4]) ?_
          try simp only [n1, n2]
          exact ⟨by trivial, hS.ext_of⟩
      ·
       refine any_op (by rfl) ?_
       refine g_on (yi (t := 34) rfl rfl) ?_
       refine s_go (m_load_obj Try.underlying53 (hS := hS) (hv := by rfl)) ?_
       try simp only [opv, n1, n2, n3, n4, Value.cells, List.getElem_toArray, List.getElem_cons_zero, List.getElem_cons_succ]
       refine x_nil ?_
       refine any_step [7] (by kernel_rfl) (by decide) (fun w34 hE => ⟨fun _ => (hS.ext hE).sel (by repeat (first | exact Sel.nil | (refine Sel.cons (by repeat (first | exact Del.head | apply Del.tail)) ?_))), ?_⟩)
       replace hS := hS.ext hE
       intro i hi
       simp only [List.mem_cons, List.not_mem_nil, or_false] at hi
       subst hi
       ·
        refine any_op (by rfl) ?_
        refine g_on (yi (t := 34) rfl rfl) ?_
        refine s_call en35 ?_
        try simp only [opv, n1, n2, n3, n4, Value.cells, List.map_toArray, List.map_cons, List.map_nil, List.append_toArray, List.cons_append, List.nil_append, Array.append_empty]
        refine CallR.mono (c_cErr _ p (z.2.1) Aa ca (z.2.2) hca (hS.owns (by repeat (first | exact Spl.nil | (apply Spl.cons (by repeat (first | exact Del.head | apply Del.tail))))))) ?_
        rintro _ w35 ⟨rfl, hC35⟩
        replace hS := hS.frame (by repeat (first | exact Spl.nil | (apply Spl.cons (by repeat (first | exact Del.head | apply Del.tail))))) hC35 (by intro r hr g hg; simp only [List.mem_cons, List.not_mem_nil, or_false] at hr; rcases hr with rfl | rfl | rfl <;> first | (simp [Res.reads] at hg; done) | exact .inr ⟨_, by simp, .inr hg⟩)
        simp only [List.cons_append, List.nil_append] at hS
        try simp only [opv, n1, n2, n3, n4, Value.cells]
        refine x_nil ?_
        refine any_go (i := 12) (by rfl) (by decide +kernel) (by decide +kernel) noLate_nil (go_yields (w_on (yi (t := 34) rfl rfl)) (fun w hS => s_eql)) ?_
        try simp only [opv, n1, n2, n3, n4, Value.cells]
        try simp only [eq_self, decide_true, beq_self_eq_true, Bool.and_self]
        refine any_go (i := 13) (by rfl) (by decide +kernel) (by decide +kernel) noLate_nil (go_yields w_none (fun w hS => s_pick_t)) ?_
        try simp only [opv, n1, n2, n3, n4, Value.cells]
        refine any_go (i := 14) (by rfl) (by decide +kernel) (by decide +kernel) noLate_nil (go_yields w_none (fun w hS => s_move)) ?_
        try simp only [opv, n1, n2, n3, n4, Value.cells]
        refine any_go (i := 15) (by rfl) (by decide +kernel) (by decide +kernel) noLate_nil (go_yields (w_on (yi (t := 43) rfl rfl)) (fun w hS => s_move)) ?_
        try simp only [opv, n1, n2, n3, n4, Value.cells]
        refine any_go (i := 17) (by rfl) (by decide +kernel) (by decide +kernel) noLate_nil (go_yields (w_on (yi (t := 43) rfl rfl)) (fun w hS => s_move)) ?_
        try simp only [opv, n1, n2, n3, n4, Value.cells]
        refine any_go (i := 18) (by rfl) (by decide +kernel) (by decide +kernel) noLate_nil (go_yields (w_on (yi (t := 43) rfl rfl)) (fun w hS => s_nilCheck)) ?_
        try simp only [opv, n1, n2, n3, n4, Value.cells]
        refine any_go (i := 19) (by rfl) (by decide +kernel) (by decide +kernel) noLate_nil (go_yields (w_on (yi (t := 43) rfl rfl)) (fun w hS => m_fieldAddr Try.underlying66 (hi := ti43))) ?_
        try simp only [opv, n1, n2, n3, n4, Value.cells, Nat.zero_add, Nat.add_zero, List.getElem_toArray, List.getElem_cons_zero, List.getElem_cons_succ]
        refine any_step [16, 20] (by kernel_rfl) (by decide) (fun w36 hE => ⟨fun _ => (hS.ext hE).sel (by repeat (first | exact Sel.nil | (refine Sel.cons (by repeat (first | exact Del.head | apply Del.tail)) ?_))), ?_⟩)
        replace hS := hS.ext hE
        intro i hi
        simp only [List.mem_cons, List.not_mem_nil, or_false] at hi
        rcases hi with rfl | rfl
        ·
         refine any_op (by rfl) ?_
         refine g_on (yi (t := 43) rfl rfl) ?_
         refine s_call en39 ?_
         try simp only [opv, n1, n2, n3, n4, Value.cells, List.map_toArray, List.map_cons, List.map_nil, List.append_toArray, List.cons_append, List.nil_append, Array.append_empty]
         refine CallR.mono (c_cLeft _ p (z.2.1) Aa ca (z.2.2) hca (hS.owns (by repeat (first | exact Spl.nil | (apply Spl.cons (by repeat (exact Del.head))))))) ?_
         rintro _ w37 ⟨rfl, hC37⟩
         replace hS := hS.frame (by repeat (first | exact Spl.nil | (apply Spl.cons (by repeat (exact Del.head))))) hC37 (by intro r hr g hg; simp only [List.mem_cons, List.not_mem_nil, or_false] at hr; rcases hr with rfl | rfl | rfl <;> first | (simp [Res.reads] at hg; done) | exact .inr ⟨_, by simp, .inr hg⟩)
         simp only [List.cons_append, List.nil_append] at hS
         try simp only [opv, n1, n2, n3, n4, Value.cells]
         refine x_nil ?_
         refine any_step [20] (by kernel_rfl) (by decide) (fun w38 hE => ⟨fun _ => (hS.ext hE).sel (by repeat (first | exact Sel.nil | (refine Sel.cons (by repeat (first | exact Del.head | apply Del.tail)) ?_))), ?_⟩)
         replace hS := hS.ext hE
         intro i hi
         simp only [List.mem_cons, List.not_mem_nil, or_false] at hi
         subst hi
         ·
          refine any_op (by rfl) ?_
          refine g_on (yi (t := 43) rfl rfl) ?_
          refine s_go (m_load_obj Try.underlying43 (hS := hS) (hv := by rfl)) ?_
          try simp only [opv, n1, n2, n3, n4, Value.cells, List.getElem_toArray, List.getElem_cons_zero, List.getElem_cons_succ]
          refine x_nil ?_
          refine any_go (i := 21) (by rfl) (by decide +kernel) (by decide +kernel) noLate_nil (go_yields (w_on (yi (t := 43) rfl rfl)) (fun w hS => s_len_sl Try.underlying43)) ?_
          try simp only [opv, n1, n2, n3, n4, Value.cells]
          refine any_go (i := 22) (by rfl) (by decide +kernel) (by decide +kernel) noLate_nil (go_yields (w_on (yi (t := 43) rfl rfl)) (fun w hS => s_eql)) ?_
          try simp only [opv, n1, n2, n3, n4, Value.cells]
          try simp only [eq_self, decide_true, beq_self_eq_true, Bool.and_self]
          refine any_go (i := 23) (by rfl) (by decide +kernel) (by decide +kernel) noLate_nil (go_yields w_none (fun w hS => s_pick_t)) ?_
          try simp only [opv, n1, n2, n3, n4, Value.cells]
          refine any_go (i := 24) (by rfl) (by decide +kernel) (by decide +kernel) noLate_nil (go_yields w_none (fun w hS => s_move)) ?_
          try simp only [opv, n1, n2, n3, n4, Value.cells]
          apply any_go (i := 25) (by rfl) (by decide +kernel) (by decide +kernel) noLate_nil (call_yields (w_on (yi (t := 53) rfl rfl)) en40 ?H3) ?K3
          case H3 =>
            intro w hS
            try simp only [opv, n1, n2, n3, n4, List.map_toArray, List.map_cons, List.map_nil, List.append_toArray, List.cons_append, List.nil_append, Array.append_empty]
            refine CallR.mono (c_law08alive _) ?_
            rintro _ w1 ⟨rfl, hE⟩; exact ⟨rfl, hE⟩
          try simp only [opv, n1, n2, n3, n4, Value.cells]
          refine any_go (i := 26) (by rfl) (by decide +kernel) (by decide +kernel) noLate_nil (go_yields w_none (fun w hS => s_pick_t)) ?_
          try simp only [opv, n1, n2, n3, n4, Value.cells]
          refine any_go (i := 27) (by rfl) (by decide +kernel) (by decide +kernel) noLate_nil (go_yields w_none (fun w hS => s_assign)) ?_
          try simp only [opv, n1, n2, n3, n4, Value.cells]
          refine any_nil (by kernel_rfl) (fun w39 hE => ?_)
          replace hS := hS.ext hE
          refine ⟨fun _ => hS.sel (by repeat (first | exact Sel.nil | (refine Sel.cons (by repeat (first | exact Del.head | apply Del.tail)) ?_))), ?_⟩
          refine mix_leaf (by simp only [clob, List.foldl, n1, n2, n3, n4]) ?_
          try simp only [n1, n2]
          exact ⟨by trivial, hS.ext_of⟩
        ·
         refine any_op (by rfl) ?_
         refine g_on (yi (t := 43) rfl rfl) ?_
         refine s_go (m_load_obj Try.underlying43 (hS := hS) (hv := by rfl)) ?_
         try simp only [opv, n1, n2, n3, n4, Value.cells, List.getElem_toArray, List.getElem_cons_zero, List.getElem_cons_succ]
         refine x_nil ?_
         refine any_go (i := 21) (by rfl) (by decide +kernel) (by decide +kernel) noLate_nil (go_yields (w_on (yi (t := 43) rfl rfl)) (fun w hS => s_len_sl Try.underlying43)) ?_
         try simp only [opv, n1, n2, n3, n4, Value.cells]
         refine any_step [16] (by kernel_rfl) (by decide) (fun w40 hE => ⟨fun _ => (hS.ext hE).sel (by repeat (first | exact Sel.nil | (refine Sel.cons (by repeat (first | exact Del.head | apply Del.tail)) ?_))), ?_⟩)
         replace hS := hS.ext hE
         intro i hi
         simp only [List.mem_cons, List.not_mem_nil, or_false] at hi
         subst hi
         ·
          refine any_op (by rfl) ?_
          refine g_on (yi (t := 43) rfl rfl) ?_
          refine s_call en39 ?_
          try simp only [opv, n1, n2, n3, n4, Value.cells, List.map_toArray, List.map_cons, List.map_nil, List.append_toArray, List.cons_append, List.nil_append, Array.append_empty]
          refine CallR.mono (c_cLeft _ p (z.2.1) Aa ca (z.2.2) hca (hS.owns (by repeat (first | exact Spl.nil | (apply Spl.cons (by repeat (exact Del.head))))))) ?_
          rintro _ w41 ⟨rfl, hC41⟩
          replace hS := hS.frame (by repeat (first | exact Spl.nil | (apply Spl.cons (by repeat (exact Del.head))))) hC41 (by intro r hr g hg; simp only [List.mem_cons, List.not_mem_nil, or_false] at hr; rcases hr with rfl | rfl | rfl <;> first | (simp [Res.reads] at hg; done) | exact .inr ⟨_, by simp, .inr hg⟩)
          simp only [List.cons_append, List.nil_append] at hS
          try simp only [opv, n1, n2, n3, n4, Value.cells]
          refine x_nil ?_
          refine any_go (i := 22) (by rfl) (by decide +kernel) (by decide +kernel) noLate_nil (go_yields (w_on (yi (t := 43) rfl rfl)) (fun w hS => s_eql)) ?_
          try simp only [opv, n1, n2, n3, n4, Value.cells]
          try simp only [eq_self, decide_true, beq_self_eq_true, Bool.and_self]
          refine any_go (i := 23) (by rfl) (by decide +kernel) (by decide +kernel) noLate_nil (go_yields w_none (fun w hS => s_pick_t)) ?_
          try simp only [opv, n1, n2, n3, n4, Value.cells]
          refine any_go (i := 24) (by rfl) (by decide +kernel) (by decide +kernel) noLate_nil (go_yields w_none (fun w hS => s_move)) ?_
          try simp only [opv, n1, n2, n3, n4, Value.cells]
          apply any_go (i := 25) (by rfl) (by decide +kernel) (by decide +kernel) noLate_nil (call_yields (w_on (yi (t := 53) rfl rfl)) en40 ?H4) ?K4
          case H4 =>
            intro w hS
            try simp only [opv, n1, n2, n3, n4, List.map_toArray, List.map_cons, List.map_nil, List.append_toArray, List.cons_append, List.nil_append, Array.append_empty]
            refine CallR.mono (c_law08alive _) ?_
            rintro _ w1 ⟨rfl, hE⟩; exact ⟨rfl, hE⟩
          try simp only [opv, n1, n2, n3, n4, Value.cells]
          refine any_go (i := 26) (by rfl) (by decide +kernel) (by decide +kernel) noLate_nil (go_yields w_none (fun w hS => s_pick_t)) ?_
          try simp only [opv, n1, n2, n3, n4, Value.cells]
          refine any_go (i := 27) (by rfl) (by decide +kernel) (by decide +kernel) noLate_nil (go_yields w_none (fun w hS => s_assign)) ?_
          try simp only [opv, n1, n2, n3, n4, Value.cells]
          refine any_nil (by kernel_rfl) (fun w42 hE => ?_)
          replace hS := hS.ext hE
          refine ⟨fun _ => hS.sel (by repeat (first | exact Sel.nil | (refine Sel.cons (by repeat (first | exact Del.head | apply Del.tail)) ?_))), ?_⟩
          refine mix_leaf (by simp only [clob, List.foldl, n1, n2, n3, n4]) ?_
          try simp only [n1, n2]
          exact ⟨by trivial, hS.ext_of⟩
  intro fm3 w43 hM
  obtain ⟨h4, hEE⟩ := hM
  simp only [clob, List.foldl, n3, n4, h4]
  refine hK10 _ _ ?_
  refine x_ret ?_
  refine r_tmp rfl ?_
  exact ⟨rfl, hEE⟩
end Go.Proofs.Ytpjpaipkkcengaa
namespace Go.Proofs.Ytpjpaipkkcengaa
open Go.ChangeShapes Go.WideShapes Go.ChangeAt Go.RowKit
theorem own0 : ownKnob Try.prog.godebug = none := by kernel_rfl
theorem laidOut0 : laidOutB Try.prog = true := by kernel_rfl
theorem fl5 : Flat Try.prog 5 [LK.int .u8] := flat_int Try.underlying5
theorem fl58 : Flat Try.prog 58 [LK.int .u16] := flat_int Try.underlying58
theorem fl42 : Flat Try.prog 42 (List.replicate 8 [LK.int .u8]).flatten := flat_arr Try.underlying42 fl5 rfl (by kernel_rfl) (by kernel_rfl)
theorem fl25 : Flat Try.prog 25 [LK.int .u32] := flat_int Try.underlying25
theorem fl60 : Flat Try.prog 60 ([LK.int .u8] ++ ([LK.int .u16] ++ ((List.replicate 8 [LK.int .u8]).flatten ++ ([LK.int .u8] ++ ([LK.int .u32] ++ ([])))))) := flat_struct Try.underlying60 (.cons rfl fl5 rfl (by kernel_rfl) (.cons rfl fl58 rfl (by kernel_rfl) (.cons rfl fl42 rfl (by kernel_rfl) (.cons rfl fl5 rfl (by kernel_rfl) (.cons rfl fl25 rfl (by kernel_rfl) (.nil)))))) (by kernel_rfl)
end Go.Proofs.Ytpjpaipkkcengaa
namespace Go.Proofs.Ytpjpaipkkcengaa
theorem ws_cons {c : Char} (h : c ≠ Char.ofNat 32) (x : List Char) : wordsSigns (c :: x) = (match wordsSigns x with | w :: ws => (c :: w) :: ws | [] => [[c]]) := by
  conv => lhs; unfold wordsSigns
  split
  · simp_all
  · next h1 => exact absurd (by simpa using (List.cons.inj h1).1) h
  · next h1 => obtain ⟨rfl, rfl⟩ := List.cons.inj h1; rfl
theorem ws_app (b : List Char) : ∀ (a : List Char), (∀ c ∈ a, c ≠ Char.ofNat 32) → wordsSigns (a ++ Char.ofNat 32 :: b) = a :: wordsSigns b
  | [], _ => rfl
  | c :: r, h => by
    rw [List.cons_append, ws_cons (h c (by simp)), ws_app b r (fun x hx => h x (by simp [hx]))]
/-- the head's words: harness, a sum, cut -/
theorem head_words {P : Program} {s b : List Char} (he : P.initOrder = String.ofList ("harness".toList ++ Char.ofNat 32 :: (s ++ Char.ofNat 32 :: ("cut".toList ++ Char.ofNat 32 :: b)))) (hs : isSumSigns s = true) (hb : ∀ c ∈ s, c ≠ Char.ofNat 32) :
    ∃ R, behindMainWord (wordsSigns P.initOrder.toList) = "cut".toList :: R := by
  refine ⟨wordsSigns b, ?_⟩
  rw [he, String.toList_ofList, ws_app _ _ (by decide), ws_app _ _ hb, ws_app _ _ (by decide)]
  simp only [behindMainWord, hs, beq_self_eq_true, Bool.true_or, Bool.and_self, if_true]
theorem e_gc : ("cut".toList == "gc".toList) = false := by decide
theorem e_spec : ("cut".toList == "spec".toList) = false := by decide
theorem e_car : ("cut".toList == "carried".toList) = false := by decide
theorem e_sl (R : List (List Char)) : stripLifts liftWords ("cut".toList :: R) = ([], "cut".toList :: R) := by
  have h : ∀ (l : List String), (∀ o ∈ l, ("cut".toList == o.toList) = false) → stripLifts l ("cut".toList :: R) = ([], "cut".toList :: R) := by
    intro l
    induction l with
    | nil => intro _; rfl
    | cons o os ih => intro hl; rw [stripLifts, hl o (by simp)]; simp only [Bool.false_eq_true, if_false]; exact ih fun x hx => hl x (by simp [hx])
  exact h liftWords (by decide)
section
variable {P : Program} (h : ∃ R, behindMainWord (wordsSigns P.initOrder.toList) = "cut".toList :: R)
include h
theorem make_of : P.make = some .cut := by
  obtain ⟨R, h⟩ := h
  unfold Program.make
  rw [h]
  simp only [e_gc, e_spec, beq_self_eq_true, Bool.or_self, Bool.true_or, Bool.false_eq_true, if_false, if_true]
theorem lifts_of : P.liftsFinal = false := by
  obtain ⟨R, h⟩ := h
  unfold Program.liftsFinal Program.headLifts
  rw [h, e_sl]
  show (_ || _) = false
  rfl
theorem enter_of (hl : P.laysLater = false) (hr : P.bearsReflect = false) (hd : P.doorFits [] = true) : P.mayEnter = true := by
  obtain ⟨R, h⟩ := h
  unfold Program.mayEnter
  rw [h]
  dsimp only
  rw [e_sl, hl, hr]
  simp only [hd, e_gc, e_spec, e_car, beq_self_eq_true, Bool.or_self, Bool.false_and, Bool.not_false, Bool.or_true, Bool.and_true, List.head?_cons, List.contains_nil]
end
theorem closed_of {P : Program} {f : FuncId} {fn : Func} {s : ChangeSpec} {c : OpenClaim} (hm : P.make = some .cut) (hl : P.liftsFinal = false) (he : P.mayEnter = true) (h2 : laidOutB P = true) (h3 : mapsRowed P = true) (hst : (P.stops == []) = true) (hk : (P.stopKnobs == []) = true)
    (hp : P.plainKeys = c.plainKeys) (hh : P.stopsHeard = true) (i1 : P.inPlace f = c.inPlace) (i2 : P.unfollowed f = c.unfollowed) (i3 : P.recurses f = c.recurses) (i4 : P.varsNamed f = c.named)
    (rest : (c.wf (OpenSpec.ofChange s) && fn.params.all (P.readableRec ·) && namedTie P c.named s.vars && (c.stops == []) && (c.knobs == []) &&
      (c.maps == (fn.params.toList ++ s.plain.varTypes P).any (P.mapsRec ·)) && (c.ifaces == (fn.params.toList ++ s.plain.varTypes P).any (P.ifacesRec ·)) && (c.mapsOut == P.mapsAmong fn.resultTypes.toList) &&
      (c.loops == (fn.params.toList ++ s.plain.varTypes P).any (P.loopsFrom ·)) && (c.wideKeys == (fn.params.toList ++ s.plain.varTypes P ++ fn.resultTypes.toList).any (P.wideKeysFrom ·)) &&
      s.vars.all (P.varReadable ·) && fn.resultTypes.all (fun t => P.readableRec t && decide (t < P.types.size)) && (c.ifacesOut == fn.resultTypes.toList.any (P.ifacesRec ·)) && (c.loopsOut == fn.resultTypes.toList.any (P.loopsFrom ·)) && c.shortTexts.isNone && (c.lifted == false) && (some Make.cut == some c.make) &&
      (c.kinds == (if c.domain.isEmpty then [] else fn.params.toList.map fun t => match P.underlying t with | some (.int k) => some k | _ => none)) && (c.pinned == c.pinnedBy) &&
      (c.veiled == (fn.params.toList ++ s.plain.varTypes P ++ fn.resultTypes.toList).any (P.veiledRec ·)) && c.veiledFits P fn.params.toList (fn.params.toList ++ s.plain.varTypes P ++ fn.resultTypes.toList)) = true) : joinedFacts P f fn s c = true := by
  simp only [Bool.and_eq_true] at rest
  unfold joinedFacts
  rw [hm, hl, he, h2, h3, hst, hk, hp, hh, i1, i2, i3, i4]
  simp only [beq_self_eq_true, Bool.and_eq_true, Bool.and_true]
  have hkd := rest.1.1.1.2
  simp only [rest, and_self]
  exact ⟨⟨⟨⟨trivial, hkd⟩, trivial⟩, trivial⟩, trivial⟩
end Go.Proofs.Ytpjpaipkkcengaa
namespace Go.Proofs.Ytpjpaipkkcengaa
def ioS : List Nat := [100, 48, 57, 50, 100, 97, 48, 97, 54, 97, 55, 100, 53, 57, 52, 54, 49, 55, 55, 54, 97, 100, 97, 57, 51, 55, 57, 99, 56, 99, 48, 52, 48, 49, 53, 50, 101, 49, 49, 53, 100, 53, 101, 56, 49, 97, 53, 50, 100, 101, 51, 52, 101, 102, 50, 102, 52, 51, 97, 56, 49, 98, 97, 56]
def ioB : List Nat := [97, 116, 32, 104, 97, 110, 100, 99, 97, 114, 116, 47, 104, 97, 110, 100, 99, 97, 114, 116, 108, 97, 119, 49, 50, 46, 86, 101, 99, 67, 111, 117, 110, 116, 115, 32, 104, 97, 110, 100, 99, 97, 114, 116, 47, 104, 97, 110, 100, 99, 97, 114, 116, 108, 97, 119, 48, 55, 46, 87, 105, 114, 101, 66, 97, 99, 107, 32, 104, 97, 110, 100, 99, 97, 114, 116, 47, 104, 97, 110, 100, 99, 97, 114, 116, 108, 97, 119, 48, 56, 46, 75, 101, 121, 82, 101, 97, 100, 115, 32, 104, 97, 110, 100, 99, 97, 114, 116, 47, 104, 97, 110, 100, 99, 97, 114, 116, 108, 97, 119, 48, 56, 46, 75, 101, 121, 66, 97, 99, 107, 32, 104, 97, 110, 100, 99, 97, 114, 116, 47, 104, 97, 110, 100, 99, 97, 114, 116, 108, 97, 119, 48, 57, 46, 65, 116, 111, 109, 66, 97, 99, 107, 32, 104, 97, 110, 100, 99, 97, 114, 116, 47, 104, 97, 110, 100, 99, 97, 114, 116, 108, 97, 119, 51, 52, 46, 66, 111, 117, 110, 100, 65, 116, 111, 109, 115, 32, 104, 97, 110, 100, 99, 97, 114, 116, 47, 104, 97, 110, 100, 99, 97, 114, 116, 108, 97, 119, 50, 55, 46, 70, 114, 97, 109, 101, 82, 101, 97, 100, 115, 32, 104, 97, 110, 100, 99, 97, 114, 116, 47, 104, 97, 110, 100, 99, 97, 114, 116, 108, 97, 119, 50, 55, 46, 70, 114, 97, 109, 101, 84, 117, 114, 110, 101, 100, 32, 104, 97, 110, 100, 99, 97, 114, 116, 47, 104, 97, 110, 100, 99, 97, 114, 116, 108, 97, 119, 50, 55, 46, 70, 114, 97, 109, 101, 66, 97, 99, 107, 32, 104, 97, 110, 100, 99, 97, 114, 116, 47, 104, 97, 110, 100, 99, 97, 114, 116, 108, 97, 119, 50, 55, 46, 70, 114, 97, 109, 101, 67, 111, 100, 101, 115, 32, 104, 97, 110, 100, 99, 97, 114, 116, 47, 104, 97, 110, 100, 99, 97, 114, 116, 108, 97, 119, 49, 51, 46, 68, 111, 116, 115, 65, 100, 100, 115, 32, 104, 97, 110, 100, 99, 97, 114, 116, 47, 104, 97, 110, 100, 99, 97, 114, 116, 108, 97, 119, 49, 51, 46, 68, 111, 116, 115, 65, 108, 111, 110, 101, 32, 104, 97, 110, 100, 99, 97, 114, 116, 47, 104, 97, 110, 100, 99, 97, 114, 116, 108, 97, 119, 49, 51, 46, 68, 111, 116, 115, 74, 111, 105, 110, 115, 32, 104, 97, 110, 100, 99, 97, 114, 116, 47, 104, 97, 110, 100, 99, 97, 114, 116, 108, 97, 119, 49, 48, 46, 76, 97, 116, 65, 108, 108, 32, 104, 97, 110, 100, 99, 97, 114, 116, 47, 104, 97, 110, 100, 99, 97, 114, 116, 108, 97, 119, 49, 48, 46, 76, 97, 116, 78, 111, 114, 109, 115, 32, 104, 97, 110, 100, 99, 97, 114, 116, 47, 104, 97, 110, 100, 99, 97, 114, 116, 108, 97, 119, 49, 48, 46, 76, 97, 116, 74, 111, 105, 110, 115, 32, 104, 97, 110, 100, 99, 97, 114, 116, 47, 104, 97, 110, 100, 99, 97, 114, 116, 108, 97, 119, 49, 48, 46, 76, 97, 116, 76, 101, 97, 115, 116]
theorem io_eq : Try.prog.initOrder = String.ofList ("harness".toList ++ Char.ofNat 32 :: (ioS.map Char.ofNat ++ Char.ofNat 32 :: ("cut".toList ++ Char.ofNat 32 :: ioB.map Char.ofNat))) := by kernel_rfl
theorem io_sum : isSumSigns (ioS.map Char.ofNat) = true := by kernel_rfl
theorem io_hd : ∃ R, behindMainWord (wordsSigns Try.prog.initOrder.toList) = "cut".toList :: R := head_words io_eq io_sum (by decide)
theorem p_make : Try.prog.make = some .cut := make_of io_hd
theorem p_lifts : Try.prog.liftsFinal = false := lifts_of io_hd
theorem p_ll : Try.prog.laysLater = false := by kernel_rfl
theorem p_br : Try.prog.bearsReflect = false := by kernel_rfl
theorem p_df : Try.prog.doorFits [] = true := by kernel_rfl
theorem p_enter : Try.prog.mayEnter = true := enter_of io_hd p_ll p_br p_df
theorem p_rowed : mapsRowed Try.prog = true := by kernel_rfl
theorem p_stops : (Try.prog.stops == []) = true := by kernel_rfl
theorem p_knobs : (Try.prog.stopKnobs == []) = true := by kernel_rfl
theorem p_keys : Try.prog.plainKeys = false := by kernel_rfl
theorem p_heard : Try.prog.stopsHeard = true := by kernel_rfl
end Go.Proofs.Ytpjpaipkkcengaa
