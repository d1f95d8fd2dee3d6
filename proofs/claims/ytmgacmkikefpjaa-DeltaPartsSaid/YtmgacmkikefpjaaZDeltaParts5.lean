/- Rules, plain words and walks that the claim leans on: Pf, Pg, Pp, Pq, Lzopen, Tb, Vj, Tc. -/
import Derived.Test.YtmgacmkikefpjaaZDeltaParts4
set_option linter.unusedSimpArgs false
set_option linter.unusedVariables false
set_option linter.unusedSimpArgs false
set_option linter.unusedVariables false
set_option maxHeartbeats 2000000
set_option maxRecDepth 100000
namespace Go.Proofs.Ytmgacmkikefpjaa
open Go.RowKit
theorem c_deltaBut (w0 : World) (B : Option Addr) (d : Nat) (rs : List Rw) (hB : Rd w0 B 1 rs.length (rs.map rwV)) (hm : rs.length ≤ 1000000) (hd : rs.length ≤ d) (i : Nat) (hi : i < rs.length)  :
    CallR Try.prog 133 #[.slice B rs.length d, .int .i64 (i : Int)] w0 fun v w' => ∃ C e, v = .slice C (butL rs i rs.length).length e ∧ Ext w0 w' ∧ Rd w' C 1 (butL rs i rs.length).length ((butL rs i rs.length).map rwV) := by
 have hS := St.rd1 (S := NoB) hB
 have hrl := rws_len rs
 have hbe := but_cells hi
 have hbl := but_len hi
 refine c_enter (l := [.slice B rs.length d, .int .i64 (i : Int), undef, undef, undef, undef, undef, undef, undef, undef, undef, undef, undef, undef]) Try.func133 rfl (by simp only [Try.ntmps133, List.size_toArray, List.length_cons, List.length_nil, Nat.reduceAdd, Nat.reduceSub, Array.replicate_succ, Array.replicate_zero, List.push_toArray, List.append_toArray, List.nil_append, List.cons_append]) ?_
 refine x_seq fun K1 hK1 => ?_
 refine x_region ?_
 refine s_go (s_assign) ?_
 try simp only [opv, n1, n2, n3, n4, Value.cells]
 refine x_nil ?_
 refine hK1 _ _ ?_
 refine x_seq fun K2 hK2 => ?_
 refine x_mixed_c (Lc := [.rd B 1 rs.length (rs.map rwV)]) [] 0 [4, 5, 6, 7, 8, 9, 10, 11, 12, 13] (fun f w => ∃ C e, f 4 = .slice C (butL rs i rs.length).length e ∧ Ext w0 w ∧ Rd w C 1 (butL rs i rs.length).length ((butL rs i rs.length).map rwV)) (by kernel_rfl) (by kernel_rfl) (by kernel_rfl) (by decide) hS (fun w1 hS => ?mixpre101) ?mixrest101
 case mixpre101 =>
  refine p_nil ?_
  simp only [List.length_cons, List.length_nil, Nat.reduceAdd, Nat.reduceSub]
  refine any_go (i := 0) (by rfl) (by decide +kernel) (by decide +kernel) noLate_nil (go_yields w_none (fun w hS => s_move)) ?_
  try simp only [opv, n1, n2, n3, n4, Value.cells]
  refine any_go (i := 1) (by rfl) (by decide +kernel) (by decide +kernel) noLate_nil (go_yields w_none (fun w hS => s_move)) ?_
  try simp only [opv, n1, n2, n3, n4, Value.cells]
  refine any_go (i := 2) (by rfl) (by decide +kernel) (by decide +kernel) noLate_nil (go_yields w_none (fun w hS => s_move)) ?_
  try simp only [opv, n1, n2, n3, n4, Value.cells]
  refine any_go (i := 4) (by rfl) (by decide +kernel) (by decide +kernel) noLate_nil (go_yields w_none (fun w hS => s_move)) ?_
  try simp only [opv, n1, n2, n3, n4, Value.cells]
  refine any_go (i := 5) (by rfl) (by decide +kernel) (by decide +kernel) noLate_nil (go_yields w_none (fun w hS => s_move)) ?_
  try simp only [opv, n1, n2, n3, n4, Value.cells]
  refine any_go (i := 6) (by rfl) (by decide +kernel) (by decide +kernel) noLate_nil (go_yields w_none (fun w hS => s_add (hc := by first | exact wr_i64 (by omega) (by omega) | rfl))) ?_
  try simp only [opv, n1, n2, n3, n4, Value.cells]
  rw [show (i : Int) + 1 = ((i + 1 : Nat) : Int) by omega]
  refine any_step [3, 7] (by kernel_rfl) (by decide) (fun w2 hE => ⟨fun _ => (hS.ext hE).sel (by repeat (first | exact Sel.nil | (refine Sel.cons (by repeat (first | exact Del.head | apply Del.tail)) ?_))), ?_⟩)
  replace hS := hS.ext hE
  intro i hi
  simp only [List.mem_cons, List.not_mem_nil, or_false] at hi
  rcases hi with rfl | rfl
  ·
   refine any_op (by rfl) ?_
   refine m_slice_rd (lo := 0) (hi := i) (m := i) Try.underlying22 ti24 (hlo := rfl) (hhi := ⟨_, rfl⟩) (hmx := ⟨_, rfl⟩) (hS := hS) (h := fun A1 hA1 hS => ?_)
   try simp only [Nat.mul_one, Nat.zero_mul] at hA1
   try simp only [← List.map_append, ← List.map_drop, ← List.map_take, Nat.mul_one, Nat.zero_mul, Nat.sub_zero, List.drop_zero, List.nil_append, Nat.zero_add] at hS ⊢
   try simp only [opv, n1, n2, n3, n4, Value.cells, Array.toArray_toList] at hS ⊢
   refine x_nil ?_
   refine any_step [7] (by kernel_rfl) (by decide) (fun w3 hE => ⟨fun _ => (hS.ext hE).sel (by repeat (first | exact Sel.nil | (refine Sel.cons (by repeat (first | exact Del.head | apply Del.tail)) ?_))), ?_⟩)
   replace hS := hS.ext hE
   intro i hi
   simp only [List.mem_cons, List.not_mem_nil, or_false] at hi
   subst hi
   ·
    refine any_op (by rfl) ?_
    refine m_slice_rd (lo := (i + 1)) (hi := _) (m := _) Try.underlying22 ti24 (hlo := ⟨_, rfl⟩) (hhi := ⟨rfl, rfl⟩) (hmx := rfl) (hS := hS) (h := fun A2 hA2 hS => ?_)
    try simp only [Nat.mul_one, Nat.zero_mul] at hA2
    try simp only [← List.map_append, ← List.map_drop, ← List.map_take, Nat.mul_one, Nat.zero_mul, Nat.sub_zero, List.drop_zero, List.nil_append, Nat.zero_add] at hS ⊢
    try simp only [opv, n1, n2, n3, n4, Value.cells, Array.toArray_toList] at hS ⊢
    refine x_nil ?_
    refine any_step [8] (by kernel_rfl) (by decide) (fun w4 hE => ⟨fun _ => (hS.ext hE).sel (by repeat (first | exact Sel.nil | (refine Sel.cons (by repeat (first | exact Del.head | apply Del.tail)) ?_))), ?_⟩)
    replace hS := hS.ext hE
    intro i hi
    simp only [List.mem_cons, List.not_mem_nil, or_false] at hi
    subst hi
    ·
     refine any_op (by rfl) ?_
     refine m_append_cut Try.underlying22 ti24 (hS := hS) (h := fun w5 A5 C5 hS => ?_)
     try simp only [← List.map_append, ← List.map_drop, ← List.map_take, Nat.mul_one, Nat.zero_mul, Nat.sub_zero, List.drop_zero, List.nil_append, Nat.zero_add] at hS ⊢
     try simp only [opv, n1, n2, n3, n4, Value.cells, Array.toArray_toList] at hS ⊢
     refine x_nil ?_
     refine any_go (i := 9) (by rfl) (by decide +kernel) (by decide +kernel) noLate_nil (go_yields w_none (fun w hS => s_assign)) ?_
     try simp only [opv, n1, n2, n3, n4, Value.cells]
     refine any_nil (by kernel_rfl) (fun w6 hE => ?_)
     replace hS := hS.ext hE
     refine ⟨fun _ => hS.sel (by repeat (first | exact Sel.nil | (refine Sel.cons (by repeat (first | exact Del.head | apply Del.tail)) ?_))), ?_⟩
     refine mix_leaf (by simp only [clob, List.foldl, n1, n2, n3, n4]) ?_
     try simp only [n1, n2]
     try simp only [Nat.sub_zero, Nat.mul_one, Nat.zero_mul, List.drop_zero] at hS
     rw [hbe, hbl]
     exact ⟨_, _, by first | trivial | rfl, hS.ext_of, hS.hasRd (by repeat (first | exact Has.head | apply Has.tail))⟩
  ·
   refine any_op (by rfl) ?_
   refine m_slice_rd (lo := (i + 1)) (hi := _) (m := _) Try.underlying22 ti24 (hlo := ⟨_, rfl⟩) (hhi := ⟨rfl, rfl⟩) (hmx := rfl) (hS := hS) (h := fun A3 hA3 hS => ?_)
   try simp only [Nat.mul_one, Nat.zero_mul] at hA3
   try simp only [← List.map_append, ← List.map_drop, ← List.map_take, Nat.mul_one, Nat.zero_mul, Nat.sub_zero, List.drop_zero, List.nil_append, Nat.zero_add] at hS ⊢
   try simp only [opv, n1, n2, n3, n4, Value.cells, Array.toArray_toList] at hS ⊢
   refine x_nil ?_
   refine any_step [3] (by kernel_rfl) (by decide) (fun w7 hE => ⟨fun _ => (hS.ext hE).sel (by repeat (first | exact Sel.nil | (refine Sel.cons (by repeat (first | exact Del.head | apply Del.tail)) ?_))), ?_⟩)
   replace hS := hS.ext hE
   intro i hi
   simp only [List.mem_cons, List.not_mem_nil, or_false] at hi
   subst hi
   ·
    refine any_op (by rfl) ?_
    refine m_slice_rd (lo := 0) (hi := i) (m := i) Try.underlying22 ti24 (hlo := rfl) (hhi := ⟨_, rfl⟩) (hmx := ⟨_, rfl⟩) (hS := hS) (h := fun A4 hA4 hS => ?_)
    try simp only [Nat.mul_one, Nat.zero_mul] at hA4
    try simp only [← List.map_append, ← List.map_drop, ← List.map_take, Nat.mul_one, Nat.zero_mul, Nat.sub_zero, List.drop_zero, List.nil_append, Nat.zero_add] at hS ⊢
    try simp only [opv, n1, n2, n3, n4, Value.cells, Array.toArray_toList] at hS ⊢
    refine x_nil ?_
    refine any_step [8] (by kernel_rfl) (by decide) (fun w8 hE => ⟨fun _ => (hS.ext hE).sel (by repeat (first | exact Sel.nil | (refine Sel.cons (by repeat (first | exact Del.head | apply Del.tail)) ?_))), ?_⟩)
    replace hS := hS.ext hE
    intro i hi
    simp only [List.mem_cons, List.not_mem_nil, or_false] at hi
    subst hi
    ·
     refine any_op (by rfl) ?_
     refine m_append_cut Try.underlying22 ti24 (hS := hS) (h := fun w9 A9 C9 hS => ?_)
     try simp only [← List.map_append, ← List.map_drop, ← List.map_take, Nat.mul_one, Nat.zero_mul, Nat.sub_zero, List.drop_zero, List.nil_append, Nat.zero_add] at hS ⊢
     try simp only [opv, n1, n2, n3, n4, Value.cells, Array.toArray_toList] at hS ⊢
     refine x_nil ?_
     refine any_go (i := 9) (by rfl) (by decide +kernel) (by decide +kernel) noLate_nil (go_yields w_none (fun w hS => s_assign)) ?_
     try simp only [opv, n1, n2, n3, n4, Value.cells]
     refine any_nil (by kernel_rfl) (fun w10 hE => ?_)
     replace hS := hS.ext hE
     refine ⟨fun _ => hS.sel (by repeat (first | exact Sel.nil | (refine Sel.cons (by repeat (first | exact Del.head | apply Del.tail)) ?_))), ?_⟩
     refine mix_leaf (by simp only [clob, List.foldl, n1, n2, n3, n4]) ?_
     try simp only [n1, n2]
     try simp only [Nat.sub_zero, Nat.mul_one, Nat.zero_mul, List.drop_zero] at hS
     rw [hbe, hbl]
     exact ⟨_, _, by first | trivial | rfl, hS.ext_of, hS.hasRd (by repeat (first | exact Has.head | apply Has.tail))⟩
 intro fm1 w11 hM
 obtain ⟨C1, e1, h4, hEE, hRd⟩ := hM
 simp only [clob, List.foldl, n3, n4, h4]
 refine hK2 _ _ ?_
 refine x_ret ?_
 refine r_tmp rfl ?_
 exact ⟨_, _, rfl, hEE, hRd⟩
theorem c_deltaSpare (w0 : World) (A : Option Addr) (c : Nat) (l : List (List Int)) (hr : Rd w0 A 21 l.length (arows l)) (hv : AOks l) (hn : l.length ≤ 100000) (B : Option Addr) (d : Nat) (rs : List Rw) (hB : Rd w0 B 1 rs.length (rs.map rwV)) (hrs : ∀ r ∈ rs, RwOk w0 r) (hm : rs.length ≤ 1000) (hf : (flatR rs).length ≤ 100000)  :
    CallR Try.prog 132 #[.slice A l.length c, .slice B rs.length d] w0 fun v w' => v = .bool (leqP (normP l) (normP (flatR rs))) ∧ Ext w0 w' := by
 have hS := St.rd2 (S := NoB) hr hB
 have hfo := flat_aok (rs := rs) (fun r h => (hrs r h).ok)
 have hfn := norm_len (flatR rs)
 refine c_enter (l := [.slice A l.length c, .slice B rs.length d, undef, undef, undef, undef, undef, undef, undef]) Try.func132 rfl (by simp only [Try.ntmps132, List.size_toArray, List.length_cons, List.length_nil, Nat.reduceAdd, Nat.reduceSub, Array.replicate_succ, Array.replicate_zero, List.push_toArray, List.append_toArray, List.nil_append, List.cons_append]) ?_
 refine x_seq fun K1 hK1 => ?_
 refine x_region ?_
 refine s_go (s_assign) ?_
 try simp only [opv, n1, n2, n3, n4, Value.cells]
 refine x_nil ?_
 refine hK1 _ _ ?_
 refine x_seq fun K2 hK2 => ?_
 refine x_region ?_
 refine s_go (s_move) ?_
 try simp only [opv, n1, n2, n3, n4, Value.cells]
 refine s_go (s_move) ?_
 try simp only [opv, n1, n2, n3, n4, Value.cells]
 refine s_call en26 ?_
 try simp only [opv, n1, n2, n3, n4, Value.cells, List.map_toArray, List.map_cons, List.map_nil, List.append_toArray, List.cons_append, List.nil_append, Array.append_empty]
 refine CallR.mono (c_latAll _ B d rs (hS.hasRd (by repeat (first | exact Has.head | apply Has.tail))) (fun r h => (hrs r h).ext hS.ext_of) (by omega) (by omega)) ?_
 rintro _ w1 ⟨Aa, ca, rfl, hC1⟩
 replace hS := hS.call hC1
 simp only [List.cons_append, List.nil_append] at hS
 try simp only [opv, n1, n2, n3, n4, Value.cells]
 refine s_call en37 ?_
 try simp only [opv, n1, n2, n3, n4, Value.cells, List.map_toArray, List.map_cons, List.map_nil, List.append_toArray, List.cons_append, List.nil_append, Array.append_empty]
 refine CallR.mono (c_latLeq _ A c l (hS.hasRd (by repeat (first | exact Has.head | apply Has.tail))) hv Aa ca (normP (flatR rs)) (hS.vecRd (by repeat (first | exact Has.head | apply Has.tail))) (norm_sta hfo).ok (by omega)) ?_
 rintro _ w2 ⟨rfl, hE2⟩
 replace hS := hS.ext hE2
 try simp only [opv, n1, n2, n3, n4, Value.cells]
 rw [norm_norm hfo]
 refine s_go (s_assign) ?_
 try simp only [opv, n1, n2, n3, n4, Value.cells]
 refine x_nil ?_
 refine hK2 _ _ ?_
 refine x_ret ?_
 refine r_tmp rfl ?_
 exact ⟨rfl, hS.ext_of⟩
theorem c_deltaIrd (w0 : World) (B : Option Addr) (d : Nat) (rs : List Rw) (hB : Rd w0 B 1 rs.length (rs.map rwV)) (hrs : ∀ r ∈ rs, RwOk w0 r) (hm : rs.length ≤ 40) (h30 : ∀ r ∈ rs, r.l.length ≤ 40) (hd : rs.length ≤ d)  :
    CallR Try.prog 51 #[.slice B rs.length d] w0 fun v w' => v = .bool (irrP rs rs.length) ∧ Ext w0 w' := by
 have hS := St.rd1 (S := NoB) hB
 have hrl := rws_len rs
 refine c_enter (l := [.slice B rs.length d, undef, undef, undef, undef, undef, undef, undef, undef, undef, undef, undef, undef, undef, undef, undef, undef, undef]) Try.func51 rfl (by simp only [Try.ntmps51, List.size_toArray, List.length_cons, List.length_nil, Nat.reduceAdd, Nat.reduceSub, Array.replicate_succ, Array.replicate_zero, List.push_toArray, List.append_toArray, List.nil_append, List.cons_append]) ?_
 refine x_seq fun K1 hK1 => ?_
 refine x_region ?_
 refine s_go (s_assign) ?_
 try simp only [opv, n1, n2, n3, n4, Value.cells]
 refine x_nil ?_
 refine hK1 _ _ ?_
 refine x_seq fun K2 hK2 => ?_
 refine x_seq fun K3 hK3 => ?_
 refine x_region ?_
 refine s_go (s_move) ?_
 try simp only [opv, n1, n2, n3, n4, Value.cells]
 refine s_go (s_len_sl Try.underlying22) ?_
 try simp only [opv, n1, n2, n3, n4, Value.cells]
 refine s_go (s_move) ?_
 try simp only [opv, n1, n2, n3, n4, Value.cells]
 refine x_nil ?_
 refine hK3 _ _ ?_
 refine x_block ?_
 refine x_loop [2, 3, 4, 7, 8, 9, 10, 11, 12, 13, 14, 15, 16, 17] (fun m f w => ∃ k : Nat, k ≤ rs.length ∧ m = rs.length - k ∧ f 7 = .int .i64 (k : Int) ∧ irrP rs k = true ∧ St NoB w0 w [.rd B 1 rs.length (rs.map rwV)]) (rs.length) ?init1 (fun m1 f1 wl1 hI => ?_)
 case init1 =>
  try simp only [opv, n1, n2, n3, n4, Value.cells]
  exact ⟨0, by omega, rfl, rfl, rfl, hS⟩
 obtain ⟨k, hk0, hmk, hf, hir, hS⟩ := hI
 simp only [clob, List.foldl, n3, n4, hf]
 obtain ⟨x, hx⟩ : ∃ r, rs.getD k rw0 = r := ⟨_, rfl⟩
 refine x_seq fun K4 hK4 => ?_
 refine x_region ?_
 refine s_go (s_lss) ?_
 try simp only [opv, n1, n2, n3, n4, Value.cells]
 refine x_nil ?_
 refine hK4 _ _ ?_
 refine x_seq fun K5 hK5 => ?_
 refine x_cond (ht := fun hc1 => ?_) (hf := fun hc1 => ?_)
 ·
  try simp only [decide_eq_true_eq, decide_eq_false_iff_not, Bool.not_eq_true', Bool.not_eq_false', Int.not_lt, Int.not_le, ne_eq, Decidable.not_not, bne_iff_ne, beq_iff_eq, not_true_eq_false, not_false_eq_true] at hc1
  have hx3 := h30 _ (rws_mem (by omega) hx)
  have hbm : ∀ r ∈ butL rs k rs.length, RwOk w0 r := fun r h => hrs r (but_mem (Nat.le_refl _) h)
  have hbf := flat_sub_len h30 k rs.length (Nat.le_refl _)
  have hbn := but_len (rs := rs) (i := k) (by omega)
  refine x_skip ?_
  refine hK5 _ _ ?_
  refine x_seq fun K6 hK6 => ?_
  refine x_block ?_
  refine x_seq fun K7 hK7 => ?_
  refine x_region ?_
  refine s_go (s_move) ?_
  try simp only [opv, n1, n2, n3, n4, Value.cells]
  first | refine s_go (m_indexAddr_rd Try.underlying22 ti24 (hS := hS)) ?_ | refine s_go (m_indexAddr_vec Try.underlying22 ti24 (hS := hS)) ?_
  try simp only [opv, n1, n2, n3, n4, Value.cells, Nat.mul_one, Nat.zero_add, Int.toNat_natCast, Int.reduceToNat]
  first | refine s_go (m_load_obj Try.underlying24 (hS := hS) (hv := rws_get (by omega) hx)) ?_ | refine s_go (m_load_bx Try.underlying24 (hS := hS) (hv := rws_get (by omega) hx)) ?_ | refine s_go (m_load_rd Try.underlying24 (hS := hS) (hv := rws_get (by omega) hx)) ?_ | refine s_go (m_load_vec Try.underlying24 (hS := hS) (hv := rws_get (by omega) hx)) ?_
  try simp only [opv, n1, n2, n3, n4, Value.cells, List.getElem_toArray, List.getElem_cons_zero, List.getElem_cons_succ]
  refine s_go (s_assign) ?_
  try simp only [opv, n1, n2, n3, n4, Value.cells]
  refine s_go (s_assign) ?_
  try simp only [opv, n1, n2, n3, n4, Value.cells]
  refine x_nil ?_
  refine hK7 _ _ ?_
  refine x_seq fun K8 hK8 => ?_
  refine x_region ?_
  refine s_go (s_move) ?_
  try simp only [opv, n1, n2, n3, n4, Value.cells]
  refine s_go (s_move) ?_
  try simp only [opv, n1, n2, n3, n4, Value.cells]
  refine s_go (s_move) ?_
  try simp only [opv, n1, n2, n3, n4, Value.cells]
  refine s_call en133 ?_
  try simp only [opv, n1, n2, n3, n4, Value.cells, List.map_toArray, List.map_cons, List.map_nil, List.append_toArray, List.cons_append, List.nil_append, Array.append_empty]
  refine CallR.mono (c_deltaBut _ B d rs (hS.hasRd (by repeat (first | exact Has.head | apply Has.tail))) (by omega) hd k (by omega)) ?_
  rintro _ w1 ⟨Cb, cb, rfl, hE1, hRb⟩
  replace hS := hS.ext hE1
  try simp only [opv, n1, n2, n3, n4, Value.cells]
  refine s_call en132 ?_
  try simp only [opv, n1, n2, n3, n4, Value.cells, List.map_toArray, List.map_cons, List.map_nil, List.append_toArray, List.cons_append, List.nil_append, Array.append_empty]
  refine CallR.mono (c_deltaSpare _ x.A x.c x.l (RwOk.at hrs hS.ext_of (by omega) hx).1 (RwOk.at hrs hS.ext_of (by omega) hx).2 (by omega) Cb cb (butL rs k rs.length) hRb (fun r h => (hbm r h).ext hS.ext_of) (by omega) (by omega)) ?_
  rintro _ w2 ⟨rfl, hE2⟩
  replace hS := hS.ext hE2
  try simp only [opv, n1, n2, n3, n4, Value.cells]
  refine x_nil ?_
  refine hK8 _ _ ?_
  refine x_cond (ht := fun hc2 => ?_) (hf := fun hc2 => ?_)
  ·
   try simp only [decide_eq_true_eq, decide_eq_false_iff_not, Bool.not_eq_true', Bool.not_eq_false', Int.not_lt, Int.not_le, ne_eq, Decidable.not_not, bne_iff_ne, beq_iff_eq, not_true_eq_false, not_false_eq_true] at hc2
   have hsp : spQ x.l rs k = true := hc2
   have hin := irr_no (hx.symm ▸ hsp) (n := rs.length) (by omega)
   refine x_seq fun K9 hK9 => ?_
   refine x_region ?_
   refine s_go (s_assign) ?_
   try simp only [opv, n1, n2, n3, n4, Value.cells]
   refine x_nil ?_
   refine hK9 _ _ ?_
   refine x_ret ?_
   refine r_tmp rfl ?_
   first | exact ⟨by rw [hin]; rfl, hS.ext_of⟩ | exact ⟨by rw [hir]; rfl, hS.ext_of⟩
  ·
   try simp only [decide_eq_true_eq, decide_eq_false_iff_not, Bool.not_eq_true', Bool.not_eq_false', Int.not_lt, Int.not_le, ne_eq, Decidable.not_not, bne_iff_ne, beq_iff_eq, not_true_eq_false, not_false_eq_true] at hc2
   have hsp : spQ x.l rs k = false := by first | (unfold spQ; simpa using hc2) | simpa using hc2
   refine x_skip ?_
   refine hK6 _ _ ?_
   refine x_region ?_
   refine s_go (s_add (hc := by first | exact wr_i64 (by omega) (by omega) | rfl)) ?_
   try simp only [opv, n1, n2, n3, n4, Value.cells]
   refine s_go (s_move) ?_
   try simp only [opv, n1, n2, n3, n4, Value.cells]
   refine x_nil ?_
   refine loop_back (m' := rs.length - (k + 1)) (by simp only [clob, List.foldl, n1, n2, n3, n4]) ?_ ?_
   · try simp only [opv, n1, n2, n3, n4, Value.cells]
     exact ⟨k + 1, by omega, by omega, by rfl, by rw [irrP, hir, hx, hsp]; rfl, hS.sel (by repeat (first | exact Sel.nil | (refine Sel.cons (by repeat (first | exact Del.head | apply Del.tail)) ?_)))⟩
   · omega
 ·
  try simp only [decide_eq_true_eq, decide_eq_false_iff_not, Bool.not_eq_true', Bool.not_eq_false', Int.not_lt, Int.not_le, ne_eq, Decidable.not_not, bne_iff_ne, beq_iff_eq, not_true_eq_false, not_false_eq_true] at hc1
  obtain rfl : k = rs.length := by omega
  refine x_exit (look_here ?_)
  refine hK2 _ _ ?_
  refine x_seq fun K10 hK10 => ?_
  refine x_region ?_
  refine s_go (s_assign) ?_
  try simp only [opv, n1, n2, n3, n4, Value.cells]
  refine x_nil ?_
  refine hK10 _ _ ?_
  refine x_ret ?_
  refine r_tmp rfl ?_
  first | exact ⟨by rw [hin]; rfl, hS.ext_of⟩ | exact ⟨by rw [hir]; rfl, hS.ext_of⟩
end Go.Proofs.Ytmgacmkikefpjaa
set_option linter.unusedSimpArgs false
set_option linter.unusedVariables false
set_option maxHeartbeats 2000000
set_option maxRecDepth 100000
namespace Go.Proofs.Ytmgacmkikefpjaa
open Go.RowKit

theorem callR_eq {P : Program} {n : Nat} {a b : Array Value} {w : World} {R : Value → World → Prop} (h : a = b) (hc : CallR P n a w R) : CallR P n b w R := h ▸ hc
theorem rws_one (rs : List Rw) : ∀ u ∈ rs.map rwV, u.oneCell' = true := fun u hu => by
  obtain ⟨r, _, rfl⟩ := List.mem_map.1 hu
  rfl
theorem ndl_on {rs L : List Rw} {o : List Int} {k : Nat} {x : Rw} (h : ndlS rs k = (L, o)) (hx : rs.getD k rw0 = x) (hs : spQ x.l L k = true) : ndlS rs (k + 1) = (L.set k rw0, o ++ [(k : Int)]) := by
  rw [ndlS, h, hx, if_pos hs]
theorem ndl_off {rs L : List Rw} {o : List Int} {k : Nat} {x : Rw} (h : ndlS rs k = (L, o)) (hx : rs.getD k rw0 = x) (hs : spQ x.l L k = false) : ndlS rs (k + 1) = (L, o) := by
  rw [ndlS, h, hx, if_neg (by rw [hs]; decide)]
theorem ndl_facts {rs L : List Rw} {o : List Int} {k : Nat} (h : ndlS rs k = (L, o)) : L.length = rs.length ∧ o.length ≤ k ∧ ∀ r ∈ L, r ∈ rs ∨ r = rw0 := by
  have h1 := ndl_len rs k
  have h2 := ndl_out rs k
  have h3 := ndl_mem rs k
  rw [h] at h1 h2 h3
  exact ⟨h1, h2, h3⟩
theorem ndl_ok {w0 w : World} {rs L : List Rw} (h : ∀ r ∈ L, r ∈ rs ∨ r = rw0) (hrs : ∀ r ∈ rs, RwOk w0 r) (hE : Ext w0 w) : ∀ r ∈ L, RwOk w r := fun r hr => (h r hr).elim (fun h => (hrs r h).ext hE) (fun h => h ▸ rw0_ok w)
theorem ndl_le {M : Nat} {rs L : List Rw} (h : ∀ r ∈ L, r ∈ rs ∨ r = rw0) (hM : ∀ r ∈ rs, r.l.length ≤ M) : ∀ r ∈ L, r.l.length ≤ M := fun r hr => (h r hr).elim (hM r) (fun h => h ▸ Nat.zero_le _)

theorem c_deltaNdl (w0 : World) (B : Option Addr) (d : Nat) (rs : List Rw) (hB : Rd w0 B 1 rs.length (rs.map rwV)) (hrs : ∀ r ∈ rs, RwOk w0 r) (hm : rs.length ≤ 40) (h30 : ∀ r ∈ rs, r.l.length ≤ 40)  :
    CallR Try.prog 49 #[.slice B rs.length d] w0 fun v w' => ∃ A c, v = .slice A ((ndlS rs rs.length).2).length c ∧ St NoB w0 w' [.vec A c 3 1 ((ndlS rs rs.length).2).length (((ndlS rs rs.length).2).map (Value.int .i64))] := by
 have hS := St.rd1 (S := NoB) hB
 have hrl := rws_len rs
 refine c_enter (l := [.slice B rs.length d, undef, undef, undef, undef, undef, undef, undef, undef, undef, undef, undef, undef, undef, undef, undef, undef, undef, undef, undef, undef, undef, undef, undef, undef, undef, undef, undef, undef, undef, undef]) Try.func49 rfl (by simp only [Try.ntmps49, List.size_toArray, List.length_cons, List.length_nil, Nat.reduceAdd, Nat.reduceSub, Array.replicate_succ, Array.replicate_zero, List.push_toArray, List.append_toArray, List.nil_append, List.cons_append]) ?_
 refine x_seq fun K1 hK1 => ?_
 refine x_region ?_
 refine s_go (s_assign) ?_
 try simp only [opv, n1, n2, n3, n4, Value.cells]
 refine x_nil ?_
 refine hK1 _ _ ?_
 refine x_scope ?_
 refine x_seq fun K2 hK2 => ?_
 refine x_region ?_
 refine m_buildRow (cells := #[]) Try.underlying22 ti24 (hc := by simp only [List.map_toArray, List.map_cons, List.map_nil, opv, n1, n2, n3, n4, Value.cells, List.toList_toArray]; (repeat (refine fill_cons rfl rfl (Nat.le_of_ble_eq_true rfl) ?_)); rfl) (hS := hS) (h := fun w1 g1 hS => ?_)
 try simp only [opv, n1, n2, n3, n4, Value.cells, Array.toArray_toList] at hS ⊢
 replace hS := hS.obj_vec (sz := 1) (n := 0) rfl (by decide) .head
 refine s_go (s_move) ?_
 try simp only [opv, n1, n2, n3, n4, Value.cells]
 refine m_append Try.underlying22 ti24 (hS := hS) (h1 := rws_one rs) (h := fun w2 A2 C2 hS => ?_)
 try simp only [← List.map_append, ← List.map_drop, ← List.map_take, Nat.mul_one, Nat.zero_mul, Nat.sub_zero, List.drop_zero, List.nil_append, Nat.zero_add] at hS ⊢
 try simp only [opv, n1, n2, n3, n4, Value.cells, Array.toArray_toList] at hS ⊢
 obtain ⟨D, hD⟩ : ∃ z, z = A2 := ⟨_, rfl⟩
 obtain ⟨De, hDe⟩ : ∃ z, z = C2 := ⟨_, rfl⟩
 rw [← hD, ← hDe] at hS ⊢
 have hDc := hS.vec_cap (by exact Has.head)
 refine s_go (s_assign) ?_
 try simp only [opv, n1, n2, n3, n4, Value.cells]
 refine x_nil ?_
 refine hK2 _ _ ?_
 refine x_seq fun K3 hK3 => ?_
 refine x_label ?_
 refine hK3 _ _ ?_
 refine x_seq fun K4 hK4 => ?_
 refine x_seq fun K5 hK5 => ?_
 refine x_region ?_
 refine s_go (s_move) ?_
 try simp only [opv, n1, n2, n3, n4, Value.cells]
 refine s_go (s_len_sl Try.underlying22) ?_
 try simp only [opv, n1, n2, n3, n4, Value.cells]
 refine s_go (s_move) ?_
 try simp only [opv, n1, n2, n3, n4, Value.cells]
 refine x_nil ?_
 refine hK5 _ _ ?_
 refine x_block ?_
 refine x_loop [2, 4, 5, 11, 12, 13, 14, 15, 16, 17, 18, 19, 20, 21, 22, 23, 24, 25, 26, 27, 28, 29] (fun m f w => ∃ (k : Nat) (O : Option Addr) (oe : Nat) (L : List Rw) (o : List Int), k ≤ rs.length ∧ m = rs.length - k ∧ f 11 = .int .i64 (k : Int) ∧ ndlS rs k = (L, o) ∧ f 2 = .slice O o.length oe ∧ St NoB w0 w [.vec O oe 3 1 (o).length ((o).map (Value.int .i64)), .vec D De 24 1 rs.length ((L).map rwV), .rd B 1 rs.length (rs.map rwV)]) (rs.length) ?init1 (fun m1 f1 wl1 hI => ?_)
 case init1 =>
  try simp only [opv, n1, n2, n3, n4, Value.cells]
  replace hS := hS.nil_vec 3 1
  exact ⟨0, none, 0, rs, [], by omega, rfl, rfl, rfl, rfl, hS.sel (by repeat (first | exact Sel.nil | (refine Sel.cons (by repeat (first | exact Del.head | apply Del.tail)) ?_)))⟩
 obtain ⟨k, O, oe, L, o, hk0, hmk, hfi, hnd, hfo, hS⟩ := hI
 simp only [clob, List.foldl, n3, n4, hfi, hfo]
 obtain ⟨x, hx⟩ : ∃ r, rs.getD k rw0 = r := ⟨_, rfl⟩
 obtain ⟨hLl, hol, hLm⟩ := ndl_facts hnd
 have hLe := ndl_le hLm h30
 have hLo := ndl_ok hLm hrs hS.ext_of
 refine x_seq fun K6 hK6 => ?_
 refine x_region ?_
 refine s_go (s_lss) ?_
 try simp only [opv, n1, n2, n3, n4, Value.cells]
 refine x_nil ?_
 refine hK6 _ _ ?_
 refine x_seq fun K7 hK7 => ?_
 refine x_cond (ht := fun hc1 => ?_) (hf := fun hc1 => ?_)
 ·
  try simp only [decide_eq_true_eq, decide_eq_false_iff_not, Bool.not_eq_true', Bool.not_eq_false', Int.not_lt, Int.not_le, ne_eq, Decidable.not_not, bne_iff_ne, beq_iff_eq, not_true_eq_false, not_false_eq_true] at hc1
  have hx3 := h30 _ (rws_mem (by omega) hx)
  have hbf := flat_sub_len hLe k L.length (Nat.le_refl _)
  have hbn := but_len (rs := L) (i := k) (by omega)
  refine x_skip ?_
  refine hK7 _ _ ?_
  refine x_seq fun K8 hK8 => ?_
  refine x_block ?_
  refine x_seq fun K9 hK9 => ?_
  refine x_region ?_
  refine s_go (s_move) ?_
  try simp only [opv, n1, n2, n3, n4, Value.cells]
  first | refine s_go (m_indexAddr_rd Try.underlying22 ti24 (hS := hS)) ?_ | refine s_go (m_indexAddr_vec Try.underlying22 ti24 (hS := hS)) ?_
  try simp only [opv, n1, n2, n3, n4, Value.cells, Nat.mul_one, Nat.zero_add, Int.toNat_natCast, Int.reduceToNat]
  first | refine s_go (m_load_obj Try.underlying24 (hS := hS) (hv := rws_get (by omega) hx)) ?_ | refine s_go (m_load_bx Try.underlying24 (hS := hS) (hv := rws_get (by omega) hx)) ?_ | refine s_go (m_load_rd Try.underlying24 (hS := hS) (hv := rws_get (by omega) hx)) ?_ | refine s_go (m_load_vec Try.underlying24 (hS := hS) (hv := rws_get (by omega) hx)) ?_
  try simp only [opv, n1, n2, n3, n4, Value.cells, List.getElem_toArray, List.getElem_cons_zero, List.getElem_cons_succ]
  refine s_go (s_assign) ?_
  try simp only [opv, n1, n2, n3, n4, Value.cells]
  refine s_go (s_assign) ?_
  try simp only [opv, n1, n2, n3, n4, Value.cells]
  refine x_nil ?_
  refine hK9 _ _ ?_
  refine x_seq fun K10 hK10 => ?_
  refine x_seq fun K11 hK11 => ?_
  refine x_region ?_
  refine s_go (s_move) ?_
  try simp only [opv, n1, n2, n3, n4, Value.cells]
  refine s_go (s_move) ?_
  try simp only [opv, n1, n2, n3, n4, Value.cells]
  refine s_go (s_move) ?_
  try simp only [opv, n1, n2, n3, n4, Value.cells]
  refine s_call en133 ?_
  try simp only [opv, n1, n2, n3, n4, Value.cells, List.map_toArray, List.map_cons, List.map_nil, List.append_toArray, List.cons_append, List.nil_append, Array.append_empty]
  refine CallR.mono (callR_eq (by rw [hLl]) (c_deltaBut _ D De L (by rw [hLl]; exact hS.vecRd (by repeat (first | exact Has.head | apply Has.tail))) (by omega) (by omega) k (by omega))) ?_
  rintro _ w3 ⟨Cb, cb, rfl, hE3, hRb⟩
  replace hS := hS.ext hE3
  try simp only [opv, n1, n2, n3, n4, Value.cells]
  refine s_call en132 ?_
  try simp only [opv, n1, n2, n3, n4, Value.cells, List.map_toArray, List.map_cons, List.map_nil, List.append_toArray, List.cons_append, List.nil_append, Array.append_empty]
  refine CallR.mono (c_deltaSpare _ x.A x.c x.l (RwOk.at hrs hS.ext_of (by omega) hx).1 (RwOk.at hrs hS.ext_of (by omega) hx).2 (by omega) Cb cb (butL L k L.length) hRb (fun r h => ndl_ok hLm hrs hS.ext_of r (but_mem (Nat.le_refl _) h)) (by omega) (by omega)) ?_
  rintro _ w4 ⟨rfl, hE4⟩
  replace hS := hS.ext hE4
  try simp only [opv, n1, n2, n3, n4, Value.cells]
  refine s_go (s_not) ?_
  try simp only [opv, n1, n2, n3, n4, Value.cells]
  refine x_nil ?_
  refine hK11 _ _ ?_
  refine x_cond (ht := fun hc2 => ?_) (hf := fun hc2 => ?_)
  ·
   try simp only [decide_eq_true_eq, decide_eq_false_iff_not, Bool.not_eq_true', Bool.not_eq_false', Int.not_lt, Int.not_le, ne_eq, Decidable.not_not, bne_iff_ne, beq_iff_eq, not_true_eq_false, not_false_eq_true] at hc2
   have hsp : spQ x.l L k = false := by first | (unfold spQ; simpa using hc2) | simpa using hc2
   have hst := ndl_off hnd hx hsp
   refine x_exit (look_here ?_)
   refine hK8 _ _ ?_
   refine x_region ?_
   refine s_go (s_add (hc := by first | exact wr_i64 (by omega) (by omega) | rfl)) ?_
   try simp only [opv, n1, n2, n3, n4, Value.cells]
   refine s_go (s_move) ?_
   try simp only [opv, n1, n2, n3, n4, Value.cells]
   refine x_nil ?_
   refine loop_back (m' := rs.length - (k + 1)) (by simp only [clob, List.foldl, n1, n2, n3, n4]) ?_ ?_
   · try simp only [opv, n1, n2, n3, n4, Value.cells]
     first
     | exact ⟨k + 1, _, _, L.set k rw0, o ++ [(k : Int)], by omega, by omega, by rfl, hst, by rw [List.length_append]; rfl, by rw [List.length_append]; exact hS.sel (by repeat (first | exact Sel.nil | (refine Sel.cons (by repeat (first | exact Del.head | apply Del.tail)) ?_)))⟩
     | exact ⟨k + 1, _, _, L, o, by omega, by omega, by rfl, hst, by rfl, hS.sel (by repeat (first | exact Sel.nil | (refine Sel.cons (by repeat (first | exact Del.head | apply Del.tail)) ?_)))⟩
   · omega
  ·
   try simp only [decide_eq_true_eq, decide_eq_false_iff_not, Bool.not_eq_true', Bool.not_eq_false', Int.not_lt, Int.not_le, ne_eq, Decidable.not_not, bne_iff_ne, beq_iff_eq, not_true_eq_false, not_false_eq_true] at hc2
   have hsp : spQ x.l L k = true := by first | (unfold spQ; simpa using hc2) | simpa using hc2
   have hst := ndl_on hnd hx hsp
   refine x_skip ?_
   refine hK10 _ _ ?_
   refine x_region ?_
   refine s_go (s_move) ?_
   try simp only [opv, n1, n2, n3, n4, Value.cells]
   refine s_go (s_move) ?_
   try simp only [opv, n1, n2, n3, n4, Value.cells]
   refine s_go (s_move) ?_
   try simp only [opv, n1, n2, n3, n4, Value.cells]
   refine s_go (s_move) ?_
   try simp only [opv, n1, n2, n3, n4, Value.cells]
   refine m_buildRow (cells := #[_]) Try.underlying62 ti3 (hc := by simp only [List.map_toArray, List.map_cons, List.map_nil, opv, n1, n2, n3, n4, Value.cells, List.toList_toArray]; (repeat (refine fill_cons rfl rfl (Nat.le_of_ble_eq_true rfl) ?_)); rfl) (hS := hS) (h := fun w5 g5 hS => ?_)
   try simp only [opv, n1, n2, n3, n4, Value.cells, Array.toArray_toList] at hS ⊢
   replace hS := hS.obj_vec (sz := 1) (n := 1) rfl (by decide) .head
   refine m_append_vec Try.underlying62 ti3 (hS := hS) (news := [(k : Int)].map (Value.int .i64)) (h := fun w6 A6 C6 hS => ?_)
   try simp only [← List.map_append, ← List.map_drop, ← List.map_take, Nat.mul_one, Nat.zero_mul, Nat.sub_zero, List.drop_zero, List.nil_append, Nat.zero_add] at hS ⊢
   try simp only [opv, n1, n2, n3, n4, Value.cells, Array.toArray_toList] at hS ⊢
   refine s_go (s_assign) ?_
   try simp only [opv, n1, n2, n3, n4, Value.cells]
   first | refine s_go (m_indexAddr_rd Try.underlying22 ti24 (hS := hS)) ?_ | refine s_go (m_indexAddr_vec Try.underlying22 ti24 (hS := hS)) ?_
   try simp only [opv, n1, n2, n3, n4, Value.cells, Nat.mul_one, Nat.zero_add, Int.toNat_natCast, Int.reduceToNat]
   refine m_store_vec ti24 (hS := hS) (hc := by exact rw_set (by omega)) (h := fun w7 hS => ?_)
   try simp only [opv, n1, n2, n3, n4, Value.cells, Array.toArray_toList] at hS ⊢
   refine x_nil ?_
   refine hK8 _ _ ?_
   refine x_region ?_
   refine s_go (s_add (hc := by first | exact wr_i64 (by omega) (by omega) | rfl)) ?_
   try simp only [opv, n1, n2, n3, n4, Value.cells]
   refine s_go (s_move) ?_
   try simp only [opv, n1, n2, n3, n4, Value.cells]
   refine x_nil ?_
   refine loop_back (m' := rs.length - (k + 1)) (by simp only [clob, List.foldl, n1, n2, n3, n4]) ?_ ?_
   · try simp only [opv, n1, n2, n3, n4, Value.cells]
     first
     | exact ⟨k + 1, _, _, L.set k rw0, o ++ [(k : Int)], by omega, by omega, by rfl, hst, by rw [List.length_append]; rfl, by rw [List.length_append]; exact hS.sel (by repeat (first | exact Sel.nil | (refine Sel.cons (by repeat (first | exact Del.head | apply Del.tail)) ?_)))⟩
     | exact ⟨k + 1, _, _, L, o, by omega, by omega, by rfl, hst, by rfl, hS.sel (by repeat (first | exact Sel.nil | (refine Sel.cons (by repeat (first | exact Del.head | apply Del.tail)) ?_)))⟩
   · omega
 ·
  try simp only [decide_eq_true_eq, decide_eq_false_iff_not, Bool.not_eq_true', Bool.not_eq_false', Int.not_lt, Int.not_le, ne_eq, Decidable.not_not, bne_iff_ne, beq_iff_eq, not_true_eq_false, not_false_eq_true] at hc1
  obtain rfl : k = rs.length := by omega
  refine x_exit (look_here ?_)
  refine hK4 _ _ ?_
  refine x_seq fun K12 hK12 => ?_
  refine x_region ?_
  refine s_go (s_move) ?_
  try simp only [opv, n1, n2, n3, n4, Value.cells]
  refine s_go (s_assign) ?_
  try simp only [opv, n1, n2, n3, n4, Value.cells]
  refine x_nil ?_
  refine hK12 _ _ ?_
  refine x_ret ?_
  refine r_tmp rfl ?_
  rw [hnd]
  exact ⟨_, _, rfl, hS.sel (by repeat (first | exact Sel.nil | (refine Sel.cons (by repeat (first | exact Del.head | apply Del.tail)) ?_)))⟩
end Go.Proofs.Ytmgacmkikefpjaa
set_option linter.unusedSimpArgs false
set_option linter.unusedVariables false
set_option maxHeartbeats 2000000
set_option maxRecDepth 100000
namespace Go.Proofs.Ytmgacmkikefpjaa
open Go.RowKit

theorem App.any (R T : List Res) : App R T (R ++ T) := by
  induction R with
  | nil => exact .nil
  | cons x R ih => exact .cons ih
theorem St.subl {S : Nat → Prop} {w0 w : World} {L L' : List Res} (h : St S w0 w L) (hs : L'.Sublist L) : St S w0 w L' := ⟨h.keep, fun r hr => h.holds r (hs.subset hr), fun r hr => h.own r (hs.subset hr), h.apart.sublist hs⟩
def rdR (r : Rw) : Res := .rd r.A 21 r.l.length (arows r.l)
theorem fr_snoc {n g : Nat} {ps : List Rw} {l : List (List Int)} {c : Nat} (h : ∀ p ∈ ps, ∀ g, (rdR p).reads = some g → n ≤ g) (hg : n ≤ g) : ∀ p ∈ ps ++ [(⟨some ⟨g, 0, none⟩, c, l⟩ : Rw)], ∀ g, (rdR p).reads = some g → n ≤ g := fun p hp q hq => by
  rcases List.mem_append.1 hp with hp | hp
  · exact h p hp q hq
  · rw [List.mem_singleton] at hp
    subst hp
    simp only [rdR, Res.reads] at hq
    split at hq
    · cases hq
    · simp only [Option.map_some, Option.some.injEq] at hq; omega
def oneP (a : List Int) : List (List Int) := [a]
theorem one_take {s : List (List Int)} {ps : List Rw} {p : Rw} {k : Nat} {x : List Int} (hk : k < s.length) (hx : s.getD k [] = x) (h : ps.map (·.l) = (s.take k).map oneP) (hp : p.l = [x]) : (ps ++ [p]).map (·.l) = (s.take (k + 1)).map oneP := by
  rw [List.map_append, h, take_snoc hk, hx, List.map_append, List.map_cons, List.map_cons, hp]; rfl
theorem rev_one {ps : List Rw} {p : Rw} : (ps ++ [p]).reverse.map rdR = rdR p :: ps.reverse.map rdR := by rw [List.reverse_append]; rfl
theorem flat_parts {ps : List Rw} {s : List (List Int)} (h : ps.map (·.l) = s.map oneP) : flatR ps = s := by
  rw [flatR, h]
  clear h
  induction s with
  | nil => rfl
  | cons a s ih => rw [List.map_cons, List.flatten_cons, ih]; rfl
theorem part_at {ps : List Rw} {s : List (List Int)} {k : Nat} {x : Rw} (h : ps.map (·.l) = s.map oneP) (hk : k < ps.length) (hx : ps.getD k rw0 = x) : x.l = [s.getD k []] := by
  have hl : ps.length = s.length := by have := congrArg List.length h; simpa using this
  have h1 : (ps.map (·.l))[k]? = (s.map oneP)[k]? := by rw [h]
  rw [List.getElem?_map, List.getElem?_map, List.getElem?_eq_getElem hk, List.getElem?_eq_getElem (by omega)] at h1
  rw [← hx, rw_here hk, getD_lt (by omega)]
  simpa [oneP] using h1
theorem parts_ok {ps : List Rw} {s : List (List Int)} (hs : StaR s) (h : ps.map (·.l) = s.map oneP) : ∀ p ∈ ps, AOks p.l ∧ p.l.length ≤ 1 := fun p hp => by
  have h1 : p.l ∈ s.map oneP := by rw [← h]; exact List.mem_map.2 ⟨p, hp, rfl⟩
  obtain ⟨a, ha, e⟩ := List.mem_map.1 h1
  rw [← e]
  exact ⟨ok_one (hs.ok a ha), Nat.le_refl _⟩
theorem part_fnd {ps : List Rw} {s : List (List Int)} (hs : StaR s) (h : ps.map (·.l) = s.map oneP) {k : Nat} (hk : k < ps.length) : ∀ m, m ≤ ps.length → fnd (akey (s.getD k [])) (flatR (butL ps k m)) = none
  | 0, _ => rfl
  | m + 1, hm => by
    have ih := part_fnd hs h hk m (by omega)
    have hl : ps.length = s.length := by have := congrArg List.length h; simpa using this
    rw [butL]
    split
    · exact ih
    · next e =>
      rw [flat_app, fnd_app ih]
      have e1 := part_at h (k := m) (by omega) rfl
      show fnd _ (flatR [ps.getD m rw0]) = none
      have e2 : flatR [ps.getD m rw0] = [s.getD m []] := by rw [← e1]; simp [flatR]
      rw [e2, fnd, if_neg]
      · rfl
      · intro e3
        have h1 : s.getD m [] = s[m] := getD_lt (by omega)
        have h2 : s.getD k [] = s[k] := getD_lt (by omega)
        rw [h1, h2] at e3
        have hp := hs.sorted
        rw [List.pairwise_iff_getElem] at hp
        rcases Nat.lt_or_gt_of_ne e with e4 | e4
        · have := hp m k (by omega) (by omega) e4; rw [e3] at this; omega
        · have := hp k m (by omega) (by omega) e4; rw [e3] at this; omega
theorem part_spare {ps : List Rw} {s : List (List Int)} (hs : StaR s) (h : ps.map (·.l) = s.map oneP) {k : Nat} {x : Rw} (hk : k < ps.length) (hx : ps.getD k rw0 = x) : spQ x.l ps k = false := by
  have hl : ps.length = s.length := by have := congrArg List.length h; simpa using this
  have hm : s.getD k [] ∈ s := getD_mem' (by omega)
  have ha := hs.ok _ hm
  have e1 := part_at h hk hx
  have hob : ∀ r ∈ butL ps k ps.length, AOks r.l := fun r hr => (parts_ok hs h r (but_mem (Nat.le_refl _) hr)).1
  have hfo := flat_aok hob
  cases h2 : spQ x.l ps k
  · rfl
  · have h3 := (leqN (by rw [e1]; exact ok_one ha) hfo).1 h2 (akey (s.getD k []))
    have h4 := part_fnd hs h hk ps.length (Nat.le_refl _)
    have h5 : fnd (akey (s.getD k [])) (normP x.l) = some (aval (s.getD k [])) := by
      rw [e1, norm_id (one_sta ha (hs.right _ hm)), fnd, if_pos rfl]
    have h6 : rnk (fnd (akey (s.getD k [])) (normP (flatR (butL ps k ps.length)))) = 0 := by
      rw [rnk_norm hfo]
      have h7 := lk_from (k := akey (s.getD k [])) (l := flatR (butL ps k ps.length)) (o := none) noneOk hfo
      have h8 : ∀ (t : List (List Int)), fnd (akey (s.getD k [])) t = none → lk (akey (s.getD k [])) t = none := by
        intro t
        unfold lk
        induction t with
        | nil => intro _; rfl
        | cons a t ih =>
          intro hn
          have hn2 := fnd_none.1 hn
          rw [List.foldl_cons]
          have e3 : lkF (akey (s.getD k [])) none a = none := by rw [lkF, if_neg (fun q => hn2 a (by simp) q.2)]
          rw [e3]
          exact ih (fnd_none.2 fun b hb => hn2 b (by simp [hb]))
      rw [h8 _ h4]; rfl
    rw [h5, h6] at h3
    simp [rnk] at h3
theorem part_irr {ps : List Rw} {s : List (List Int)} (hs : StaR s) (h : ps.map (·.l) = s.map oneP) : ∀ k, k ≤ ps.length → irrP ps k = true
  | 0, _ => rfl
  | k + 1, hk => by rw [irrP, part_irr hs h k (by omega), part_spare hs h (by omega) rfl]; rfl
theorem part_ndl {ps : List Rw} {s : List (List Int)} (hs : StaR s) (h : ps.map (·.l) = s.map oneP) : ∀ k, k ≤ ps.length → ndlS ps k = (ps, [])
  | 0, _ => rfl
  | k + 1, hk => by
    have ih := part_ndl hs h k (by omega)
    exact ndl_off ih rfl (part_spare hs h (by omega) rfl)
theorem one_of {x y : List (List Int)} (hx : AOks x) (hy : AOks y) (h : (normP (normP (x ++ y))).length = 1) : normP (x ++ y) = normP x ∨ normP (x ++ y) = normP y := by
  rw [norm_norm (hx.app hy)] at h
  obtain ⟨a, e⟩ := List.length_eq_one_iff.1 h
  have hs := norm_sta (hx.app hy)
  have hj := fun k => val_join hx hy k
  have h0 : ∀ k, ¬ akey a = k → rnk (fnd k (normP (x ++ y))) = 0 := fun k hk => by rw [e, fnd, if_neg hk]; rfl
  by_cases h1 : rnk (fnd (akey a) (normP x)) = rnk (fnd (akey a) (normP (x ++ y)))
  · refine .inl (sta_rnk hs (norm_sta hx) fun k => ?_)
    by_cases hk : akey a = k
    · rw [← hk]; exact h1.symm
    · have := hj k; rw [h0 k hk] at this ⊢; omega
  · refine .inr (sta_rnk hs (norm_sta hy) fun k => ?_)
    by_cases hk : akey a = k
    · have := hj k; rw [← hk] at this ⊢; omega
    · have := hj k; rw [h0 k hk] at this ⊢; omega

theorem c_deltaParts (w0 : World) (A : Option Addr) (c : Nat) (l : List (List Int)) (hr : Rd w0 A 21 l.length (arows l)) (hv : AOks l) (hn : l.length ≤ 1000000000)  :
    CallR Try.prog 55 #[.slice A l.length c] w0 fun v w' => ∃ (B : Option Addr) (d : Nat) (ps : List Rw), v = .slice B ps.length d ∧ ps.map (·.l) = (normP l).map oneP ∧ ps.length ≤ d ∧ (∀ p ∈ ps, ∀ g, (rdR p).reads = some g → w0.heap.size ≤ g) ∧ St NoB w0 w' (.vec B d 24 1 ps.length (ps.map rwV) :: ps.reverse.map rdR) := by
 have hS := St.rd1 (S := NoB) hr
 have hno := (norm_sta hv).ok
 have hkn := (norm_sta hv).knd
 have hnl := arows_len (normP l)
 have hnb := norm_len l
 have hsn := norm_sta hv
 refine y_enter (l := [.slice A l.length c, undef, undef, undef, undef, undef, undef, undef, undef, undef, undef, undef, undef, undef, undef, undef, undef]) Try.func55 rfl (by simp only [Try.ntmps55, List.size_toArray, List.length_cons, List.length_nil, Nat.reduceAdd, Nat.reduceSub, Array.replicate_succ, Array.replicate_zero, List.push_toArray, List.append_toArray, List.nil_append, List.cons_append]) ?_
 refine y_seq fun K1 hK1 => ?_
 refine y_region (by kernel_rfl) ?_
 refine m_alloc ti22 hS (fun w1 g1 hS => ?_)
 try simp only [opv, n1, n2, n3, n4, Value.cells, Array.toArray_toList] at hS ⊢
 obtain ⟨gp, hgp⟩ : ∃ z, z = g1 := ⟨_, rfl⟩
 rw [← hgp] at hS ⊢
 replace hS := hS.nil_vec 24 1
 refine y_nilf ?_
 refine hK1 _ _ ?_
 refine y_seq fun K2 hK2 => ?_
 refine y_seq fun K3 hK3 => ?_
 refine y_region (by kernel_rfl) ?_
 refine s_go (s_move) ?_
 try simp only [opv, n1, n2, n3, n4, Value.cells]
 refine s_call en23 ?_
 try simp only [opv, n1, n2, n3, n4, Value.cells, List.map_toArray, List.map_cons, List.map_nil, List.append_toArray, List.cons_append, List.nil_append, Array.append_empty]
 refine CallR.mono (c_latEach A c l _) ?_
 rintro _ w2 ⟨b, rfl, hC2⟩
 replace hS := hS.call hC2
 simp only [List.cons_append, List.nil_append] at hS
 try simp only [opv, n1, n2, n3, n4, Value.cells]
 refine y_nilf ?_
 refine hK3 _ _ ?_
 refine y_block ?_
 refine y_range rfl en108 (i_latEach b A c l hv hn) (fun _ => rfl) hS (by repeat (first | exact Spl.nil | (apply Spl.cons (by repeat (first | exact Del.head | apply Del.tail))))) (fun k L => k ≤ (normP l).length ∧ ∃ (Bp : Option Addr) (dp : Nat) (ps : List Rw), ps.map (·.l) = ((normP l).take k).map oneP ∧ (∀ p ∈ ps, ∀ g, (rdR p).reads = some g → w0.heap.size ≤ g) ∧ L = .vec Bp dp 24 1 (ps).length ((ps).map rwV) :: .obj gp (.cells #[.slice Bp (ps).length dp] 22 (0, 0)) :: ps.reverse.map rdR) (fun L => False) [] ?rfh1 ?rfr1 (fun D1 T1 w3 R1 hC hS => ?rfd1) (fun D1 T1 w4 R1 hX hS => ?rft1) ?rfe1
 case rfh1 =>
  exact ⟨Nat.zero_le _, none, 0, [], rfl, (fun p hp => by cases hp), rfl⟩
 case rfr1 =>
  intro k1 w5 R1 T1 lr1 hk1 hC hS
  obtain ⟨hk0, Bp, dp, ps, hps, hfr, rfl⟩ := hC
  simp only [List.cons_append, List.nil_append] at hS
  simp only [List.toList_toArray, entL, List.zip_cons_cons, List.zip_nil_left, List.foldl_cons, List.foldl_nil, n3, n4]
  obtain ⟨x, hx⟩ : ∃ x, (normP l).getD k1 [] = x := ⟨_, rfl⟩
  have ha : AtomOk x := by rw [← hx]; exact hno.get (by omega)
  have hal := ha.len
  have hk12 := ha.key.len
  have hvx := ha.val
  have hx9 := hvx.len
  simp only [hx]
  have hpl : ps.length = k1 := by have := congrArg List.length hps; rw [List.length_map, List.length_map, List.length_take] at this; omega
  refine y_seq fun K4 hK4 => ?_
  refine y_region (by kernel_rfl) ?_
  refine m_alloc ti34 hS (fun w6 g6 hS => ?_)
  try simp only [opv, n1, n2, n3, n4, Value.cells, Array.toArray_toList] at hS ⊢
  have h0l : key0.length = 12 := rfl
  replace hS : St _ _ w6 (.obj g6 (.cells (KA key0) 34 (0, 0)) :: _) := hS
  first | refine m_store_obj ti34 (hS := hS) (hc := by first | exact zi_set rfl (by omega) | exact zi_whole (by omega) (by omega) | (first | exact splice_ic (by first | omega | (simp [*]; done) | (simp [*]; omega)) | exact splice_il (by first | omega | (simp [*]; done) | (simp [*]; omega)) | exact splice_whole (by first | (simp [opv, Value.cells, *]; done) | rfl) | (simp only [opv, n1, n2, Value.cells, splice, List.take_succ_cons, List.take_zero, List.drop_succ_cons, List.drop_zero, List.length_cons, List.length_nil, Nat.zero_add, Nat.reduceAdd, List.append_assoc, List.cons_append, List.nil_append]; rfl))) (hv := by first | rfl | (show (zi _ _).toArray.size = _; rw [zi_size (by omega)]; rfl) | (simp [opv, Value.cells, *]; done)) (hfit := by first | omega | (rw [zi_size (by omega)]; first | rfl | decide) | (simp only [ic_size, List.length_map, List.size_toArray]; first | omega | decide) | rfl | (simp [*]; done) | (simp [*]; omega)) (h1 := by first | exact zi_one _ _ | exact ic_one _ _ | simp [opv, Value.cells, Value.oneCell']) (h := fun w7 hS => ?_) | refine m_store_vec ti34 (hS := hS) (hc := by first | exact zi_set rfl (by omega) | exact zi_whole (by omega) (by omega) | (first | exact splice_ic (by first | omega | (simp [*]; done) | (simp [*]; omega)) | exact splice_il (by first | omega | (simp [*]; done) | (simp [*]; omega)) | exact splice_whole (by first | (simp [opv, Value.cells, *]; done) | rfl) | (simp only [opv, n1, n2, Value.cells, splice, List.take_succ_cons, List.take_zero, List.drop_succ_cons, List.drop_zero, List.length_cons, List.length_nil, Nat.zero_add, Nat.reduceAdd, List.append_assoc, List.cons_append, List.nil_append]; rfl))) (hv := by first | rfl | (show (zi _ _).toArray.size = _; rw [zi_size (by omega)]; rfl) | (simp [opv, Value.cells, *]; done)) (hfit := by first | omega | (rw [zi_size (by omega)]; first | rfl | decide) | (simp only [ic_size, List.length_map, List.size_toArray]; first | omega | decide) | rfl | (simp [*]; done) | (simp [*]; omega)) (h1 := by first | exact zi_one _ _ | exact ic_one _ _ | simp [opv, Value.cells, Value.oneCell']) (h := fun w7 hS => ?_)
  try simp only [opv, n1, n2, n3, n4, Value.cells, Array.toArray_toList] at hS ⊢
  refine y_nilf ?_
  refine hK4 _ _ ?_
  refine y_region (by kernel_rfl) ?_
  refine m_alloc ti37 hS (fun w8 g8 hS => ?_)
  try simp only [opv, n1, n2, n3, n4, Value.cells, Array.toArray_toList] at hS ⊢
  have h9l : v9.length = 9 := rfl
  replace hS : St _ _ w8 (.obj g8 (.cells (VA v9) 37 (0, 0)) :: _) := hS
  first | refine m_store_obj ti37 (hS := hS) (hc := by first | exact zi_set rfl (by omega) | exact zi_whole (by omega) (by omega) | (first | exact splice_ic (by first | omega | (simp [*]; done) | (simp [*]; omega)) | exact splice_il (by first | omega | (simp [*]; done) | (simp [*]; omega)) | exact splice_whole (by first | (simp [opv, Value.cells, *]; done) | rfl) | (simp only [opv, n1, n2, Value.cells, splice, List.take_succ_cons, List.take_zero, List.drop_succ_cons, List.drop_zero, List.length_cons, List.length_nil, Nat.zero_add, Nat.reduceAdd, List.append_assoc, List.cons_append, List.nil_append]; rfl))) (hv := by first | rfl | (show (zi _ _).toArray.size = _; rw [zi_size (by omega)]; rfl) | (simp [opv, Value.cells, *]; done)) (hfit := by first | omega | (rw [zi_size (by omega)]; first | rfl | decide) | (simp only [ic_size, List.length_map, List.size_toArray]; first | omega | decide) | rfl | (simp [*]; done) | (simp [*]; omega)) (h1 := by first | exact zi_one _ _ | exact ic_one _ _ | simp [opv, Value.cells, Value.oneCell']) (h := fun w9 hS => ?_) | refine m_store_vec ti37 (hS := hS) (hc := by first | exact zi_set rfl (by omega) | exact zi_whole (by omega) (by omega) | (first | exact splice_ic (by first | omega | (simp [*]; done) | (simp [*]; omega)) | exact splice_il (by first | omega | (simp [*]; done) | (simp [*]; omega)) | exact splice_whole (by first | (simp [opv, Value.cells, *]; done) | rfl) | (simp only [opv, n1, n2, Value.cells, splice, List.take_succ_cons, List.take_zero, List.drop_succ_cons, List.drop_zero, List.length_cons, List.length_nil, Nat.zero_add, Nat.reduceAdd, List.append_assoc, List.cons_append, List.nil_append]; rfl))) (hv := by first | rfl | (show (zi _ _).toArray.size = _; rw [zi_size (by omega)]; rfl) | (simp [opv, Value.cells, *]; done)) (hfit := by first | omega | (rw [zi_size (by omega)]; first | rfl | decide) | (simp only [ic_size, List.length_map, List.size_toArray]; first | omega | decide) | rfl | (simp [*]; done) | (simp [*]; omega)) (h1 := by first | exact zi_one _ _ | exact ic_one _ _ | simp [opv, Value.cells, Value.oneCell']) (h := fun w9 hS => ?_)
  try simp only [opv, n1, n2, n3, n4, Value.cells, Array.toArray_toList] at hS ⊢
  refine y_nilf ?_
  refine round_open hS (by repeat (first | exact App.nil | apply App.cons | exact App.any _ _)) (fun w10 T2 hS => ?_)
  simp only [List.cons_append, List.nil_append] at hS
  refine y_block ?_
  refine y_region (by kernel_rfl) ?_
  first | refine s_go (m_load_obj Try.underlying22 (hS := hS) (hv := by first | rfl | exact zi_get rfl (by omega) | exact ic_get (by omega) | exact il_get (by omega))) ?_ | refine s_go (m_load_bx Try.underlying22 (hS := hS) (hv := by first | rfl | exact zi_get rfl (by omega) | exact ic_get (by omega) | exact il_get (by omega))) ?_ | refine s_go (m_load_rd Try.underlying22 (hS := hS) (hv := by first | rfl | exact zi_get rfl (by omega) | exact ic_get (by omega) | exact il_get (by omega))) ?_ | refine s_go (m_load_vec Try.underlying22 (hS := hS) (hv := by first | rfl | exact zi_get rfl (by omega) | exact ic_get (by omega) | exact il_get (by omega))) ?_
  try simp only [opv, n1, n2, n3, n4, Value.cells, List.getElem_toArray, List.getElem_cons_zero, List.getElem_cons_succ]
  first | refine s_go (m_load_row Try.underlying34 (hi := ti34) (hS := hS) (hfit := by first | omega | (rw [zi_size (by omega)]; first | rfl | decide) | (simp only [ic_size, List.length_map, List.size_toArray]; first | omega | decide) | rfl | (simp [*]; done) | (simp [*]; omega))) ?_ | refine s_go (m_loada_obj Try.underlying34 (hi := ti34) (hS := hS) (hfit := by first | omega | (rw [zi_size (by omega)]; first | rfl | decide) | (simp only [ic_size, List.length_map, List.size_toArray]; first | omega | decide) | rfl | (simp [*]; done) | (simp [*]; omega))) ?_ | refine s_go (m_loada_bx Try.underlying34 (hi := ti34) (hS := hS) (hfit := by first | omega | (rw [zi_size (by omega)]; first | rfl | decide) | (simp only [ic_size, List.length_map, List.size_toArray]; first | omega | decide) | rfl | (simp [*]; done) | (simp [*]; omega))) ?_ | refine s_go (m_loada_rd Try.underlying34 (hi := ti34) (hS := hS) (hfit := by first | omega | (rw [zi_size (by omega)]; first | rfl | decide) | (simp only [ic_size, List.length_map, List.size_toArray]; first | omega | decide) | rfl | (simp [*]; done) | (simp [*]; omega))) ?_ | refine s_go (m_loada_vec Try.underlying34 (hi := ti34) (hS := hS) (hfit := by first | omega | (rw [zi_size (by omega)]; first | rfl | decide) | (simp only [ic_size, List.length_map, List.size_toArray]; first | omega | decide) | rfl | (simp [*]; done) | (simp [*]; omega))) ?_
  try simp only [opv, n1, n2, n3, n4, Value.cells, List.getElem_toArray, List.getElem_cons_zero, List.getElem_cons_succ]
  first | refine s_go (m_load_row Try.underlying37 (hi := ti37) (hS := hS) (hfit := by first | omega | (rw [zi_size (by omega)]; first | rfl | decide) | (simp only [ic_size, List.length_map, List.size_toArray]; first | omega | decide) | rfl | (simp [*]; done) | (simp [*]; omega))) ?_ | refine s_go (m_loada_obj Try.underlying37 (hi := ti37) (hS := hS) (hfit := by first | omega | (rw [zi_size (by omega)]; first | rfl | decide) | (simp only [ic_size, List.length_map, List.size_toArray]; first | omega | decide) | rfl | (simp [*]; done) | (simp [*]; omega))) ?_ | refine s_go (m_loada_bx Try.underlying37 (hi := ti37) (hS := hS) (hfit := by first | omega | (rw [zi_size (by omega)]; first | rfl | decide) | (simp only [ic_size, List.length_map, List.size_toArray]; first | omega | decide) | rfl | (simp [*]; done) | (simp [*]; omega))) ?_ | refine s_go (m_loada_rd Try.underlying37 (hi := ti37) (hS := hS) (hfit := by first | omega | (rw [zi_size (by omega)]; first | rfl | decide) | (simp only [ic_size, List.length_map, List.size_toArray]; first | omega | decide) | rfl | (simp [*]; done) | (simp [*]; omega))) ?_ | refine s_go (m_loada_vec Try.underlying37 (hi := ti37) (hS := hS) (hfit := by first | omega | (rw [zi_size (by omega)]; first | rfl | decide) | (simp only [ic_size, List.length_map, List.size_toArray]; first | omega | decide) | rfl | (simp [*]; done) | (simp [*]; omega))) ?_
  try simp only [opv, n1, n2, n3, n4, Value.cells, List.getElem_toArray, List.getElem_cons_zero, List.getElem_cons_succ]
  refine s_go (s_build_struct (cells := (AA x)) Try.underlying39 ti39 bp39 (hc := by simp only [List.map_toArray, List.map_cons, List.map_nil, opv, n1, n2, n3, n4, Value.cells, List.toList_toArray]; rw [show AA x = AA (akey x ++ aval x) by rw [kv_atom]]; exact fill_atom (by rfl) (by rfl) (by rfl) hk12 hx9)) ?_
  try simp only [opv, n1, n2, n3, n4, Value.cells]
  refine m_buildRow (cells := (AA x)) Try.underlying24 ti39 (hc := by simp only [List.map_toArray, List.map_cons, List.map_nil, opv, n1, n2, n3, n4, Value.cells, List.toList_toArray]; exact fill_one (by rfl) (zi_size21 hal) (by rfl)) (hS := hS) (h := fun w11 g11 hS => ?_)
  try simp only [opv, n1, n2, n3, n4, Value.cells, Array.toArray_toList] at hS ⊢
  have hfq := (hS.own _ (List.mem_cons_self ..) g11 rfl).resolve_left (fun f => f)
  replace hS := hS.obj_rd (sz := 21) (n := 1) (by exact zi_size21 hal) .head
  rw [arow_one hal] at hS
  obtain ⟨gq, hgq⟩ : ∃ z, z = g11 := ⟨_, rfl⟩
  rw [← hgq] at hS ⊢
  rw [← hgq] at hfq
  refine m_buildRow (cells := #[_]) Try.underlying22 ti24 (hc := by simp only [List.map_toArray, List.map_cons, List.map_nil, opv, n1, n2, n3, n4, Value.cells, List.toList_toArray]; (repeat (refine fill_cons rfl rfl (Nat.le_of_ble_eq_true rfl) ?_)); rfl) (hS := hS) (h := fun w12 g12 hS => ?_)
  try simp only [opv, n1, n2, n3, n4, Value.cells, Array.toArray_toList] at hS ⊢
  replace hS := hS.obj_vec (sz := 1) (n := 1) rfl (by decide) .head
  refine m_append_vec Try.underlying22 ti24 (hS := hS) (h := fun w13 A13 C13 hS => ?_)
  try simp only [← List.map_append, ← List.map_drop, ← List.map_take, Nat.mul_one, Nat.zero_mul, Nat.sub_zero, List.drop_zero, List.nil_append, Nat.zero_add] at hS ⊢
  try simp only [opv, n1, n2, n3, n4, Value.cells, Array.toArray_toList] at hS ⊢
  first | refine m_store_obj ti22 (hS := hS) (hc := by first | exact zi_set rfl (by omega) | exact zi_whole (by omega) (by omega) | (first | exact splice_ic (by first | omega | (simp [*]; done) | (simp [*]; omega)) | exact splice_il (by first | omega | (simp [*]; done) | (simp [*]; omega)) | exact splice_whole (by first | (simp [opv, Value.cells, *]; done) | rfl) | (simp only [opv, n1, n2, Value.cells, splice, List.take_succ_cons, List.take_zero, List.drop_succ_cons, List.drop_zero, List.length_cons, List.length_nil, Nat.zero_add, Nat.reduceAdd, List.append_assoc, List.cons_append, List.nil_append]; rfl))) (hv := by first | rfl | (show (zi _ _).toArray.size = _; rw [zi_size (by omega)]; rfl) | (simp [opv, Value.cells, *]; done)) (hfit := by first | omega | (rw [zi_size (by omega)]; first | rfl | decide) | (simp only [ic_size, List.length_map, List.size_toArray]; first | omega | decide) | rfl | (simp [*]; done) | (simp [*]; omega)) (h1 := by first | exact zi_one _ _ | exact ic_one _ _ | simp [opv, Value.cells, Value.oneCell']) (h := fun w14 hS => ?_) | refine m_store_vec ti22 (hS := hS) (hc := by first | exact zi_set rfl (by omega) | exact zi_whole (by omega) (by omega) | (first | exact splice_ic (by first | omega | (simp [*]; done) | (simp [*]; omega)) | exact splice_il (by first | omega | (simp [*]; done) | (simp [*]; omega)) | exact splice_whole (by first | (simp [opv, Value.cells, *]; done) | rfl) | (simp only [opv, n1, n2, Value.cells, splice, List.take_succ_cons, List.take_zero, List.drop_succ_cons, List.drop_zero, List.length_cons, List.length_nil, Nat.zero_add, Nat.reduceAdd, List.append_assoc, List.cons_append, List.nil_append]; rfl))) (hv := by first | rfl | (show (zi _ _).toArray.size = _; rw [zi_size (by omega)]; rfl) | (simp [opv, Value.cells, *]; done)) (hfit := by first | omega | (rw [zi_size (by omega)]; first | rfl | decide) | (simp only [ic_size, List.length_map, List.size_toArray]; first | omega | decide) | rfl | (simp [*]; done) | (simp [*]; omega)) (h1 := by first | exact zi_one _ _ | exact ic_one _ _ | simp [opv, Value.cells, Value.oneCell']) (h := fun w14 hS => ?_)
  try simp only [opv, n1, n2, n3, n4, Value.cells, Array.toArray_toList] at hS ⊢
  refine y_nilf ?_
  have hlp : (ps ++ [(⟨some ⟨gq, 0, none⟩, 1, [x]⟩ : Rw)]).length = ps.length + 1 := by rw [List.length_append]; rfl
  exact ⟨.vec _ _ 24 1 (ps ++ [(⟨some ⟨gq, 0, none⟩, 1, [x]⟩ : Rw)]).length ((ps ++ [(⟨some ⟨gq, 0, none⟩, 1, [x]⟩ : Rw)]).map rwV) :: .obj gp (.cells #[.slice _ (ps ++ [(⟨some ⟨gq, 0, none⟩, 1, [x]⟩ : Rw)]).length _] 22 (0, 0)) :: (ps ++ [(⟨some ⟨gq, 0, none⟩, 1, [x]⟩ : Rw)]).reverse.map rdR, ⟨by omega, _, _, (ps ++ [(⟨some ⟨gq, 0, none⟩, 1, [x]⟩ : Rw)]), one_take hk1 hx hps rfl, fr_snoc hfr hfq, rfl⟩, by rw [rev_one, hlp, List.map_append]; exact hS.sel (by repeat (first | exact Sel.self | (refine Sel.cons (by repeat (first | exact Del.head | apply Del.tail)) ?_) | apply Sel.skip))⟩
 case rfd1 =>
  obtain ⟨hk0, Bp, dp, ps, hps, hfr, rfl⟩ := hC
  simp only [List.cons_append, List.nil_append] at hS
  refine hK2 _ _ ?_
  refine y_seq fun K5 hK5 => ?_
  refine y_region (by kernel_rfl) ?_
  first | refine s_go (m_load_obj Try.underlying22 (hS := hS) (hv := by first | rfl | exact zi_get rfl (by omega) | exact ic_get (by omega) | exact il_get (by omega))) ?_ | refine s_go (m_load_bx Try.underlying22 (hS := hS) (hv := by first | rfl | exact zi_get rfl (by omega) | exact ic_get (by omega) | exact il_get (by omega))) ?_ | refine s_go (m_load_rd Try.underlying22 (hS := hS) (hv := by first | rfl | exact zi_get rfl (by omega) | exact ic_get (by omega) | exact il_get (by omega))) ?_ | refine s_go (m_load_vec Try.underlying22 (hS := hS) (hv := by first | rfl | exact zi_get rfl (by omega) | exact ic_get (by omega) | exact il_get (by omega))) ?_
  try simp only [opv, n1, n2, n3, n4, Value.cells, List.getElem_toArray, List.getElem_cons_zero, List.getElem_cons_succ]
  first | refine m_store_obj ti22 (hS := hS) (hc := by first | exact zi_set rfl (by omega) | exact zi_whole (by omega) (by omega) | (first | exact splice_ic (by first | omega | (simp [*]; done) | (simp [*]; omega)) | exact splice_il (by first | omega | (simp [*]; done) | (simp [*]; omega)) | exact splice_whole (by first | (simp [opv, Value.cells, *]; done) | rfl) | (simp only [opv, n1, n2, Value.cells, splice, List.take_succ_cons, List.take_zero, List.drop_succ_cons, List.drop_zero, List.length_cons, List.length_nil, Nat.zero_add, Nat.reduceAdd, List.append_assoc, List.cons_append, List.nil_append]; rfl))) (hv := by first | rfl | (show (zi _ _).toArray.size = _; rw [zi_size (by omega)]; rfl) | (simp [opv, Value.cells, *]; done)) (hfit := by first | omega | (rw [zi_size (by omega)]; first | rfl | decide) | (simp only [ic_size, List.length_map, List.size_toArray]; first | omega | decide) | rfl | (simp [*]; done) | (simp [*]; omega)) (h1 := by first | exact zi_one _ _ | exact ic_one _ _ | simp [opv, Value.cells, Value.oneCell']) (h := fun w15 hS => ?_) | refine m_store_vec ti22 (hS := hS) (hc := by first | exact zi_set rfl (by omega) | exact zi_whole (by omega) (by omega) | (first | exact splice_ic (by first | omega | (simp [*]; done) | (simp [*]; omega)) | exact splice_il (by first | omega | (simp [*]; done) | (simp [*]; omega)) | exact splice_whole (by first | (simp [opv, Value.cells, *]; done) | rfl) | (simp only [opv, n1, n2, Value.cells, splice, List.take_succ_cons, List.take_zero, List.drop_succ_cons, List.drop_zero, List.length_cons, List.length_nil, Nat.zero_add, Nat.reduceAdd, List.append_assoc, List.cons_append, List.nil_append]; rfl))) (hv := by first | rfl | (show (zi _ _).toArray.size = _; rw [zi_size (by omega)]; rfl) | (simp [opv, Value.cells, *]; done)) (hfit := by first | omega | (rw [zi_size (by omega)]; first | rfl | decide) | (simp only [ic_size, List.length_map, List.size_toArray]; first | omega | decide) | rfl | (simp [*]; done) | (simp [*]; omega)) (h1 := by first | exact zi_one _ _ | exact ic_one _ _ | simp [opv, Value.cells, Value.oneCell']) (h := fun w15 hS => ?_)
  try simp only [opv, n1, n2, n3, n4, Value.cells, Array.toArray_toList] at hS ⊢
  refine y_nilf ?_
  refine hK5 _ _ ?_
  refine y_ret ?_
  refine rm_mark hS (by repeat (first | exact Upd.head | apply Upd.tail)) (fun w16 hS => ?_)
  refine rm_nil ?_
  refine r_cell_one rfl Try.underlying22 (hS := hS) (hR := ?_)
  rw [List.take_of_length_le (Nat.le_refl _)] at hps
  exact ⟨_, _, ps, rfl, hps, hS.vec_cap (by repeat (first | exact Has.head | apply Has.tail)), hfr, hS.subl (List.Sublist.cons _ (List.Sublist.cons_cons _ (List.Sublist.cons _ (List.sublist_append_left _ _))))⟩
 case rft1 =>
  exact hX.elim
 case rfe1 =>
  exact y_ex_nil
end Go.Proofs.Ytmgacmkikefpjaa
set_option linter.unusedSimpArgs false
set_option linter.unusedVariables false
set_option maxHeartbeats 2000000
set_option maxRecDepth 100000
namespace Go.Proofs.Ytmgacmkikefpjaa
open Go.RowKit
theorem c_DeltaParts (w0 : World) (A : Option Addr) (c : Nat) (l : List (List Int)) (hr : Rd w0 A 21 l.length (arows l)) (hv : AOks l) (B : Option Addr) (d : Nat) (r : List (List Int)) (hr2 : Rd w0 B 21 r.length (arows r)) (hv2 : AOks r) (hn : l.length + r.length ≤ 600000000000000) (C : Option Addr) (e : Nat) (q : List (List Int)) (hr3 : Rd w0 C 21 q.length (arows q)) (hv3 : AOks q) (hn3 : q.length ≤ 600000000000000)  :
    CallR Try.prog 11 #[.slice A l.length c, .slice B r.length d, .slice C q.length e] w0 fun v w' => v = .bool true ∧ Ext w0 w' := by
 have hS := St.rd3 (S := NoB) hr hr2 hr3
 refine c_enter (l := [.slice A l.length c, .slice B r.length d, .slice C q.length e, undef, undef, undef, undef, undef, undef, undef, undef, undef, undef, undef, undef, undef, undef, undef, undef, undef, undef, undef, undef, undef, undef, undef, undef, undef, undef, undef, undef, undef, undef, undef, undef, undef, undef, undef, undef, undef, undef, undef, undef, undef, undef, undef, undef, undef, undef, undef, undef, undef, undef, undef, undef, undef, undef, undef, undef, undef, undef, undef, undef, undef, undef, undef, undef, undef, undef, undef, undef, undef, undef]) Try.func11 rfl (by simp only [Try.ntmps11, List.size_toArray, List.length_cons, List.length_nil, Nat.reduceAdd, Nat.reduceSub, Array.replicate_succ, Array.replicate_zero, List.push_toArray, List.append_toArray, List.nil_append, List.cons_append]) ?_
 refine x_seq fun K1 hK1 => ?_
 refine x_region ?_
 refine s_go (s_assign) ?_
 try simp only [opv, n1, n2, n3, n4, Value.cells]
 refine x_nil ?_
 refine hK1 _ _ ?_
 refine x_seq fun K2 hK2 => ?_
 refine x_seq fun K3 hK3 => ?_
 refine x_region ?_
 refine s_go (s_move) ?_
 try simp only [opv, n1, n2, n3, n4, Value.cells]
 refine s_go (s_len_sl Try.underlying24) ?_
 try simp only [opv, n1, n2, n3, n4, Value.cells]
 refine s_go (s_gtr) ?_
 try simp only [opv, n1, n2, n3, n4, Value.cells]
 refine s_go (s_move) ?_
 try simp only [opv, n1, n2, n3, n4, Value.cells]
 refine s_part 13 rfl (fun hp1 => ?_) (fun hp1 => ?_)
 ·
  try simp only [n3, n4]
  try simp only [decide_eq_true_eq, decide_eq_false_iff_not, Bool.not_eq_true', Bool.not_eq_false', Int.not_lt, Int.not_le, ne_eq, Decidable.not_not] at hp1
  first
  | (exfalso; omega)
  | skip
    refine g_off (yi (t := 13) rfl rfl) ?_
    try simp only [opv, n1, n2, n3, n4, Value.cells]
    refine g_off (yi (t := 13) rfl rfl) ?_
    try simp only [opv, n1, n2, n3, n4, Value.cells]
    refine g_off (yi (t := 13) rfl rfl) ?_
    try simp only [opv, n1, n2, n3, n4, Value.cells]
    first | refine s_go (s_pick_t) ?_ | refine s_go (s_pick_f) ?_
    try simp only [opv, n1, n2, n3, n4, Value.cells]
    refine s_go (s_move) ?_
    try simp only [opv, n1, n2, n3, n4, Value.cells]
    refine g_off (yi (t := 18) rfl rfl) ?_
    try simp only [opv, n1, n2, n3, n4, Value.cells]
    refine g_off (yi (t := 18) rfl rfl) ?_
    try simp only [opv, n1, n2, n3, n4, Value.cells]
    refine g_off (yi (t := 18) rfl rfl) ?_
    try simp only [opv, n1, n2, n3, n4, Value.cells]
    first | refine s_go (s_pick_t) ?_ | refine s_go (s_pick_f) ?_
    try simp only [opv, n1, n2, n3, n4, Value.cells]
    refine x_nil ?_
    refine hK3 _ _ ?_
    refine x_cond_t (h := ?_)
    refine x_seq fun K4 hK4 => ?_
    refine x_region ?_
    refine s_call en47 ?_
    try simp only [opv, n1, n2, n3, n4, Value.cells, List.map_toArray, List.map_cons, List.map_nil, List.append_toArray, List.cons_append, List.nil_append, Array.append_empty]
    refine CallR.mono (c_law11alive _) ?_
    rintro _ w1 ⟨rfl, hE1⟩
    replace hS := hS.ext hE1
    try simp only [opv, n1, n2, n3, n4, Value.cells]
    refine s_go (s_assign) ?_
    try simp only [opv, n1, n2, n3, n4, Value.cells]
    refine x_nil ?_
    refine hK4 _ _ ?_
    refine x_ret ?_
    refine r_tmp rfl ?_
    exact ⟨rfl, hS.ext_of⟩
 ·
  try simp only [n3, n4]
  try simp only [decide_eq_true_eq, decide_eq_false_iff_not, Bool.not_eq_true', Bool.not_eq_false', Int.not_lt, Int.not_le, ne_eq, Decidable.not_not] at hp1
  first
  | (exfalso; omega)
  | skip
    refine g_on (yi (t := 13) rfl rfl) ?_
    refine s_go (s_move) ?_
    try simp only [opv, n1, n2, n3, n4, Value.cells]
    refine g_on (yi (t := 13) rfl rfl) ?_
    refine s_go (s_len_sl Try.underlying24) ?_
    try simp only [opv, n1, n2, n3, n4, Value.cells]
    refine g_on (yi (t := 13) rfl rfl) ?_
    refine s_go (s_gtr) ?_
    try simp only [opv, n1, n2, n3, n4, Value.cells]
    first | refine s_go (s_pick_t) ?_ | refine s_go (s_pick_f) ?_
    try simp only [opv, n1, n2, n3, n4, Value.cells]
    refine s_go (s_move) ?_
    try simp only [opv, n1, n2, n3, n4, Value.cells]
    refine s_part 18 rfl (fun hp2 => ?_) (fun hp2 => ?_)
    ·
     try simp only [n3, n4]
     try simp only [decide_eq_true_eq, decide_eq_false_iff_not, Bool.not_eq_true', Bool.not_eq_false', Int.not_lt, Int.not_le, ne_eq, Decidable.not_not] at hp2
     first
     | (exfalso; omega)
     | skip
       refine g_off (yi (t := 18) rfl rfl) ?_
       try simp only [opv, n1, n2, n3, n4, Value.cells]
       refine g_off (yi (t := 18) rfl rfl) ?_
       try simp only [opv, n1, n2, n3, n4, Value.cells]
       refine g_off (yi (t := 18) rfl rfl) ?_
       try simp only [opv, n1, n2, n3, n4, Value.cells]
       first | refine s_go (s_pick_t) ?_ | refine s_go (s_pick_f) ?_
       try simp only [opv, n1, n2, n3, n4, Value.cells]
       refine x_nil ?_
       refine hK3 _ _ ?_
       refine x_cond_t (h := ?_)
       refine x_seq fun K5 hK5 => ?_
       refine x_region ?_
       refine s_call en47 ?_
       try simp only [opv, n1, n2, n3, n4, Value.cells, List.map_toArray, List.map_cons, List.map_nil, List.append_toArray, List.cons_append, List.nil_append, Array.append_empty]
       refine CallR.mono (c_law11alive _) ?_
       rintro _ w2 ⟨rfl, hE2⟩
       replace hS := hS.ext hE2
       try simp only [opv, n1, n2, n3, n4, Value.cells]
       refine s_go (s_assign) ?_
       try simp only [opv, n1, n2, n3, n4, Value.cells]
       refine x_nil ?_
       refine hK5 _ _ ?_
       refine x_ret ?_
       refine r_tmp rfl ?_
       exact ⟨rfl, hS.ext_of⟩
    ·
     try simp only [n3, n4]
     try simp only [decide_eq_true_eq, decide_eq_false_iff_not, Bool.not_eq_true', Bool.not_eq_false', Int.not_lt, Int.not_le, ne_eq, Decidable.not_not] at hp2
     first
     | (exfalso; omega)
     | skip
       refine g_on (yi (t := 18) rfl rfl) ?_
       refine s_go (s_move) ?_
       try simp only [opv, n1, n2, n3, n4, Value.cells]
       refine g_on (yi (t := 18) rfl rfl) ?_
       refine s_go (s_len_sl Try.underlying24) ?_
       try simp only [opv, n1, n2, n3, n4, Value.cells]
       refine g_on (yi (t := 18) rfl rfl) ?_
       refine s_go (s_gtr) ?_
       try simp only [opv, n1, n2, n3, n4, Value.cells]
       first | refine s_go (s_pick_t) ?_ | refine s_go (s_pick_f) ?_
       try simp only [opv, n1, n2, n3, n4, Value.cells]
       refine x_nil ?_
       refine hK3 _ _ ?_
       refine x_cond (ht := fun hc3 => ?_) (hf := fun hc3 => ?_)
       ·
        try simp only [decide_eq_true_eq, decide_eq_false_iff_not, Bool.not_eq_true', Bool.not_eq_false', Int.not_lt, Int.not_le, ne_eq, Decidable.not_not, bne_iff_ne, beq_iff_eq, not_true_eq_false, not_false_eq_true] at hc3
        first
        | (exfalso; omega)
        | skip
          refine x_seq fun K6 hK6 => ?_
          refine x_region ?_
          refine s_call en47 ?_
          try simp only [opv, n1, n2, n3, n4, Value.cells, List.map_toArray, List.map_cons, List.map_nil, List.append_toArray, List.cons_append, List.nil_append, Array.append_empty]
          refine CallR.mono (c_law11alive _) ?_
          rintro _ w3 ⟨rfl, hE3⟩
          replace hS := hS.ext hE3
          try simp only [opv, n1, n2, n3, n4, Value.cells]
          refine s_go (s_assign) ?_
          try simp only [opv, n1, n2, n3, n4, Value.cells]
          refine x_nil ?_
          refine hK6 _ _ ?_
          refine x_ret ?_
          refine r_tmp rfl ?_
          exact ⟨rfl, hS.ext_of⟩
       ·
        try simp only [decide_eq_true_eq, decide_eq_false_iff_not, Bool.not_eq_true', Bool.not_eq_false', Int.not_lt, Int.not_le, ne_eq, Decidable.not_not, bne_iff_ne, beq_iff_eq, not_true_eq_false, not_false_eq_true] at hc3
        first
        | (exfalso; omega)
        | skip
          have hs1 : l.length ≤ 30 := by omega
          have hs2 : r.length ≤ 30 := by omega
          have hs3 : q.length ≤ 30 := by omega
          have hsn := norm_sta hv
          have hnl := norm_len l
          have hjo := (norm_sta (hv2.app hv3)).ok
          have hjl := norm_len (r ++ q)
          rw [List.length_append] at hjl
          have hn3 : normP (normP (normP l)) = normP l := by rw [norm_norm (norm_sta hv).ok, norm_norm hv]
          have hnn := norm_len (normP l)
          refine x_skip ?_
          refine hK2 _ _ ?_
          refine x_seq fun K7 hK7 => ?_
          refine x_region ?_
          refine s_go (s_move) ?_
          try simp only [opv, n1, n2, n3, n4, Value.cells]
          refine s_call en55 ?_
          try simp only [opv, n1, n2, n3, n4, Value.cells, List.map_toArray, List.map_cons, List.map_nil, List.append_toArray, List.cons_append, List.nil_append, Array.append_empty]
          refine CallR.mono (c_deltaParts _ A c l (hS.hasRd (by repeat (first | exact Has.head | apply Has.tail))) hv (by omega)) ?_
          rintro _ w4 ⟨Bp, dp, ps, rfl, hps, hpc, hfr, hC4⟩
          replace hS := hS.call hC4 (fun x hx g hg => (List.mem_cons.1 hx).elim (fun e => by subst e; simp [Res.reads] at hg) (fun hx => by obtain ⟨p, hp, rfl⟩ := List.mem_map.1 hx; exact hfr p (List.mem_reverse.1 hp) g hg))
          simp only [List.cons_append, List.nil_append] at hS
          replace hS := hS.perm (List.Perm.cons _ List.perm_append_comm)
          simp only [List.cons_append, List.nil_append] at hS
          have hpl : ps.length = (normP l).length := by have := congrArg List.length hps; rw [List.length_map, List.length_map] at this; exact this
          have hpa := parts_ok hsn hps
          have hpe := flat_parts hps
          have hp40 : ∀ p ∈ ps, p.l.length ≤ 40 := fun p hp => Nat.le_trans (hpa p hp).2 (by decide)
          try simp only [opv, n1, n2, n3, n4, Value.cells]
          refine s_go (s_assign) ?_
          try simp only [opv, n1, n2, n3, n4, Value.cells]
          refine x_nil ?_
          refine hK7 _ _ ?_
          refine x_seq fun K8 hK8 => ?_
          refine x_seq fun K9 hK9 => ?_
          refine x_region ?_
          refine s_go (s_move) ?_
          try simp only [opv, n1, n2, n3, n4, Value.cells]
          refine s_call en26 ?_
          try simp only [opv, n1, n2, n3, n4, Value.cells, List.map_toArray, List.map_cons, List.map_nil, List.append_toArray, List.cons_append, List.nil_append, Array.append_empty]
          refine CallR.mono (c_latAll _ Bp dp ps (hS.vecRd (by repeat (first | exact Has.head | apply Has.tail))) (fun p hp => ⟨hS.holds (rdR p) (by repeat (first | exact List.mem_append_left _ (List.mem_map.2 ⟨p, List.mem_reverse.2 hp, rfl⟩) | exact List.mem_map.2 ⟨p, List.mem_reverse.2 hp, rfl⟩ | apply List.mem_cons_of_mem)), (hpa p hp).1⟩) (by omega) (by rw [hpe]; omega)) ?_
          rintro _ w5 ⟨Aa, ca, rfl, hC5⟩
          replace hS := hS.call hC5
          simp only [List.cons_append, List.nil_append] at hS
          rw [hpe] at hS ⊢
          try simp only [opv, n1, n2, n3, n4, Value.cells]
          refine s_go (s_move) ?_
          try simp only [opv, n1, n2, n3, n4, Value.cells]
          refine s_call en40 ?_
          try simp only [opv, n1, n2, n3, n4, Value.cells, List.map_toArray, List.map_cons, List.map_nil, List.append_toArray, List.cons_append, List.nil_append, Array.append_empty]
          refine CallR.mono (c_ref10Same _ Aa ca (normP (normP l)) (hS.vecRd (by repeat (first | exact Has.head | apply Has.tail))) (norm_sta hsn.ok).ok A c l (hS.hasRd (by repeat (first | exact Has.head | apply Has.tail))) hv (by omega)) ?_
          rintro _ w6 ⟨rfl, hE6⟩
          replace hS := hS.ext hE6
          try simp only [opv, n1, n2, n3, n4, Value.cells]
          rw [decide_eq_true hn3]
          refine s_go (s_not) ?_
          try simp only [opv, n1, n2, n3, n4, Value.cells]
          refine s_go (s_move) ?_
          try simp only [opv, n1, n2, n3, n4, Value.cells]
          refine g_on (yi (t := 31) rfl rfl) ?_
          refine s_go (s_move) ?_
          try simp only [opv, n1, n2, n3, n4, Value.cells]
          refine g_on (yi (t := 31) rfl rfl) ?_
          refine s_call en51 ?_
          try simp only [opv, n1, n2, n3, n4, Value.cells, List.map_toArray, List.map_cons, List.map_nil, List.append_toArray, List.cons_append, List.nil_append, Array.append_empty]
          refine CallR.mono (c_deltaIrd _ Bp dp ps (hS.vecRd (by repeat (first | exact Has.head | apply Has.tail))) (fun p hp => ⟨hS.holds (rdR p) (by repeat (first | exact List.mem_append_left _ (List.mem_map.2 ⟨p, List.mem_reverse.2 hp, rfl⟩) | exact List.mem_map.2 ⟨p, List.mem_reverse.2 hp, rfl⟩ | apply List.mem_cons_of_mem)), (hpa p hp).1⟩) (by omega) hp40 hpc) ?_
          rintro _ w7 ⟨rfl, hE7⟩
          replace hS := hS.ext hE7
          try simp only [opv, n1, n2, n3, n4, Value.cells]
          rw [part_irr hsn hps _ (Nat.le_refl _)]
          refine g_on (yi (t := 31) rfl rfl) ?_
          refine s_go (s_not) ?_
          try simp only [opv, n1, n2, n3, n4, Value.cells]
          first | refine s_go (s_pick_t) ?_ | refine s_go (s_pick_f) ?_
          try simp only [opv, n1, n2, n3, n4, Value.cells]
          refine s_go (s_move) ?_
          try simp only [opv, n1, n2, n3, n4, Value.cells]
          refine g_on (yi (t := 36) rfl rfl) ?_
          refine s_go (s_move) ?_
          try simp only [opv, n1, n2, n3, n4, Value.cells]
          refine g_on (yi (t := 36) rfl rfl) ?_
          refine s_call en49 ?_
          try simp only [opv, n1, n2, n3, n4, Value.cells, List.map_toArray, List.map_cons, List.map_nil, List.append_toArray, List.cons_append, List.nil_append, Array.append_empty]
          refine CallR.mono (c_deltaNdl _ Bp dp ps (hS.vecRd (by repeat (first | exact Has.head | apply Has.tail))) (fun p hp => ⟨hS.holds (rdR p) (by repeat (first | exact List.mem_append_left _ (List.mem_map.2 ⟨p, List.mem_reverse.2 hp, rfl⟩) | exact List.mem_map.2 ⟨p, List.mem_reverse.2 hp, rfl⟩ | apply List.mem_cons_of_mem)), (hpa p hp).1⟩) (by omega) hp40) ?_
          rintro _ w8 ⟨Ab, cb, rfl, hC8⟩
          replace hS := hS.call hC8
          simp only [List.cons_append, List.nil_append] at hS
          rw [part_ndl hsn hps _ (Nat.le_refl _)] at hS ⊢
          try simp only [opv, n1, n2, n3, n4, Value.cells]
          refine g_on (yi (t := 36) rfl rfl) ?_
          refine s_go (s_len_sl Try.underlying62) ?_
          try simp only [opv, n1, n2, n3, n4, Value.cells]
          refine g_on (yi (t := 36) rfl rfl) ?_
          refine s_go (s_neq) ?_
          try simp only [opv, n1, n2, n3, n4, Value.cells]
          try simp only [ne_eq, not_true_eq_false, decide_false, eq_self, decide_true]
          first | refine s_go (s_pick_t) ?_ | refine s_go (s_pick_f) ?_
          try simp only [opv, n1, n2, n3, n4, Value.cells]
          refine x_nil ?_
          refine hK9 _ _ ?_
          refine x_cond_f (h := ?_)
          refine x_skip ?_
          refine hK8 _ _ ?_
          refine x_seq fun K10 hK10 => ?_
          refine x_seq fun K11 hK11 => ?_
          refine x_region ?_
          refine s_go (s_assign) ?_
          try simp only [opv, n1, n2, n3, n4, Value.cells]
          refine x_nil ?_
          refine hK11 _ _ ?_
          refine x_block ?_
          refine x_loop [6, 8, 42, 43, 44, 45, 46, 47, 48, 49, 50, 51, 52, 53] (fun m f w => ∃ k : Nat, k ≤ ps.length ∧ m = ps.length - k ∧ f 8 = .int .i64 (k : Int) ∧ St NoB w0 w (.vec Bp dp 24 1 (ps).length ((ps).map rwV) :: .rd B 21 (r).length (arows (r)) :: .rd C 21 (q).length (arows (q)) :: ps.reverse.map rdR)) (ps.length) ?init1 (fun m1 f1 wl1 hI => ?_)
          case init1 =>
           try simp only [opv, n1, n2, n3, n4, Value.cells]
           exact ⟨0, by omega, rfl, rfl, hS.sel (by repeat (first | exact Sel.self | (refine Sel.cons (by repeat (first | exact Del.head | apply Del.tail)) ?_) | apply Sel.skip))⟩
          obtain ⟨k, hk0, hmk, h8, hS⟩ := hI
          simp only [clob, List.foldl, n3, n4, h8]
          obtain ⟨x, hx⟩ : ∃ r, ps.getD k rw0 = r := ⟨_, rfl⟩
          refine x_seq fun K12 hK12 => ?_
          refine x_seq fun K13 hK13 => ?_
          refine x_region ?_
          refine s_go (s_move) ?_
          try simp only [opv, n1, n2, n3, n4, Value.cells]
          refine s_go (s_move) ?_
          try simp only [opv, n1, n2, n3, n4, Value.cells]
          refine s_go (s_len_sl Try.underlying22) ?_
          try simp only [opv, n1, n2, n3, n4, Value.cells]
          refine s_go (s_lss) ?_
          try simp only [opv, n1, n2, n3, n4, Value.cells]
          refine x_nil ?_
          refine hK13 _ _ ?_
          refine x_cond (ht := fun hc5 => ?_) (hf := fun hc5 => ?_)
          ·
           try simp only [decide_eq_true_eq, decide_eq_false_iff_not, Bool.not_eq_true', Bool.not_eq_false', Int.not_lt, Int.not_le, ne_eq, Decidable.not_not, bne_iff_ne, beq_iff_eq, not_true_eq_false, not_false_eq_true] at hc5
           first
           | (exfalso; omega)
           | skip
             have hxm := rws_mem (by omega) hx
             have hx1 : (normP x.l).length = 1 := by rw [part_at hps (by omega) hx, norm_id (one_sta (hsn.ok _ (getD_mem' (by omega))) (hsn.right _ (getD_mem' (by omega))))]; rfl
             have hx2 := (hpa x hxm).2
             refine x_skip ?_
             refine hK12 _ _ ?_
             refine x_seq fun K14 hK14 => ?_
             refine x_block ?_
             refine x_seq fun K15 hK15 => ?_
             refine x_region ?_
             refine s_go (s_move) ?_
             try simp only [opv, n1, n2, n3, n4, Value.cells]
             refine s_go (s_move) ?_
             try simp only [opv, n1, n2, n3, n4, Value.cells]
             first | refine s_go (m_indexAddr_rd Try.underlying22 ti24 (hS := hS)) ?_ | refine s_go (m_indexAddr_vec Try.underlying22 ti24 (hS := hS)) ?_
             try simp only [opv, n1, n2, n3, n4, Value.cells, Nat.mul_one, Nat.zero_add, Int.toNat_natCast, Int.reduceToNat]
             first | refine s_go (m_load_obj Try.underlying24 (hS := hS) (hv := rws_get (by omega) hx)) ?_ | refine s_go (m_load_bx Try.underlying24 (hS := hS) (hv := rws_get (by omega) hx)) ?_ | refine s_go (m_load_rd Try.underlying24 (hS := hS) (hv := rws_get (by omega) hx)) ?_ | refine s_go (m_load_vec Try.underlying24 (hS := hS) (hv := rws_get (by omega) hx)) ?_
             try simp only [opv, n1, n2, n3, n4, Value.cells, List.getElem_toArray, List.getElem_cons_zero, List.getElem_cons_succ]
             refine s_call en56 ?_
             try simp only [opv, n1, n2, n3, n4, Value.cells, List.map_toArray, List.map_cons, List.map_nil, List.append_toArray, List.cons_append, List.nil_append, Array.append_empty]
             refine CallR.mono (c_deltaIrr _ x.A x.c x.l ((show ∀ p ∈ ps, RwOk _ p from (fun p hp => ⟨hS.holds (rdR p) (by repeat (first | exact List.mem_append_left _ (List.mem_map.2 ⟨p, List.mem_reverse.2 hp, rfl⟩) | exact List.mem_map.2 ⟨p, List.mem_reverse.2 hp, rfl⟩ | apply List.mem_cons_of_mem)), (hpa p hp).1⟩)) x hxm).rd (hpa x hxm).1 (by omega)) ?_
             rintro _ w9 ⟨rfl, hE9⟩
             replace hS := hS.ext hE9
             try simp only [opv, n1, n2, n3, n4, Value.cells]
             rw [hx1]
             try simp only [Int.natCast_one, eq_self, decide_true]
             refine s_go (s_not) ?_
             try simp only [opv, n1, n2, n3, n4, Value.cells]
             refine x_nil ?_
             refine hK15 _ _ ?_
             refine x_cond_f (h := ?_)
             refine x_skip ?_
             refine hK14 _ _ ?_
             refine x_region ?_
             refine s_go (s_move) ?_
             try simp only [opv, n1, n2, n3, n4, Value.cells]
             refine s_go (s_add (hc := by first | exact wr_i64 (by omega) (by omega) | rfl)) ?_
             try simp only [opv, n1, n2, n3, n4, Value.cells]
             refine s_go (s_assign) ?_
             try simp only [opv, n1, n2, n3, n4, Value.cells]
             refine x_nil ?_
             refine loop_back (m' := ps.length - (k + 1)) (by simp only [clob, List.foldl, n1, n2, n3, n4]) ?_ ?_
             · try simp only [opv, n1, n2, n3, n4, Value.cells]
               exact ⟨k + 1, by omega, by omega, by rfl, hS.sel (by repeat (first | exact Sel.self | (refine Sel.cons (by repeat (first | exact Del.head | apply Del.tail)) ?_) | apply Sel.skip))⟩
             · omega
          ·
           try simp only [decide_eq_true_eq, decide_eq_false_iff_not, Bool.not_eq_true', Bool.not_eq_false', Int.not_lt, Int.not_le, ne_eq, Decidable.not_not, bne_iff_ne, beq_iff_eq, not_true_eq_false, not_false_eq_true] at hc5
           first
           | (exfalso; omega)
           | skip
             refine x_exit (look_here ?_)
             refine hK10 _ _ ?_
             refine x_seq fun K16 hK16 => ?_
             refine x_region ?_
             refine s_go (s_move) ?_
             try simp only [opv, n1, n2, n3, n4, Value.cells]
             refine s_go (s_move) ?_
             try simp only [opv, n1, n2, n3, n4, Value.cells]
             refine s_call en33 ?_
             try simp only [opv, n1, n2, n3, n4, Value.cells, List.map_toArray, List.map_cons, List.map_nil, List.append_toArray, List.cons_append, List.nil_append, Array.append_empty]
             refine CallR.mono (c_latJoin _ B d r (hS.hasRd (by repeat (first | exact Has.head | apply Has.tail))) hv2 C e q (hS.hasRd (by repeat (first | exact Has.head | apply Has.tail))) hv3 (by omega)) ?_
             rintro _ w10 ⟨Aj, cj, rfl, hC10⟩
             replace hS := hS.call hC10
             simp only [List.cons_append, List.nil_append] at hS
             try simp only [opv, n1, n2, n3, n4, Value.cells]
             refine s_go (s_assign) ?_
             try simp only [opv, n1, n2, n3, n4, Value.cells]
             refine x_nil ?_
             refine hK16 _ _ ?_
             refine x_seq fun K17 hK17 => ?_
             refine x_region ?_
             refine s_go (s_move) ?_
             try simp only [opv, n1, n2, n3, n4, Value.cells]
             refine s_call en56 ?_
             try simp only [opv, n1, n2, n3, n4, Value.cells, List.map_toArray, List.map_cons, List.map_nil, List.append_toArray, List.cons_append, List.nil_append, Array.append_empty]
             refine CallR.mono (c_deltaIrr _ Aj cj (normP (r ++ q)) (hS.vecRd (by repeat (first | exact Has.head | apply Has.tail))) hjo (by omega)) ?_
             rintro _ w11 ⟨rfl, hE11⟩
             replace hS := hS.ext hE11
             try simp only [opv, n1, n2, n3, n4, Value.cells]
             refine s_go (s_not) ?_
             try simp only [opv, n1, n2, n3, n4, Value.cells]
             refine s_go (s_move) ?_
             try simp only [opv, n1, n2, n3, n4, Value.cells]
             refine s_part 60 rfl (fun hp3 => ?_) (fun hp3 => ?_)
             ·
              try simp only [n3, n4]
              try simp only [decide_eq_true_eq, decide_eq_false_iff_not, Bool.not_eq_true', Bool.not_eq_false', Int.not_lt, Int.not_le, ne_eq, Decidable.not_not] at hp3
              first
              | (exfalso; omega)
              | skip
                refine g_off (yi (t := 60) rfl rfl) ?_
                try simp only [opv, n1, n2, n3, n4, Value.cells]
                refine g_off (yi (t := 60) rfl rfl) ?_
                try simp only [opv, n1, n2, n3, n4, Value.cells]
                refine g_off (yi (t := 60) rfl rfl) ?_
                try simp only [opv, n1, n2, n3, n4, Value.cells]
                first | refine s_go (s_pick_t) ?_ | refine s_go (s_pick_f) ?_
                try simp only [opv, n1, n2, n3, n4, Value.cells]
                refine s_go (s_move) ?_
                try simp only [opv, n1, n2, n3, n4, Value.cells]
                refine g_off (yi (t := 65) rfl rfl) ?_
                try simp only [opv, n1, n2, n3, n4, Value.cells]
                refine g_off (yi (t := 65) rfl rfl) ?_
                try simp only [opv, n1, n2, n3, n4, Value.cells]
                refine g_off (yi (t := 65) rfl rfl) ?_
                try simp only [opv, n1, n2, n3, n4, Value.cells]
                first | refine s_go (s_pick_t) ?_ | refine s_go (s_pick_f) ?_
                try simp only [opv, n1, n2, n3, n4, Value.cells]
                refine s_go (s_move) ?_
                try simp only [opv, n1, n2, n3, n4, Value.cells]
                refine g_on (yi (t := 70) rfl rfl) ?_
                refine s_call en47 ?_
                try simp only [opv, n1, n2, n3, n4, Value.cells, List.map_toArray, List.map_cons, List.map_nil, List.append_toArray, List.cons_append, List.nil_append, Array.append_empty]
                refine CallR.mono (c_law11alive _) ?_
                rintro _ w12 ⟨rfl, hE12⟩
                replace hS := hS.ext hE12
                try simp only [opv, n1, n2, n3, n4, Value.cells]
                first | refine s_go (s_pick_t) ?_ | refine s_go (s_pick_f) ?_
                try simp only [opv, n1, n2, n3, n4, Value.cells]
                refine s_go (s_assign) ?_
                try simp only [opv, n1, n2, n3, n4, Value.cells]
                refine x_nil ?_
                refine hK17 _ _ ?_
                refine x_ret ?_
                refine r_tmp rfl ?_
                exact ⟨rfl, hS.ext_of⟩
             ·
              try simp only [n3, n4]
              try simp only [decide_eq_true_eq, decide_eq_false_iff_not, Bool.not_eq_true', Bool.not_eq_false', Int.not_lt, Int.not_le, ne_eq, Decidable.not_not] at hp3
              first
              | (exfalso; omega)
              | skip
                have hir := one_of hv2 hv3 (by omega)
                refine g_on (yi (t := 60) rfl rfl) ?_
                refine s_go (s_move) ?_
                try simp only [opv, n1, n2, n3, n4, Value.cells]
                refine g_on (yi (t := 60) rfl rfl) ?_
                refine s_go (s_move) ?_
                try simp only [opv, n1, n2, n3, n4, Value.cells]
                refine g_on (yi (t := 60) rfl rfl) ?_
                refine s_call en40 ?_
                try simp only [opv, n1, n2, n3, n4, Value.cells, List.map_toArray, List.map_cons, List.map_nil, List.append_toArray, List.cons_append, List.nil_append, Array.append_empty]
                refine CallR.mono (c_ref10Same _ Aj cj (normP (r ++ q)) (hS.vecRd (by repeat (first | exact Has.head | apply Has.tail))) hjo B d r (hS.hasRd (by repeat (first | exact Has.head | apply Has.tail))) hv2 (by omega)) ?_
                rintro _ w13 ⟨rfl, hE13⟩
                replace hS := hS.ext hE13
                try simp only [opv, n1, n2, n3, n4, Value.cells]
                first | refine s_go (s_pick_t) ?_ | refine s_go (s_pick_f) ?_
                try simp only [opv, n1, n2, n3, n4, Value.cells]
                refine s_go (s_move) ?_
                try simp only [opv, n1, n2, n3, n4, Value.cells]
                refine s_part 65 rfl (fun hp4 => ?_) (fun hp4 => ?_)
                ·
                 try simp only [n3, n4]
                 try simp only [decide_eq_true_eq, decide_eq_false_iff_not, Bool.not_eq_true', Bool.not_eq_false', Int.not_lt, Int.not_le, ne_eq, Decidable.not_not] at hp4
                 first
                 | (exfalso; omega)
                 | skip
                   refine g_off (yi (t := 65) rfl rfl) ?_
                   try simp only [opv, n1, n2, n3, n4, Value.cells]
                   refine g_off (yi (t := 65) rfl rfl) ?_
                   try simp only [opv, n1, n2, n3, n4, Value.cells]
                   refine g_off (yi (t := 65) rfl rfl) ?_
                   try simp only [opv, n1, n2, n3, n4, Value.cells]
                   first | refine s_go (s_pick_t) ?_ | refine s_go (s_pick_f) ?_
                   try simp only [opv, n1, n2, n3, n4, Value.cells]
                   refine s_go (s_move) ?_
                   try simp only [opv, n1, n2, n3, n4, Value.cells]
                   refine g_on (yi (t := 70) rfl rfl) ?_
                   refine s_call en47 ?_
                   try simp only [opv, n1, n2, n3, n4, Value.cells, List.map_toArray, List.map_cons, List.map_nil, List.append_toArray, List.cons_append, List.nil_append, Array.append_empty]
                   refine CallR.mono (c_law11alive _) ?_
                   rintro _ w14 ⟨rfl, hE14⟩
                   replace hS := hS.ext hE14
                   try simp only [opv, n1, n2, n3, n4, Value.cells]
                   first | refine s_go (s_pick_t) ?_ | refine s_go (s_pick_f) ?_
                   try simp only [opv, n1, n2, n3, n4, Value.cells]
                   refine s_go (s_assign) ?_
                   try simp only [opv, n1, n2, n3, n4, Value.cells]
                   refine x_nil ?_
                   refine hK17 _ _ ?_
                   refine x_ret ?_
                   refine r_tmp rfl ?_
                   exact ⟨rfl, hS.ext_of⟩
                ·
                 try simp only [n3, n4]
                 try simp only [decide_eq_true_eq, decide_eq_false_iff_not, Bool.not_eq_true', Bool.not_eq_false', Int.not_lt, Int.not_le, ne_eq, Decidable.not_not] at hp4
                 first
                 | (exfalso; omega)
                 | skip
                   have hyq : normP (normP (r ++ q)) = normP q := by rw [norm_norm (hv2.app hv3)] at hp4 ⊢; exact hir.resolve_left hp4
                   refine g_on (yi (t := 65) rfl rfl) ?_
                   refine s_go (s_move) ?_
                   try simp only [opv, n1, n2, n3, n4, Value.cells]
                   refine g_on (yi (t := 65) rfl rfl) ?_
                   refine s_go (s_move) ?_
                   try simp only [opv, n1, n2, n3, n4, Value.cells]
                   refine g_on (yi (t := 65) rfl rfl) ?_
                   refine s_call en40 ?_
                   try simp only [opv, n1, n2, n3, n4, Value.cells, List.map_toArray, List.map_cons, List.map_nil, List.append_toArray, List.cons_append, List.nil_append, Array.append_empty]
                   refine CallR.mono (c_ref10Same _ Aj cj (normP (r ++ q)) (hS.vecRd (by repeat (first | exact Has.head | apply Has.tail))) hjo C e q (hS.hasRd (by repeat (first | exact Has.head | apply Has.tail))) hv3 (by omega)) ?_
                   rintro _ w15 ⟨rfl, hE15⟩
                   replace hS := hS.ext hE15
                   try simp only [opv, n1, n2, n3, n4, Value.cells]
                   rw [decide_eq_true hyq]
                   first | refine s_go (s_pick_t) ?_ | refine s_go (s_pick_f) ?_
                   try simp only [opv, n1, n2, n3, n4, Value.cells]
                   refine s_go (s_move) ?_
                   try simp only [opv, n1, n2, n3, n4, Value.cells]
                   refine g_on (yi (t := 70) rfl rfl) ?_
                   refine s_call en47 ?_
                   try simp only [opv, n1, n2, n3, n4, Value.cells, List.map_toArray, List.map_cons, List.map_nil, List.append_toArray, List.cons_append, List.nil_append, Array.append_empty]
                   refine CallR.mono (c_law11alive _) ?_
                   rintro _ w16 ⟨rfl, hE16⟩
                   replace hS := hS.ext hE16
                   try simp only [opv, n1, n2, n3, n4, Value.cells]
                   first | refine s_go (s_pick_t) ?_ | refine s_go (s_pick_f) ?_
                   try simp only [opv, n1, n2, n3, n4, Value.cells]
                   refine s_go (s_assign) ?_
                   try simp only [opv, n1, n2, n3, n4, Value.cells]
                   refine x_nil ?_
                   refine hK17 _ _ ?_
                   refine x_ret ?_
                   refine r_tmp rfl ?_
                   exact ⟨rfl, hS.ext_of⟩
end Go.Proofs.Ytmgacmkikefpjaa
set_option linter.unusedSimpArgs false
set_option linter.unusedVariables false
set_option maxHeartbeats 800000
set_option maxRecDepth 100000
namespace Go.Proofs.Ytmgacmkikefpjaa
open Go.ChangeShapes Go.WideShapes Go.ChangeAt Go.RowKit

theorem rows_aok {l : List (List Int)} (h : ∀ x ∈ l, x.length = atomKs.length ∧ ∀ i k, atomKs[i]? = some k → (Lit.int k (x.getD i 0)).wf = true) : AOks l := fun x hx => by
  obtain ⟨h1, h2⟩ := h x hx
  have W : World := { heap := #[], tape := fun _ _ => 0, drawn := 0, os := default, output := #[] }
  obtain ⟨a, e, ha⟩ := atom_open (w := W) (allOk_of h1 h2)
  rw [zi_inj h1 (by simpa using ha.len) e]; exact ha
theorem open_rows {w : World} {n : Nat} {xs : List Value} {A : Option Addr} (hr : Rd w A 21 n xs) (h : ∀ i, i < n → AllOk w (atomKs.map LK.int) ((xs.drop (i * 21)).take 21)) : ∃ l : List (List Int), l.length = n ∧ xs = arows l ∧ AOks l := by
  obtain ⟨l, hl, e, hok⟩ := rowsZ_open (w := w) (ks := atomKs) (n := n) (xs := xs) hr.1 h
  exact ⟨l, hl, e, rows_aok hok⟩
end Go.Proofs.Ytmgacmkikefpjaa
namespace Go.Proofs.Ytmgacmkikefpjaa
open Go.ChangeShapes Go.WideShapes Go.ChangeAt Go.RowKit
theorem own0 : ownKnob Try.prog.godebug = none := by kernel_rfl
theorem laidOut0 : laidOutB Try.prog = true := by kernel_rfl
theorem fl5 : Flat Try.prog 5 [LK.int .u8] := flat_int Try.underlying5
theorem fl29 : Flat Try.prog 29 [LK.int .u16] := flat_int Try.underlying29
theorem fl31 : Flat Try.prog 31 (List.replicate 8 [LK.int .u8]).flatten := flat_arr Try.underlying31 fl5 rfl (by kernel_rfl) (by kernel_rfl)
theorem fl32 : Flat Try.prog 32 [LK.int .u32] := flat_int Try.underlying32
theorem fl34 : Flat Try.prog 34 ([LK.int .u8] ++ ([LK.int .u16] ++ ((List.replicate 8 [LK.int .u8]).flatten ++ ([LK.int .u8] ++ ([LK.int .u32] ++ ([])))))) := flat_struct Try.underlying34 (.cons rfl fl5 rfl (by kernel_rfl) (.cons rfl fl29 rfl (by kernel_rfl) (.cons rfl fl31 rfl (by kernel_rfl) (.cons rfl fl5 rfl (by kernel_rfl) (.cons rfl fl32 rfl (by kernel_rfl) (.nil)))))) (by kernel_rfl)
theorem fl35 : Flat Try.prog 35 [LK.int .u64] := flat_int Try.underlying35
theorem fl37 : Flat Try.prog 37 ([LK.int .u64] ++ ((List.replicate 8 [LK.int .u8]).flatten ++ ([]))) := flat_struct Try.underlying37 (.cons rfl fl35 rfl (by kernel_rfl) (.cons rfl fl31 rfl (by kernel_rfl) (.nil))) (by kernel_rfl)
theorem fl39 : Flat Try.prog 39 (([LK.int .u8] ++ ([LK.int .u16] ++ ((List.replicate 8 [LK.int .u8]).flatten ++ ([LK.int .u8] ++ ([LK.int .u32] ++ ([])))))) ++ (([LK.int .u64] ++ ((List.replicate 8 [LK.int .u8]).flatten ++ ([]))) ++ ([]))) := flat_struct Try.underlying39 (.cons rfl fl34 rfl (by kernel_rfl) (.cons rfl fl37 rfl (by kernel_rfl) (.nil))) (by kernel_rfl)
end Go.Proofs.Ytmgacmkikefpjaa
namespace Go.Proofs.Ytmgacmkikefpjaa
theorem ws_cons {c : Char} (h : c ≠ Char.ofNat 32) (x : List Char) : wordsSigns (c :: x) = (match wordsSigns x with | w :: ws => (c :: w) :: ws | [] => [[c]]) := by
  conv => lhs; unfold wordsSigns
  split
  · simp_all
  · next h1 => exact absurd (by simpa using (List.cons.inj h1).1) h
  · next h1 => obtain ⟨rfl, rfl⟩ := List.cons.inj h1; rfl
theorem ws_app (b : List Char) : ∀ (a : List Char), (∀ c ∈ a, c ≠ Char.ofNat 32) → wordsSigns (a ++ Char.ofNat 32 :: b) = a :: wordsSigns b
  | [], _ => rfl
  | c :: r, h => by
    rw [List.cons_append, ws_cons (h c (by simp)), ws_app b r (fun x hx => h x (by simp [hx]))]
/-- the head's words: harness, a sum, cut -/
theorem head_words {P : Program} {s b : List Char} (he : P.initOrder = String.ofList ("harness".toList ++ Char.ofNat 32 :: (s ++ Char.ofNat 32 :: ("cut".toList ++ Char.ofNat 32 :: b)))) (hs : isSumSigns s = true) (hb : ∀ c ∈ s, c ≠ Char.ofNat 32) :
    ∃ R, behindMainWord (wordsSigns P.initOrder.toList) = "cut".toList :: R := by
  refine ⟨wordsSigns b, ?_⟩
  rw [he, String.toList_ofList, ws_app _ _ (by decide), ws_app _ _ hb, ws_app _ _ (by decide)]
  simp only [behindMainWord, hs, beq_self_eq_true, Bool.true_or, Bool.and_self, if_true]
theorem e_gc : ("cut".toList == "gc".toList) = false := by decide
theorem e_spec : ("cut".toList == "spec".toList) = false := by decide
theorem e_car : ("cut".toList == "carried".toList) = false := by decide
theorem e_sl (R : List (List Char)) : stripLifts liftWords ("cut".toList :: R) = ([], "cut".toList :: R) := by
  have h : ∀ (l : List String), (∀ o ∈ l, ("cut".toList == o.toList) = false) → stripLifts l ("cut".toList :: R) = ([], "cut".toList :: R) := by
    intro l
    induction l with
    | nil => intro _; rfl
    | cons o os ih => intro hl; rw [stripLifts, hl o (by simp)]; simp only [Bool.false_eq_true, if_false]; exact ih fun x hx => hl x (by simp [hx])
  exact h liftWords (by decide)
section
variable {P : Program} (h : ∃ R, behindMainWord (wordsSigns P.initOrder.toList) = "cut".toList :: R)
include h
theorem make_of : P.make = some .cut := by
  obtain ⟨R, h⟩ := h
  unfold Program.make
  rw [h]
  simp only [e_gc, e_spec, beq_self_eq_true, Bool.or_self, Bool.true_or, Bool.false_eq_true, if_false, if_true]
theorem lifts_of : P.liftsFinal = false := by
  obtain ⟨R, h⟩ := h
  unfold Program.liftsFinal Program.headLifts
  rw [h, e_sl]
  show (_ || _) = false
  rfl
theorem enter_of (hl : P.laysLater = false) (hr : P.bearsReflect = false) (hd : P.doorFits [] = true) : P.mayEnter = true := by
  obtain ⟨R, h⟩ := h
  unfold Program.mayEnter
  rw [h]
  dsimp only
  rw [e_sl, hl, hr]
  simp only [hd, e_gc, e_spec, e_car, beq_self_eq_true, Bool.or_self, Bool.false_and, Bool.not_false, Bool.or_true, Bool.and_true, List.head?_cons, List.contains_nil]
end
theorem closed_of {P : Program} {f : FuncId} {fn : Func} {s : ChangeSpec} {c : OpenClaim} (hm : P.make = some .cut) (hl : P.liftsFinal = false) (he : P.mayEnter = true) (h2 : laidOutB P = true) (h3 : mapsRowed P = true) (hst : (P.stops == []) = true) (hk : (P.stopKnobs == []) = true)
    (hp : P.plainKeys = c.plainKeys) (hh : P.stopsHeard = true) (i1 : P.inPlace f = c.inPlace) (i2 : P.unfollowed f = c.unfollowed) (i3 : P.recurses f = c.recurses) (i4 : P.varsNamed f = c.named)
    (rest : (c.wf (OpenSpec.ofChange s) && fn.params.all (P.readableRec ·) && namedTie P c.named s.vars && (c.stops == []) && (c.knobs == []) &&
      (c.maps == (fn.params.toList ++ s.plain.varTypes P).any (P.mapsRec ·)) && (c.ifaces == (fn.params.toList ++ s.plain.varTypes P).any (P.ifacesRec ·)) && (c.mapsOut == P.mapsAmong fn.resultTypes.toList) &&
      (c.loops == (fn.params.toList ++ s.plain.varTypes P).any (P.loopsFrom ·)) && (c.wideKeys == (fn.params.toList ++ s.plain.varTypes P ++ fn.resultTypes.toList).any (P.wideKeysFrom ·)) &&
      s.vars.all (P.varReadable ·) && fn.resultTypes.all (fun t => P.readableRec t && decide (t < P.types.size)) && (c.ifacesOut == fn.resultTypes.toList.any (P.ifacesRec ·)) && (c.loopsOut == fn.resultTypes.toList.any (P.loopsFrom ·)) && c.shortTexts.isNone && (c.lifted == false) && (some Make.cut == some c.make) &&
      (c.kinds == (if c.domain.isEmpty then [] else fn.params.toList.map fun t => match P.underlying t with | some (.int k) => some k | _ => none)) && (c.pinned == c.pinnedBy) &&
      (c.veiled == (fn.params.toList ++ s.plain.varTypes P ++ fn.resultTypes.toList).any (P.veiledRec ·)) && c.veiledFits P fn.params.toList (fn.params.toList ++ s.plain.varTypes P ++ fn.resultTypes.toList)) = true) : joinedFacts P f fn s c = true := by
  simp only [Bool.and_eq_true] at rest
  unfold joinedFacts
  rw [hm, hl, he, h2, h3, hst, hk, hp, hh, i1, i2, i3, i4]
  simp only [beq_self_eq_true, Bool.and_eq_true, Bool.and_true]
  have hkd := rest.1.1.1.2
  simp only [rest, and_self]
  exact ⟨⟨⟨⟨trivial, hkd⟩, trivial⟩, trivial⟩, trivial⟩
end Go.Proofs.Ytmgacmkikefpjaa
namespace Go.Proofs.Ytmgacmkikefpjaa
def ioS : List Nat := [51, 53, 49, 99, 97, 57, 100, 56, 49, 57, 50, 99, 53, 49, 49, 48, 97, 97, 102, 51, 53, 50, 53, 100, 54, 101, 48, 99, 51, 50, 102, 56, 97, 51, 51, 55, 57, 54, 57, 98, 56, 51, 99, 51, 102, 50, 101, 53, 55, 48, 101, 98, 50, 49, 97, 101, 101, 50, 48, 54, 55, 56, 101, 101]
def ioB : List Nat := [97, 116, 32, 104, 97, 110, 100, 99, 97, 114, 116, 47, 104, 97, 110, 100, 99, 97, 114, 116, 108, 97, 119, 49, 48, 46, 76, 97, 116, 65, 108, 108, 32, 104, 97, 110, 100, 99, 97, 114, 116, 47, 104, 97, 110, 100, 99, 97, 114, 116, 108, 97, 119, 49, 48, 46, 76, 97, 116, 78, 111, 114, 109, 115, 32, 104, 97, 110, 100, 99, 97, 114, 116, 47, 104, 97, 110, 100, 99, 97, 114, 116, 108, 97, 119, 49, 48, 46, 76, 97, 116, 74, 111, 105, 110, 115, 32, 104, 97, 110, 100, 99, 97, 114, 116, 47, 104, 97, 110, 100, 99, 97, 114, 116, 108, 97, 119, 49, 48, 46, 76, 97, 116, 76, 101, 97, 115, 116, 32, 104, 97, 110, 100, 99, 97, 114, 116, 47, 104, 97, 110, 100, 99, 97, 114, 116, 108, 97, 119, 49, 54, 46, 78, 111, 116, 101, 76, 97, 115, 116, 32, 104, 97, 110, 100, 99, 97, 114, 116, 47, 104, 97, 110, 100, 99, 97, 114, 116, 108, 97, 119, 49, 54, 46, 78, 111, 116, 101, 80, 117, 116, 115, 32, 104, 97, 110, 100, 99, 97, 114, 116, 47, 104, 97, 110, 100, 99, 97, 114, 116, 108, 97, 119, 49, 49, 46, 68, 101, 108, 116, 97, 76, 101, 97, 115, 116, 32, 104, 97, 110, 100, 99, 97, 114, 116, 47, 104, 97, 110, 100, 99, 97, 114, 116, 108, 97, 119, 49, 49, 46, 68, 101, 108, 116, 97, 78, 101, 101, 100, 108, 101, 115, 115, 32, 104, 97, 110, 100, 99, 97, 114, 116, 47, 104, 97, 110, 100, 99, 97, 114, 116, 108, 97, 119, 49, 49, 46, 68, 101, 108, 116, 97, 80, 97, 114, 116, 115, 32, 104, 97, 110, 100, 99, 97, 114, 116, 47, 104, 97, 110, 100, 99, 97, 114, 116, 108, 97, 119, 49, 49, 46, 68, 101, 108, 116, 97, 83, 116, 97, 110, 100, 115, 32, 104, 97, 110, 100, 99, 97, 114, 116, 47, 104, 97, 110, 100, 99, 97, 114, 116, 108, 97, 119, 49, 52, 46, 84, 97, 103, 115, 65, 100, 100, 115, 32, 104, 97, 110, 100, 99, 97, 114, 116, 47, 104, 97, 110, 100, 99, 97, 114, 116, 108, 97, 119, 49, 52, 46, 84, 97, 103, 115, 87, 105, 110, 32, 104, 97, 110, 100, 99, 97, 114, 116, 47, 104, 97, 110, 100, 99, 97, 114, 116, 108, 97, 119, 49, 53, 46, 67, 111, 117, 110, 116, 84, 117, 114, 110, 115, 32, 104, 97, 110, 100, 99, 97, 114, 116, 47, 104, 97, 110, 100, 99, 97, 114, 116, 108, 97, 119, 49, 53, 46, 67, 111, 117, 110, 116, 65, 100, 100, 115, 32, 104, 97, 110, 100, 99, 97, 114, 116, 47, 104, 97, 110, 100, 99, 97, 114, 116, 108, 97, 119, 50, 49, 46, 67, 104, 117, 110, 107, 70, 101, 119, 101, 115, 116, 32, 104, 97, 110, 100, 99, 97, 114, 116, 47, 104, 97, 110, 100, 99, 97, 114, 116, 108, 97, 119, 49, 51, 46, 68, 111, 116, 115, 65, 100, 100, 115, 32, 104, 97, 110, 100, 99, 97, 114, 116, 47, 104, 97, 110, 100, 99, 97, 114, 116, 108, 97, 119, 49, 51, 46, 68, 111, 116, 115, 65, 108, 111, 110, 101, 32, 104, 97, 110, 100, 99, 97, 114, 116, 47, 104, 97, 110, 100, 99, 97, 114, 116, 108, 97, 119, 49, 51, 46, 68, 111, 116, 115, 74, 111, 105, 110, 115]
theorem io_eq : Try.prog.initOrder = String.ofList ("harness".toList ++ Char.ofNat 32 :: (ioS.map Char.ofNat ++ Char.ofNat 32 :: ("cut".toList ++ Char.ofNat 32 :: ioB.map Char.ofNat))) := by kernel_rfl
theorem io_sum : isSumSigns (ioS.map Char.ofNat) = true := by kernel_rfl
theorem io_hd : ∃ R, behindMainWord (wordsSigns Try.prog.initOrder.toList) = "cut".toList :: R := head_words io_eq io_sum (by decide)
theorem p_make : Try.prog.make = some .cut := make_of io_hd
theorem p_lifts : Try.prog.liftsFinal = false := lifts_of io_hd
theorem p_ll : Try.prog.laysLater = false := by kernel_rfl
theorem p_br : Try.prog.bearsReflect = false := by kernel_rfl
theorem p_df : Try.prog.doorFits [] = true := by kernel_rfl
theorem p_enter : Try.prog.mayEnter = true := enter_of io_hd p_ll p_br p_df
theorem p_rowed : mapsRowed Try.prog = true := by kernel_rfl
theorem p_stops : (Try.prog.stops == []) = true := by kernel_rfl
theorem p_knobs : (Try.prog.stopKnobs == []) = true := by kernel_rfl
theorem p_keys : Try.prog.plainKeys = false := by kernel_rfl
theorem p_heard : Try.prog.stopsHeard = true := by kernel_rfl
end Go.Proofs.Ytmgacmkikefpjaa
