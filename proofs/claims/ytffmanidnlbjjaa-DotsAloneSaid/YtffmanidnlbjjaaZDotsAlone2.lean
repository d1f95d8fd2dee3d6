/- Rules, plain words and walks that the claim leans on: Ra, Rb, Rc, Rd, Cv, Rf. -/
import Derived.Test.YtffmanidnlbjjaaZDotsAlone1
set_option linter.unusedSimpArgs false
set_option linter.unusedVariables false
set_option linter.unusedSimpArgs false
set_option linter.unusedVariables false
set_option maxHeartbeats 2000000
set_option maxRecDepth 100000
namespace Go.Proofs.Ytffmanidnlbjjaa
open Go.RowKit

theorem mt_len : MT Try.prog 115 "Len" 81 false := by unfold MT; kernel_rfl
theorem mt_less : MT Try.prog 115 "Less" 185 false := by unfold MT; kernel_rfl
theorem mt_swap : MT Try.prog 115 "Swap" 188 false := by unfold MT; kernel_rfl
theorem mt_push : MT Try.prog 115 "Push" 187 true := by unfold MT; kernel_rfl
theorem mt_pop : MT Try.prog 115 "Pop" 186 true := by unfold MT; kernel_rfl
theorem up_par (j : Nat) (h : j < 4611686018427387904) : IntKind.i64.wrap (((j : Int) - 1).tdiv 2) = (((j - 1) / 2 : Nat) : Int) := by
  rcases Nat.eq_zero_or_pos j with rfl | h0
  · decide
  · rw [show (j : Int) - 1 = ((j - 1 : Nat) : Int) by omega]; exact quo_i64 (r := j - 1) (p := 2) (by omega)

theorem c_wLen (A : Option Addr) (n c : Nat)  (w0 : World) :
    CallR Try.prog 81 #[.slice A n c] w0 fun v w' => v = .int .i64 (n : Int) ∧ Ext w0 w' := by
 have hS : St NoB w0 w0 [] := St.start w0
 refine c_enter (l := [.slice A n c, undef, undef, undef, undef]) Try.func81 rfl (by simp only [Try.ntmps81, List.size_toArray, List.length_cons, List.length_nil, Nat.reduceAdd, Nat.reduceSub, Array.replicate_succ, Array.replicate_zero, List.push_toArray, List.append_toArray, List.nil_append, List.cons_append]) ?_
 refine x_seq fun K1 hK1 => ?_
 refine x_region ?_
 refine s_go (s_assign) ?_
 try simp only [opv, n1, n2, n3, n4, Value.cells]
 refine x_nil ?_
 refine hK1 _ _ ?_
 refine x_seq fun K2 hK2 => ?_
 refine x_region ?_
 refine s_go (s_move) ?_
 try simp only [opv, n1, n2, n3, n4, Value.cells]
 refine s_go (s_len_sl Try.underlying116) ?_
 try simp only [opv, n1, n2, n3, n4, Value.cells]
 refine s_go (s_assign) ?_
 try simp only [opv, n1, n2, n3, n4, Value.cells]
 refine x_nil ?_
 refine hK2 _ _ ?_
 refine x_ret ?_
 refine r_tmp rfl ?_
 exact ⟨rfl, hS.ext_of⟩
theorem c_wLess (w0 : World) (A : Option Addr) (n c : Nat) (l : List Int) (hr : Rd w0 A 1 n (List.map (Value.int .u64) l)) (hl : l.length = n) (hn : n ≤ 4000000000) (i j : Nat) (hi : i < n) (hj : j < n)  :
    CallR Try.prog 185 #[.slice A n c, .int .i64 (i : Int), .int .i64 (j : Int)] w0 fun v w' => v = .bool (decide (l.getD i 0 < l.getD j 0)) ∧ Ext w0 w' := by
 have hS := St.rd1 (S := NoB) hr
 refine c_enter (l := [.slice A n c, .int .i64 (i : Int), .int .i64 (j : Int), undef, undef, undef, undef, undef, undef, undef, undef, undef, undef, undef, undef, undef]) Try.func185 rfl (by simp only [Try.ntmps185, List.size_toArray, List.length_cons, List.length_nil, Nat.reduceAdd, Nat.reduceSub, Array.replicate_succ, Array.replicate_zero, List.push_toArray, List.append_toArray, List.nil_append, List.cons_append]) ?_
 refine x_seq fun K1 hK1 => ?_
 refine x_region ?_
 refine s_go (s_assign) ?_
 try simp only [opv, n1, n2, n3, n4, Value.cells]
 refine x_nil ?_
 refine hK1 _ _ ?_
 refine x_seq fun K2 hK2 => ?_
 refine x_quiet (by kernel_rfl) (by kernel_rfl) hS ?_
 refine q_go (fun w hS => s_move) ?_
 try simp only [opv, n1, n2, n3, n4, Value.cells]
 refine q_go (fun w hS => s_move) ?_
 try simp only [opv, n1, n2, n3, n4, Value.cells]
 first | refine q_go (fun w hS => m_indexAddr_rd Try.underlying116 ti48 (hS := hS)) ?_ | refine q_go (fun w hS => m_indexAddr_vec Try.underlying116 ti48 (hS := hS)) ?_
 try simp only [opv, n1, n2, n3, n4, Value.cells, Nat.mul_one, Nat.zero_add, Int.toNat_natCast, Int.reduceToNat]
 first | refine q_go (fun w hS => m_load_obj Try.underlying48 (hS := hS)) ?_ | refine q_go (fun w hS => m_load_bx Try.underlying48 (hS := hS)) ?_ | refine q_go (fun w hS => m_load_rd Try.underlying48 (hS := hS)) ?_ | refine q_go (fun w hS => m_load_vec Try.underlying48 (hS := hS)) ?_
 try simp only [opv, n1, n2, n3, n4, Value.cells, List.getElem_toArray, List.getElem_cons_zero, List.getElem_cons_succ]
 refine q_go (fun w hS => s_move) ?_
 try simp only [opv, n1, n2, n3, n4, Value.cells]
 refine q_go (fun w hS => s_move) ?_
 try simp only [opv, n1, n2, n3, n4, Value.cells]
 first | refine q_go (fun w hS => m_indexAddr_rd Try.underlying116 ti48 (hS := hS)) ?_ | refine q_go (fun w hS => m_indexAddr_vec Try.underlying116 ti48 (hS := hS)) ?_
 try simp only [opv, n1, n2, n3, n4, Value.cells, Nat.mul_one, Nat.zero_add, Int.toNat_natCast, Int.reduceToNat]
 first | refine q_go (fun w hS => m_load_obj Try.underlying48 (hS := hS)) ?_ | refine q_go (fun w hS => m_load_bx Try.underlying48 (hS := hS)) ?_ | refine q_go (fun w hS => m_load_rd Try.underlying48 (hS := hS)) ?_ | refine q_go (fun w hS => m_load_vec Try.underlying48 (hS := hS)) ?_
 try simp only [opv, n1, n2, n3, n4, Value.cells, List.getElem_toArray, List.getElem_cons_zero, List.getElem_cons_succ]
 refine q_go (fun w hS => s_lss) ?_
 try simp only [opv, n1, n2, n3, n4, Value.cells]
 refine q_go (fun w hS => s_assign) ?_
 try simp only [opv, n1, n2, n3, n4, Value.cells]
 clear hS
 refine q_nil fun w1 hS => ?_
 refine hK2 _ _ ?_
 refine x_ret ?_
 refine r_tmp rfl ?_
 exact ⟨rfl, hS.ext_of⟩
theorem c_wSwap (w0 : World) (A : Option Addr) (c n : Nat) (l : List Int) (hl : l.length = n) (i j : Nat) (hi : i < n) (hj : j < n) (hM : St (OwnB [.vec A c 48 1 n (List.map (Value.int .u64) l)]) w0 w0 [.vec A c 48 1 n (List.map (Value.int .u64) l)])  :
    CallR Try.prog 188 #[.slice A n c, .int .i64 (i : Int), .int .i64 (j : Int)] w0 fun v w' => v = .tuple #[] ∧ St (OwnB [.vec A c 48 1 n (List.map (Value.int .u64) l)]) w0 w' [.vec A c 48 1 n (List.map (Value.int .u64) (swp l i j))] := by
 have hS := hM
 refine c_enter (l := [.slice A n c, .int .i64 (i : Int), .int .i64 (j : Int), undef, undef, undef, undef, undef, undef, undef, undef, undef, undef, undef, undef, undef, undef, undef, undef, undef]) Try.func188 rfl (by simp only [Try.ntmps188, List.size_toArray, List.length_cons, List.length_nil, Nat.reduceAdd, Nat.reduceSub, Array.replicate_succ, Array.replicate_zero, List.push_toArray, List.append_toArray, List.nil_append, List.cons_append]) ?_
 refine x_mixed_c (Lc := []) [] 0 [6, 7, 8, 9, 10, 11, 12, 13, 14, 15, 16, 17, 18, 19] (fun f w => St (OwnB [.vec A c 48 1 n (List.map (Value.int .u64) l)]) w0 w [.vec A c 48 1 n (List.map (Value.int .u64) ((l.set i (l.getD j 0)).set j (l.getD i 0)))]) (by kernel_rfl) (by kernel_rfl) (by kernel_rfl) (by decide) hS (fun w1 hS => ?mixpre1) ?mixrest1
 case mixpre1 =>
  refine p_nil ?_
  simp only [List.length_cons, List.length_nil, Nat.reduceAdd, Nat.reduceSub]
  refine any_go (i := 0) (by rfl) (by decide +kernel) (by decide +kernel) noLate_nil (go_yields w_none (fun w hS => s_move)) ?_
  try simp only [opv, n1, n2, n3, n4, Value.cells]
  refine any_go (i := 1) (by rfl) (by decide +kernel) (by decide +kernel) noLate_nil (go_yields w_none (fun w hS => s_move)) ?_
  try simp only [opv, n1, n2, n3, n4, Value.cells]
  refine any_go (i := 2) (by rfl) (by decide +kernel) (by decide +kernel) noLate_nil (go_yields w_none (fun w hS => s_move)) ?_
  try simp only [opv, n1, n2, n3, n4, Value.cells]
  refine any_go (i := 3) (by rfl) (by decide +kernel) (by decide +kernel) noLate_nil (go_yields w_none (fun w hS => s_move)) ?_
  try simp only [opv, n1, n2, n3, n4, Value.cells]
  refine any_go (i := 4) (by rfl) (by decide +kernel) (by decide +kernel) noLate_nil (go_yields w_none (fun w hS => s_move)) ?_
  try simp only [opv, n1, n2, n3, n4, Value.cells]
  refine any_go (i := 5) (by rfl) (by decide +kernel) (by decide +kernel) noLate_nil (go_yields w_none (fun w hS => s_move)) ?_
  try simp only [opv, n1, n2, n3, n4, Value.cells]
  refine any_go (i := 8) (by rfl) (by decide +kernel) (by decide +kernel) noLate_nil (go_yields w_none (fun w hS => s_move)) ?_
  try simp only [opv, n1, n2, n3, n4, Value.cells]
  refine any_go (i := 9) (by rfl) (by decide +kernel) (by decide +kernel) noLate_nil (go_yields w_none (fun w hS => s_move)) ?_
  try simp only [opv, n1, n2, n3, n4, Value.cells]
  refine any_step [6, 10] (by kernel_rfl) (by decide) (fun w2 hE => ⟨fun _ => (hS.ext hE).sel (by repeat (first | exact Sel.nil | (refine Sel.cons (by repeat (first | exact Del.head | apply Del.tail)) ?_))), ?_⟩)
  replace hS := hS.ext hE
  intro i hi
  simp only [List.mem_cons, List.not_mem_nil, or_false] at hi
  rcases hi with rfl | rfl
  ·
   refine any_op (by rfl) ?_
   first | refine s_go (m_indexAddr_rd Try.underlying116 ti48 (hS := hS)) ?_ | refine s_go (m_indexAddr_vec Try.underlying116 ti48 (hS := hS)) ?_
   try simp only [opv, n1, n2, n3, n4, Value.cells, Nat.mul_one, Nat.zero_add, Int.toNat_natCast, Int.reduceToNat]
   refine x_nil ?_
   refine any_step [7, 10] (by kernel_rfl) (by decide) (fun w3 hE => ⟨fun _ => (hS.ext hE).sel (by repeat (first | exact Sel.nil | (refine Sel.cons (by repeat (first | exact Del.head | apply Del.tail)) ?_))), ?_⟩)
   replace hS := hS.ext hE
   intro i hi
   simp only [List.mem_cons, List.not_mem_nil, or_false] at hi
   rcases hi with rfl | rfl
   ·
    refine any_op (by rfl) ?_
    first | refine s_go (m_load_obj Try.underlying48 (hS := hS)) ?_ | refine s_go (m_load_bx Try.underlying48 (hS := hS)) ?_ | refine s_go (m_load_rd Try.underlying48 (hS := hS)) ?_ | refine s_go (m_load_vec Try.underlying48 (hS := hS)) ?_
    try simp only [opv, n1, n2, n3, n4, Value.cells, List.getElem_toArray, List.getElem_cons_zero, List.getElem_cons_succ]
    refine x_nil ?_
    refine any_step [10] (by kernel_rfl) (by decide) (fun w4 hE => ⟨fun _ => (hS.ext hE).sel (by repeat (first | exact Sel.nil | (refine Sel.cons (by repeat (first | exact Del.head | apply Del.tail)) ?_))), ?_⟩)
    replace hS := hS.ext hE
    intro i hi
    simp only [List.mem_cons, List.not_mem_nil, or_false] at hi
    subst hi
    ·
     refine any_op (by rfl) ?_
     first | refine s_go (m_indexAddr_rd Try.underlying116 ti48 (hS := hS)) ?_ | refine s_go (m_indexAddr_vec Try.underlying116 ti48 (hS := hS)) ?_
     try simp only [opv, n1, n2, n3, n4, Value.cells, Nat.mul_one, Nat.zero_add, Int.toNat_natCast, Int.reduceToNat]
     refine x_nil ?_
     refine any_step [11] (by kernel_rfl) (by decide) (fun w5 hE => ⟨fun _ => (hS.ext hE).sel (by repeat (first | exact Sel.nil | (refine Sel.cons (by repeat (first | exact Del.head | apply Del.tail)) ?_))), ?_⟩)
     replace hS := hS.ext hE
     intro i hi
     simp only [List.mem_cons, List.not_mem_nil, or_false] at hi
     subst hi
     ·
      refine any_op (by rfl) ?_
      first | refine s_go (m_load_obj Try.underlying48 (hS := hS)) ?_ | refine s_go (m_load_bx Try.underlying48 (hS := hS)) ?_ | refine s_go (m_load_rd Try.underlying48 (hS := hS)) ?_ | refine s_go (m_load_vec Try.underlying48 (hS := hS)) ?_
      try simp only [opv, n1, n2, n3, n4, Value.cells, List.getElem_toArray, List.getElem_cons_zero, List.getElem_cons_succ]
      refine x_nil ?_
      refine any_step [12] (by kernel_rfl) (by decide) (fun w6 hE => ⟨fun _ => (hS.ext hE).sel (by repeat (first | exact Sel.nil | (refine Sel.cons (by repeat (first | exact Del.head | apply Del.tail)) ?_))), ?_⟩)
      replace hS := hS.ext hE
      intro i hi
      simp only [List.mem_cons, List.not_mem_nil, or_false] at hi
      subst hi
      ·
       refine any_op (by rfl) ?_
       first | refine s_go (m_indexAddr_rd Try.underlying116 ti48 (hS := hS)) ?_ | refine s_go (m_indexAddr_vec Try.underlying116 ti48 (hS := hS)) ?_
       try simp only [opv, n1, n2, n3, n4, Value.cells, Nat.mul_one, Nat.zero_add, Int.toNat_natCast, Int.reduceToNat]
       refine x_nil ?_
       refine any_step [13] (by kernel_rfl) (by decide) (fun w7 hE => ⟨fun _ => (hS.ext hE).sel (by repeat (first | exact Sel.nil | (refine Sel.cons (by repeat (first | exact Del.head | apply Del.tail)) ?_))), ?_⟩)
       replace hS := hS.ext hE
       intro i hi
       simp only [List.mem_cons, List.not_mem_nil, or_false] at hi
       subst hi
       ·
        refine any_op (by rfl) ?_
        first | refine m_store_obj ti48 (hS := hS) (h := fun w8 hS => ?_) | refine m_store_vec ti48 (hS := hS) (h := fun w8 hS => ?_)
        try simp only [opv, n1, n2, n3, n4, Value.cells, Array.toArray_toList] at hS ⊢
        refine x_nil ?_
        refine any_step [14] (by kernel_rfl) (by decide) (fun w9 hE => ⟨fun _ => (hS.ext hE).sel (by repeat (first | exact Sel.nil | (refine Sel.cons (by repeat (first | exact Del.head | apply Del.tail)) ?_))), ?_⟩)
        replace hS := hS.ext hE
        intro i hi
        simp only [List.mem_cons, List.not_mem_nil, or_false] at hi
        subst hi
        ·
         refine any_op (by rfl) ?_
         first | refine s_go (m_indexAddr_rd Try.underlying116 ti48 (hS := hS)) ?_ | refine s_go (m_indexAddr_vec Try.underlying116 ti48 (hS := hS)) ?_
         try simp only [opv, n1, n2, n3, n4, Value.cells, Nat.mul_one, Nat.zero_add, Int.toNat_natCast, Int.reduceToNat]
         refine x_nil ?_
         refine any_step [15] (by kernel_rfl) (by decide) (fun w10 hE => ⟨fun _ => (hS.ext hE).sel (by repeat (first | exact Sel.nil | (refine Sel.cons (by repeat (first | exact Del.head | apply Del.tail)) ?_))), ?_⟩)
         replace hS := hS.ext hE
         intro i hi
         simp only [List.mem_cons, List.not_mem_nil, or_false] at hi
         subst hi
         ·
          refine any_op (by rfl) ?_
          first | refine m_store_obj ti48 (hS := hS) (h := fun w11 hS => ?_) | refine m_store_vec ti48 (hS := hS) (h := fun w11 hS => ?_)
          try simp only [opv, n1, n2, n3, n4, Value.cells, Array.toArray_toList] at hS ⊢
          refine x_nil ?_
          refine any_nil (by kernel_rfl) (fun w12 hE => ?_)
          replace hS := hS.ext hE
          refine ⟨fun _ => hS.sel (by repeat (first | exact Sel.nil | (refine Sel.cons (by repeat (first | exact Del.head | apply Del.tail)) ?_))), ?_⟩
          refine mix_leaf (by simp only [clob, List.foldl, n1, n2, n3, n4]) ?_
          try simp only [n1, n2]
          exact hS.sel (by repeat (first | exact Sel.nil | (refine Sel.cons (by repeat (first | exact Del.head | apply Del.tail)) ?_)))
   ·
    refine any_op (by rfl) ?_
    first | refine s_go (m_indexAddr_rd Try.underlying116 ti48 (hS := hS)) ?_ | refine s_go (m_indexAddr_vec Try.underlying116 ti48 (hS := hS)) ?_
    try simp only [opv, n1, n2, n3, n4, Value.cells, Nat.mul_one, Nat.zero_add, Int.toNat_natCast, Int.reduceToNat]
    refine x_nil ?_
    refine any_step [7, 11] (by kernel_rfl) (by decide) (fun w13 hE => ⟨fun _ => (hS.ext hE).sel (by repeat (first | exact Sel.nil | (refine Sel.cons (by repeat (first | exact Del.head | apply Del.tail)) ?_))), ?_⟩)
    replace hS := hS.ext hE
    intro i hi
    simp only [List.mem_cons, List.not_mem_nil, or_false] at hi
    rcases hi with rfl | rfl
    ·
     refine any_op (by rfl) ?_
     first | refine s_go (m_load_obj Try.underlying48 (hS := hS)) ?_ | refine s_go (m_load_bx Try.underlying48 (hS := hS)) ?_ | refine s_go (m_load_rd Try.underlying48 (hS := hS)) ?_ | refine s_go (m_load_vec Try.underlying48 (hS := hS)) ?_
     try simp only [opv, n1, n2, n3, n4, Value.cells, List.getElem_toArray, List.getElem_cons_zero, List.getElem_cons_succ]
     refine x_nil ?_
     refine any_step [11] (by kernel_rfl) (by decide) (fun w14 hE => ⟨fun _ => (hS.ext hE).sel (by repeat (first | exact Sel.nil | (refine Sel.cons (by repeat (first | exact Del.head | apply Del.tail)) ?_))), ?_⟩)
     replace hS := hS.ext hE
     intro i hi
     simp only [List.mem_cons, List.not_mem_nil, or_false] at hi
     subst hi
     ·
      refine any_op (by rfl) ?_
      first | refine s_go (m_load_obj Try.underlying48 (hS := hS)) ?_ | refine s_go (m_load_bx Try.underlying48 (hS := hS)) ?_ | refine s_go (m_load_rd Try.underlying48 (hS := hS)) ?_ | refine s_go (m_load_vec Try.underlying48 (hS := hS)) ?_
      try simp only [opv, n1, n2, n3, n4, Value.cells, List.getElem_toArray, List.getElem_cons_zero, List.getElem_cons_succ]
      refine x_nil ?_
      refine any_step [12] (by kernel_rfl) (by decide) (fun w15 hE => ⟨fun _ => (hS.ext hE).sel (by repeat (first | exact Sel.nil | (refine Sel.cons (by repeat (first | exact Del.head | apply Del.tail)) ?_))), ?_⟩)
      replace hS := hS.ext hE
      intro i hi
      simp only [List.mem_cons, List.not_mem_nil, or_false] at hi
      subst hi
      ·
       refine any_op (by rfl) ?_
       first | refine s_go (m_indexAddr_rd Try.underlying116 ti48 (hS := hS)) ?_ | refine s_go (m_indexAddr_vec Try.underlying116 ti48 (hS := hS)) ?_
       try simp only [opv, n1, n2, n3, n4, Value.cells, Nat.mul_one, Nat.zero_add, Int.toNat_natCast, Int.reduceToNat]
       refine x_nil ?_
       refine any_step [13] (by kernel_rfl) (by decide) (fun w16 hE => ⟨fun _ => (hS.ext hE).sel (by repeat (first | exact Sel.nil | (refine Sel.cons (by repeat (first | exact Del.head | apply Del.tail)) ?_))), ?_⟩)
       replace hS := hS.ext hE
       intro i hi
       simp only [List.mem_cons, List.not_mem_nil, or_false] at hi
       subst hi
       ·
        refine any_op (by rfl) ?_
        first | refine m_store_obj ti48 (hS := hS) (h := fun w17 hS => ?_) | refine m_store_vec ti48 (hS := hS) (h := fun w17 hS => ?_)
        try simp only [opv, n1, n2, n3, n4, Value.cells, Array.toArray_toList] at hS ⊢
        refine x_nil ?_
        refine any_step [14] (by kernel_rfl) (by decide) (fun w18 hE => ⟨fun _ => (hS.ext hE).sel (by repeat (first | exact Sel.nil | (refine Sel.cons (by repeat (first | exact Del.head | apply Del.tail)) ?_))), ?_⟩)
        replace hS := hS.ext hE
        intro i hi
        simp only [List.mem_cons, List.not_mem_nil, or_false] at hi
        subst hi
        ·
         refine any_op (by rfl) ?_
         first | refine s_go (m_indexAddr_rd Try.underlying116 ti48 (hS := hS)) ?_ | refine s_go (m_indexAddr_vec Try.underlying116 ti48 (hS := hS)) ?_
         try simp only [opv, n1, n2, n3, n4, Value.cells, Nat.mul_one, Nat.zero_add, Int.toNat_natCast, Int.reduceToNat]
         refine x_nil ?_
         refine any_step [15] (by kernel_rfl) (by decide) (fun w19 hE => ⟨fun _ => (hS.ext hE).sel (by repeat (first | exact Sel.nil | (refine Sel.cons (by repeat (first | exact Del.head | apply Del.tail)) ?_))), ?_⟩)
         replace hS := hS.ext hE
         intro i hi
         simp only [List.mem_cons, List.not_mem_nil, or_false] at hi
         subst hi
         ·
          refine any_op (by rfl) ?_
          first | refine m_store_obj ti48 (hS := hS) (h := fun w20 hS => ?_) | refine m_store_vec ti48 (hS := hS) (h := fun w20 hS => ?_)
          try simp only [opv, n1, n2, n3, n4, Value.cells, Array.toArray_toList] at hS ⊢
          refine x_nil ?_
          refine any_nil (by kernel_rfl) (fun w21 hE => ?_)
          replace hS := hS.ext hE
          refine ⟨fun _ => hS.sel (by repeat (first | exact Sel.nil | (refine Sel.cons (by repeat (first | exact Del.head | apply Del.tail)) ?_))), ?_⟩
          refine mix_leaf (by simp only [clob, List.foldl, n1, n2, n3, n4]) ?_
          try simp only [n1, n2]
          exact hS.sel (by repeat (first | exact Sel.nil | (refine Sel.cons (by repeat (first | exact Del.head | apply Del.tail)) ?_)))
    ·
     refine any_op (by rfl) ?_
     first | refine s_go (m_load_obj Try.underlying48 (hS := hS)) ?_ | refine s_go (m_load_bx Try.underlying48 (hS := hS)) ?_ | refine s_go (m_load_rd Try.underlying48 (hS := hS)) ?_ | refine s_go (m_load_vec Try.underlying48 (hS := hS)) ?_
     try simp only [opv, n1, n2, n3, n4, Value.cells, List.getElem_toArray, List.getElem_cons_zero, List.getElem_cons_succ]
     refine x_nil ?_
     refine any_step [7] (by kernel_rfl) (by decide) (fun w22 hE => ⟨fun _ => (hS.ext hE).sel (by repeat (first | exact Sel.nil | (refine Sel.cons (by repeat (first | exact Del.head | apply Del.tail)) ?_))), ?_⟩)
     replace hS := hS.ext hE
     intro i hi
     simp only [List.mem_cons, List.not_mem_nil, or_false] at hi
     subst hi
     ·
      refine any_op (by rfl) ?_
      first | refine s_go (m_load_obj Try.underlying48 (hS := hS)) ?_ | refine s_go (m_load_bx Try.underlying48 (hS := hS)) ?_ | refine s_go (m_load_rd Try.underlying48 (hS := hS)) ?_ | refine s_go (m_load_vec Try.underlying48 (hS := hS)) ?_
      try simp only [opv, n1, n2, n3, n4, Value.cells, List.getElem_toArray, List.getElem_cons_zero, List.getElem_cons_succ]
      refine x_nil ?_
      refine any_step [12] (by kernel_rfl) (by decide) (fun w23 hE => ⟨fun _ => (hS.ext hE).sel (by repeat (first | exact Sel.nil | (refine Sel.cons (by repeat (first | exact Del.head | apply Del.tail)) ?_))), ?_⟩)
      replace hS := hS.ext hE
      intro i hi
      simp only [List.mem_cons, List.not_mem_nil, or_false] at hi
      subst hi
      ·
       refine any_op (by rfl) ?_
       first | refine s_go (m_indexAddr_rd Try.underlying116 ti48 (hS := hS)) ?_ | refine s_go (m_indexAddr_vec Try.underlying116 ti48 (hS := hS)) ?_
       try simp only [opv, n1, n2, n3, n4, Value.cells, Nat.mul_one, Nat.zero_add, Int.toNat_natCast, Int.reduceToNat]
       refine x_nil ?_
       refine any_step [13] (by kernel_rfl) (by decide) (fun w24 hE => ⟨fun _ => (hS.ext hE).sel (by repeat (first | exact Sel.nil | (refine Sel.cons (by repeat (first | exact Del.head | apply Del.tail)) ?_))), ?_⟩)
       replace hS := hS.ext hE
       intro i hi
       simp only [List.mem_cons, List.not_mem_nil, or_false] at hi
       subst hi
       ·
        refine any_op (by rfl) ?_
        first | refine m_store_obj ti48 (hS := hS) (h := fun w25 hS => ?_) | refine m_store_vec ti48 (hS := hS) (h := fun w25 hS => ?_)
        try simp only [opv, n1, n2, n3, n4, Value.cells, Array.toArray_toList] at hS ⊢
        refine x_nil ?_
        refine any_step [14] (by kernel_rfl) (by decide) (fun w26 hE => ⟨fun _ => (hS.ext hE).sel (by repeat (first | exact Sel.nil | (refine Sel.cons (by repeat (first | exact Del.head | apply Del.tail)) ?_))), ?_⟩)
        replace hS := hS.ext hE
        intro i hi
        simp only [List.mem_cons, List.not_mem_nil, or_false] at hi
        subst hi
        ·
         refine any_op (by rfl) ?_
         first | refine s_go (m_indexAddr_rd Try.underlying116 ti48 (hS := hS)) ?_ | refine s_go (m_indexAddr_vec Try.underlying116 ti48 (hS := hS)) ?_
         try simp only [opv, n1, n2, n3, n4, Value.cells, Nat.mul_one, Nat.zero_add, Int.toNat_natCast, Int.reduceToNat]
         refine x_nil ?_
         refine any_step [15] (by kernel_rfl) (by decide) (fun w27 hE => ⟨fun _ => (hS.ext hE).sel (by repeat (first | exact Sel.nil | (refine Sel.cons (by repeat (first | exact Del.head | apply Del.tail)) ?_))), ?_⟩)
         replace hS := hS.ext hE
         intro i hi
         simp only [List.mem_cons, List.not_mem_nil, or_false] at hi
         subst hi
         ·
          refine any_op (by rfl) ?_
          first | refine m_store_obj ti48 (hS := hS) (h := fun w28 hS => ?_) | refine m_store_vec ti48 (hS := hS) (h := fun w28 hS => ?_)
          try simp only [opv, n1, n2, n3, n4, Value.cells, Array.toArray_toList] at hS ⊢
          refine x_nil ?_
          refine any_nil (by kernel_rfl) (fun w29 hE => ?_)
          replace hS := hS.ext hE
          refine ⟨fun _ => hS.sel (by repeat (first | exact Sel.nil | (refine Sel.cons (by repeat (first | exact Del.head | apply Del.tail)) ?_))), ?_⟩
          refine mix_leaf (by simp only [clob, List.foldl, n1, n2, n3, n4]) ?_
          try simp only [n1, n2]
          exact hS.sel (by repeat (first | exact Sel.nil | (refine Sel.cons (by repeat (first | exact Del.head | apply Del.tail)) ?_)))
  ·
   refine any_op (by rfl) ?_
   first | refine s_go (m_indexAddr_rd Try.underlying116 ti48 (hS := hS)) ?_ | refine s_go (m_indexAddr_vec Try.underlying116 ti48 (hS := hS)) ?_
   try simp only [opv, n1, n2, n3, n4, Value.cells, Nat.mul_one, Nat.zero_add, Int.toNat_natCast, Int.reduceToNat]
   refine x_nil ?_
   refine any_step [6, 11] (by kernel_rfl) (by decide) (fun w30 hE => ⟨fun _ => (hS.ext hE).sel (by repeat (first | exact Sel.nil | (refine Sel.cons (by repeat (first | exact Del.head | apply Del.tail)) ?_))), ?_⟩)
   replace hS := hS.ext hE
   intro i hi
   simp only [List.mem_cons, List.not_mem_nil, or_false] at hi
   rcases hi with rfl | rfl
   ·
    refine any_op (by rfl) ?_
    first | refine s_go (m_indexAddr_rd Try.underlying116 ti48 (hS := hS)) ?_ | refine s_go (m_indexAddr_vec Try.underlying116 ti48 (hS := hS)) ?_
    try simp only [opv, n1, n2, n3, n4, Value.cells, Nat.mul_one, Nat.zero_add, Int.toNat_natCast, Int.reduceToNat]
    refine x_nil ?_
    refine any_step [7, 11] (by kernel_rfl) (by decide) (fun w31 hE => ⟨fun _ => (hS.ext hE).sel (by repeat (first | exact Sel.nil | (refine Sel.cons (by repeat (first | exact Del.head | apply Del.tail)) ?_))), ?_⟩)
    replace hS := hS.ext hE
    intro i hi
    simp only [List.mem_cons, List.not_mem_nil, or_false] at hi
    rcases hi with rfl | rfl
    ·
     refine any_op (by rfl) ?_
     first | refine s_go (m_load_obj Try.underlying48 (hS := hS)) ?_ | refine s_go (m_load_bx Try.underlying48 (hS := hS)) ?_ | refine s_go (m_load_rd Try.underlying48 (hS := hS)) ?_ | refine s_go (m_load_vec Try.underlying48 (hS := hS)) ?_
     try simp only [opv, n1, n2, n3, n4, Value.cells, List.getElem_toArray, List.getElem_cons_zero, List.getElem_cons_succ]
     refine x_nil ?_
     refine any_step [11] (by kernel_rfl) (by decide) (fun w32 hE => ⟨fun _ => (hS.ext hE).sel (by repeat (first | exact Sel.nil | (refine Sel.cons (by repeat (first | exact Del.head | apply Del.tail)) ?_))), ?_⟩)
     replace hS := hS.ext hE
     intro i hi
     simp only [List.mem_cons, List.not_mem_nil, or_false] at hi
     subst hi
     ·
      refine any_op (by rfl) ?_
      first | refine s_go (m_load_obj Try.underlying48 (hS := hS)) ?_ | refine s_go (m_load_bx Try.underlying48 (hS := hS)) ?_ | refine s_go (m_load_rd Try.underlying48 (hS := hS)) ?_ | refine s_go (m_load_vec Try.underlying48 (hS := hS)) ?_
      try simp only [opv, n1, n2, n3, n4, Value.cells, List.getElem_toArray, List.getElem_cons_zero, List.getElem_cons_succ]
      refine x_nil ?_
      refine any_step [12] (by kernel_rfl) (by decide) (fun w33 hE => ⟨fun _ => (hS.ext hE).sel (by repeat (first | exact Sel.nil | (refine Sel.cons (by repeat (first | exact Del.head | apply Del.tail)) ?_))), ?_⟩)
      replace hS := hS.ext hE
      intro i hi
      simp only [List.mem_cons, List.not_mem_nil, or_false] at hi
      subst hi
      ·
       refine any_op (by rfl) ?_
       first | refine s_go (m_indexAddr_rd Try.underlying116 ti48 (hS := hS)) ?_ | refine s_go (m_indexAddr_vec Try.underlying116 ti48 (hS := hS)) ?_
       try simp only [opv, n1, n2, n3, n4, Value.cells, Nat.mul_one, Nat.zero_add, Int.toNat_natCast, Int.reduceToNat]
       refine x_nil ?_
       refine any_step [13] (by kernel_rfl) (by decide) (fun w34 hE => ⟨fun _ => (hS.ext hE).sel (by repeat (first | exact Sel.nil | (refine Sel.cons (by repeat (first | exact Del.head | apply Del.tail)) ?_))), ?_⟩)
       replace hS := hS.ext hE
       intro i hi
       simp only [List.mem_cons, List.not_mem_nil, or_false] at hi
       subst hi
       ·
        refine any_op (by rfl) ?_
        first | refine m_store_obj ti48 (hS := hS) (h := fun w35 hS => ?_) | refine m_store_vec ti48 (hS := hS) (h := fun w35 hS => ?_)
        try simp only [opv, n1, n2, n3, n4, Value.cells, Array.toArray_toList] at hS ⊢
        refine x_nil ?_
        refine any_step [14] (by kernel_rfl) (by decide) (fun w36 hE => ⟨fun _ => (hS.ext hE).sel (by repeat (first | exact Sel.nil | (refine Sel.cons (by repeat (first | exact Del.head | apply Del.tail)) ?_))), ?_⟩)
        replace hS := hS.ext hE
        intro i hi
        simp only [List.mem_cons, List.not_mem_nil, or_false] at hi
        subst hi
        ·
         refine any_op (by rfl) ?_
         first | refine s_go (m_indexAddr_rd Try.underlying116 ti48 (hS := hS)) ?_ | refine s_go (m_indexAddr_vec Try.underlying116 ti48 (hS := hS)) ?_
         try simp only [opv, n1, n2, n3, n4, Value.cells, Nat.mul_one, Nat.zero_add, Int.toNat_natCast, Int.reduceToNat]
         refine x_nil ?_
         refine any_step [15] (by kernel_rfl) (by decide) (fun w37 hE => ⟨fun _ => (hS.ext hE).sel (by repeat (first | exact Sel.nil | (refine Sel.cons (by repeat (first | exact Del.head | apply Del.tail)) ?_))), ?_⟩)
         replace hS := hS.ext hE
         intro i hi
         simp only [List.mem_cons, List.not_mem_nil, or_false] at hi
         subst hi
         ·
          refine any_op (by rfl) ?_
          first | refine m_store_obj ti48 (hS := hS) (h := fun w38 hS => ?_) | refine m_store_vec ti48 (hS := hS) (h := fun w38 hS => ?_)
          try simp only [opv, n1, n2, n3, n4, Value.cells, Array.toArray_toList] at hS ⊢
          refine x_nil ?_
          refine any_nil (by kernel_rfl) (fun w39 hE => ?_)
          replace hS := hS.ext hE
          refine ⟨fun _ => hS.sel (by repeat (first | exact Sel.nil | (refine Sel.cons (by repeat (first | exact Del.head | apply Del.tail)) ?_))), ?_⟩
          refine mix_leaf (by simp only [clob, List.foldl, n1, n2, n3, n4]) ?_
          try simp only [n1, n2]
          exact hS.sel (by repeat (first | exact Sel.nil | (refine Sel.cons (by repeat (first | exact Del.head | apply Del.tail)) ?_)))
    ·
     refine any_op (by rfl) ?_
     first | refine s_go (m_load_obj Try.underlying48 (hS := hS)) ?_ | refine s_go (m_load_bx Try.underlying48 (hS := hS)) ?_ | refine s_go (m_load_rd Try.underlying48 (hS := hS)) ?_ | refine s_go (m_load_vec Try.underlying48 (hS := hS)) ?_
     try simp only [opv, n1, n2, n3, n4, Value.cells, List.getElem_toArray, List.getElem_cons_zero, List.getElem_cons_succ]
     refine x_nil ?_
     refine any_step [7] (by kernel_rfl) (by decide) (fun w40 hE => ⟨fun _ => (hS.ext hE).sel (by repeat (first | exact Sel.nil | (refine Sel.cons (by repeat (first | exact Del.head | apply Del.tail)) ?_))), ?_⟩)
     replace hS := hS.ext hE
     intro i hi
     simp only [List.mem_cons, List.not_mem_nil, or_false] at hi
     subst hi
     ·
      refine any_op (by rfl) ?_
      first | refine s_go (m_load_obj Try.underlying48 (hS := hS)) ?_ | refine s_go (m_load_bx Try.underlying48 (hS := hS)) ?_ | refine s_go (m_load_rd Try.underlying48 (hS := hS)) ?_ | refine s_go (m_load_vec Try.underlying48 (hS := hS)) ?_
      try simp only [opv, n1, n2, n3, n4, Value.cells, List.getElem_toArray, List.getElem_cons_zero, List.getElem_cons_succ]
      refine x_nil ?_
      refine any_step [12] (by kernel_rfl) (by decide) (fun w41 hE => ⟨fun _ => (hS.ext hE).sel (by repeat (first | exact Sel.nil | (refine Sel.cons (by repeat (first | exact Del.head | apply Del.tail)) ?_))), ?_⟩)
      replace hS := hS.ext hE
      intro i hi
      simp only [List.mem_cons, List.not_mem_nil, or_false] at hi
      subst hi
      ·
       refine any_op (by rfl) ?_
       first | refine s_go (m_indexAddr_rd Try.underlying116 ti48 (hS := hS)) ?_ | refine s_go (m_indexAddr_vec Try.underlying116 ti48 (hS := hS)) ?_
       try simp only [opv, n1, n2, n3, n4, Value.cells, Nat.mul_one, Nat.zero_add, Int.toNat_natCast, Int.reduceToNat]
       refine x_nil ?_
       refine any_step [13] (by kernel_rfl) (by decide) (fun w42 hE => ⟨fun _ => (hS.ext hE).sel (by repeat (first | exact Sel.nil | (refine Sel.cons (by repeat (first | exact Del.head | apply Del.tail)) ?_))), ?_⟩)
       replace hS := hS.ext hE
       intro i hi
       simp only [List.mem_cons, List.not_mem_nil, or_false] at hi
       subst hi
       ·
        refine any_op (by rfl) ?_
        first | refine m_store_obj ti48 (hS := hS) (h := fun w43 hS => ?_) | refine m_store_vec ti48 (hS := hS) (h := fun w43 hS => ?_)
        try simp only [opv, n1, n2, n3, n4, Value.cells, Array.toArray_toList] at hS ⊢
        refine x_nil ?_
        refine any_step [14] (by kernel_rfl) (by decide) (fun w44 hE => ⟨fun _ => (hS.ext hE).sel (by repeat (first | exact Sel.nil | (refine Sel.cons (by repeat (first | exact Del.head | apply Del.tail)) ?_))), ?_⟩)
        replace hS := hS.ext hE
        intro i hi
        simp only [List.mem_cons, List.not_mem_nil, or_false] at hi
        subst hi
        ·
         refine any_op (by rfl) ?_
         first | refine s_go (m_indexAddr_rd Try.underlying116 ti48 (hS := hS)) ?_ | refine s_go (m_indexAddr_vec Try.underlying116 ti48 (hS := hS)) ?_
         try simp only [opv, n1, n2, n3, n4, Value.cells, Nat.mul_one, Nat.zero_add, Int.toNat_natCast, Int.reduceToNat]
         refine x_nil ?_
         refine any_step [15] (by kernel_rfl) (by decide) (fun w45 hE => ⟨fun _ => (hS.ext hE).sel (by repeat (first | exact Sel.nil | (refine Sel.cons (by repeat (first | exact Del.head | apply Del.tail)) ?_))), ?_⟩)
         replace hS := hS.ext hE
         intro i hi
         simp only [List.mem_cons, List.not_mem_nil, or_false] at hi
         subst hi
         ·
          refine any_op (by rfl) ?_
          first | refine m_store_obj ti48 (hS := hS) (h := fun w46 hS => ?_) | refine m_store_vec ti48 (hS := hS) (h := fun w46 hS => ?_)
          try simp only [opv, n1, n2, n3, n4, Value.cells, Array.toArray_toList] at hS ⊢
          refine x_nil ?_
          refine any_nil (by kernel_rfl) (fun w47 hE => ?_)
          replace hS := hS.ext hE
          refine ⟨fun _ => hS.sel (by repeat (first | exact Sel.nil | (refine Sel.cons (by repeat (first | exact Del.head | apply Del.tail)) ?_))), ?_⟩
          refine mix_leaf (by simp only [clob, List.foldl, n1, n2, n3, n4]) ?_
          try simp only [n1, n2]
          exact hS.sel (by repeat (first | exact Sel.nil | (refine Sel.cons (by repeat (first | exact Del.head | apply Del.tail)) ?_)))
   ·
    refine any_op (by rfl) ?_
    first | refine s_go (m_load_obj Try.underlying48 (hS := hS)) ?_ | refine s_go (m_load_bx Try.underlying48 (hS := hS)) ?_ | refine s_go (m_load_rd Try.underlying48 (hS := hS)) ?_ | refine s_go (m_load_vec Try.underlying48 (hS := hS)) ?_
    try simp only [opv, n1, n2, n3, n4, Value.cells, List.getElem_toArray, List.getElem_cons_zero, List.getElem_cons_succ]
    refine x_nil ?_
    refine any_step [6] (by kernel_rfl) (by decide) (fun w48 hE => ⟨fun _ => (hS.ext hE).sel (by repeat (first | exact Sel.nil | (refine Sel.cons (by repeat (first | exact Del.head | apply Del.tail)) ?_))), ?_⟩)
    replace hS := hS.ext hE
    intro i hi
    simp only [List.mem_cons, List.not_mem_nil, or_false] at hi
    subst hi
    ·
     refine any_op (by rfl) ?_
     first | refine s_go (m_indexAddr_rd Try.underlying116 ti48 (hS := hS)) ?_ | refine s_go (m_indexAddr_vec Try.underlying116 ti48 (hS := hS)) ?_
     try simp only [opv, n1, n2, n3, n4, Value.cells, Nat.mul_one, Nat.zero_add, Int.toNat_natCast, Int.reduceToNat]
     refine x_nil ?_
     refine any_step [7] (by kernel_rfl) (by decide) (fun w49 hE => ⟨fun _ => (hS.ext hE).sel (by repeat (first | exact Sel.nil | (refine Sel.cons (by repeat (first | exact Del.head | apply Del.tail)) ?_))), ?_⟩)
     replace hS := hS.ext hE
     intro i hi
     simp only [List.mem_cons, List.not_mem_nil, or_false] at hi
     subst hi
     ·
      refine any_op (by rfl) ?_
      first | refine s_go (m_load_obj Try.underlying48 (hS := hS)) ?_ | refine s_go (m_load_bx Try.underlying48 (hS := hS)) ?_ | refine s_go (m_load_rd Try.underlying48 (hS := hS)) ?_ | refine s_go (m_load_vec Try.underlying48 (hS := hS)) ?_
      try simp only [opv, n1, n2, n3, n4, Value.cells, List.getElem_toArray, List.getElem_cons_zero, List.getElem_cons_succ]
      refine x_nil ?_
      refine any_step [12] (by kernel_rfl) (by decide) (fun w50 hE => ⟨fun _ => (hS.ext hE).sel (by repeat (first | exact Sel.nil | (refine Sel.cons (by repeat (first | exact Del.head | apply Del.tail)) ?_))), ?_⟩)
      replace hS := hS.ext hE
      intro i hi
      simp only [List.mem_cons, List.not_mem_nil, or_false] at hi
      subst hi
      ·
       refine any_op (by rfl) ?_
       first | refine s_go (m_indexAddr_rd Try.underlying116 ti48 (hS := hS)) ?_ | refine s_go (m_indexAddr_vec Try.underlying116 ti48 (hS := hS)) ?_
       try simp only [opv, n1, n2, n3, n4, Value.cells, Nat.mul_one, Nat.zero_add, Int.toNat_natCast, Int.reduceToNat]
       refine x_nil ?_
       refine any_step [13] (by kernel_rfl) (by decide) (fun w51 hE => ⟨fun _ => (hS.ext hE).sel (by repeat (first | exact Sel.nil | (refine Sel.cons (by repeat (first | exact Del.head | apply Del.tail)) ?_))), ?_⟩)
       replace hS := hS.ext hE
       intro i hi
       simp only [List.mem_cons, List.not_mem_nil, or_false] at hi
       subst hi
       ·
        refine any_op (by rfl) ?_
        first | refine m_store_obj ti48 (hS := hS) (h := fun w52 hS => ?_) | refine m_store_vec ti48 (hS := hS) (h := fun w52 hS => ?_)
        try simp only [opv, n1, n2, n3, n4, Value.cells, Array.toArray_toList] at hS ⊢
        refine x_nil ?_
        refine any_step [14] (by kernel_rfl) (by decide) (fun w53 hE => ⟨fun _ => (hS.ext hE).sel (by repeat (first | exact Sel.nil | (refine Sel.cons (by repeat (first | exact Del.head | apply Del.tail)) ?_))), ?_⟩)
        replace hS := hS.ext hE
        intro i hi
        simp only [List.mem_cons, List.not_mem_nil, or_false] at hi
        subst hi
        ·
         refine any_op (by rfl) ?_
         first | refine s_go (m_indexAddr_rd Try.underlying116 ti48 (hS := hS)) ?_ | refine s_go (m_indexAddr_vec Try.underlying116 ti48 (hS := hS)) ?_
         try simp only [opv, n1, n2, n3, n4, Value.cells, Nat.mul_one, Nat.zero_add, Int.toNat_natCast, Int.reduceToNat]
         refine x_nil ?_
         refine any_step [15] (by kernel_rfl) (by decide) (fun w54 hE => ⟨fun _ => (hS.ext hE).sel (by repeat (first | exact Sel.nil | (refine Sel.cons (by repeat (first | exact Del.head | apply Del.tail)) ?_))), ?_⟩)
         replace hS := hS.ext hE
         intro i hi
         simp only [List.mem_cons, List.not_mem_nil, or_false] at hi
         subst hi
         ·
          refine any_op (by rfl) ?_
          first | refine m_store_obj ti48 (hS := hS) (h := fun w55 hS => ?_) | refine m_store_vec ti48 (hS := hS) (h := fun w55 hS => ?_)
          try simp only [opv, n1, n2, n3, n4, Value.cells, Array.toArray_toList] at hS ⊢
          refine x_nil ?_
          refine any_nil (by kernel_rfl) (fun w56 hE => ?_)
          replace hS := hS.ext hE
          refine ⟨fun _ => hS.sel (by repeat (first | exact Sel.nil | (refine Sel.cons (by repeat (first | exact Del.head | apply Del.tail)) ?_))), ?_⟩
          refine mix_leaf (by simp only [clob, List.foldl, n1, n2, n3, n4]) ?_
          try simp only [n1, n2]
          exact hS.sel (by repeat (first | exact Sel.nil | (refine Sel.cons (by repeat (first | exact Del.head | apply Del.tail)) ?_)))
 intro fm1 w57 hM
 replace hS := hM
 simp only [clob, List.foldl, n3, n4]
 refine r_none rfl ?_
 unfold swp
 exact ⟨rfl, hS.sel (by repeat (first | exact Sel.nil | (refine Sel.cons (by repeat (first | exact Del.head | apply Del.tail)) ?_)))⟩
theorem c_heapUp (w0 : World) (gw : Nat) (A : Option Addr) (c n : Nat) (l : List Int) (hl : l.length = n) (hn : n ≤ 4000000000) (j : Nat) (hj : j < n) (hU : UpI l j) (hM : St (OwnB [.obj gw (.cells #[.slice A n c] 116 (0, 0)), .vec A c 48 1 n (List.map (Value.int .u64) l)]) w0 w0 [.obj gw (.cells #[.slice A n c] 116 (0, 0)), .vec A c 48 1 n (List.map (Value.int .u64) l)])  :
    CallR Try.prog 103 #[.iface 115 (.pointer (some ⟨gw, 0, none⟩)), .int .i64 (j : Int)] w0 fun v w' => ∃ l2 : List Int, v = .tuple #[] ∧ l2.Perm l ∧ l2.length = n ∧ HeapN l2 n ∧ St (OwnB [.obj gw (.cells #[.slice A n c] 116 (0, 0)), .vec A c 48 1 n (List.map (Value.int .u64) l)]) w0 w' [.obj gw (.cells #[.slice A n c] 116 (0, 0)), .vec A c 48 1 n (List.map (Value.int .u64) l2)] := by
 have hS := hM
 refine c_enter (l := [.iface 115 (.pointer (some ⟨gw, 0, none⟩)), .int .i64 (j : Int), undef, undef, undef, undef, undef, undef, undef, undef, undef, undef, undef, undef, undef, undef, undef, undef, undef, undef, undef, undef, undef]) Try.func103 rfl (by simp only [Try.ntmps103, List.size_toArray, List.length_cons, List.length_nil, Nat.reduceAdd, Nat.reduceSub, Array.replicate_succ, Array.replicate_zero, List.push_toArray, List.append_toArray, List.nil_append, List.cons_append]) ?_
 refine x_block ?_
 refine x_loop [1, 4, 5, 6, 7, 8, 9, 10, 11, 12, 13, 14, 15, 16, 17, 18, 19, 20, 21, 22] (fun m f w => ∃ (q : Nat) (l2 : List Int), q < n ∧ m = q ∧ l2.Perm l ∧ l2.length = n ∧ UpI l2 q ∧ f 1 = .int .i64 (q : Int) ∧ St (OwnB [.obj gw (.cells #[.slice A n c] 116 (0, 0)), .vec A c 48 1 n (List.map (Value.int .u64) l)]) w0 w [.obj gw (.cells #[.slice A n c] 116 (0, 0)), .vec A c 48 1 n (List.map (Value.int .u64) l2)]) (j) ?init1 (fun m1 f1 wl1 hI => ?_)
 case init1 =>
  try simp only [opv, n1, n2, n3, n4, Value.cells]
  exact ⟨j, l, hj, rfl, .refl _, hl, hU, rfl, hS⟩
 obtain ⟨q, l2, hq, hm, hp, hl2, hU2, h1, hS⟩ := hI
 simp only [clob, List.foldl, n3, n4, h1]
 have hpr := up_par q (by omega)
 refine x_block ?_
 refine x_seq fun K1 hK1 => ?_
 refine x_region ?_
 refine s_go (s_move) ?_
 try simp only [opv, n1, n2, n3, n4, Value.cells]
 refine s_go (s_sub (hc := by first | exact wr_i64 (by omega) (by omega) | rfl)) ?_
 try simp only [opv, n1, n2, n3, n4, Value.cells]
 refine s_go (s_quo (hc := hpr)) ?_
 try simp only [opv, n1, n2, n3, n4, Value.cells]
 refine s_go (s_assign) ?_
 try simp only [opv, n1, n2, n3, n4, Value.cells]
 refine x_nil ?_
 refine hK1 _ _ ?_
 refine x_seq fun K2 hK2 => ?_
 refine x_seq fun K3 hK3 => ?_
 refine x_region ?_
 refine s_go (s_move) ?_
 try simp only [opv, n1, n2, n3, n4, Value.cells]
 refine s_go (s_move) ?_
 try simp only [opv, n1, n2, n3, n4, Value.cells]
 refine s_go (s_eql) ?_
 try simp only [opv, n1, n2, n3, n4, Value.cells]
 refine s_go (s_move) ?_
 try simp only [opv, n1, n2, n3, n4, Value.cells]
 refine s_part 11 rfl (fun hp1 => ?_) (fun hp1 => ?_)
 ·
  try simp only [n3, n4]
  try simp only [decide_eq_true_eq, decide_eq_false_iff_not, Bool.not_eq_true', Bool.not_eq_false', Int.not_lt, Int.not_le, ne_eq, Decidable.not_not] at hp1
  first
  | (exfalso; omega)
  | skip
    have hd : q = 0 ∨ ¬ l2.getD q 0 < l2.getD ((q - 1) / 2) 0 := .inl (by omega)
    refine g_off (yi (t := 11) rfl rfl) ?_
    try simp only [opv, n1, n2, n3, n4, Value.cells]
    refine g_off (yi (t := 11) rfl rfl) ?_
    try simp only [opv, n1, n2, n3, n4, Value.cells]
    refine g_off (yi (t := 11) rfl rfl) ?_
    try simp only [opv, n1, n2, n3, n4, Value.cells]
    refine g_off (yi (t := 11) rfl rfl) ?_
    try simp only [opv, n1, n2, n3, n4, Value.cells]
    refine g_off (yi (t := 11) rfl rfl) ?_
    try simp only [opv, n1, n2, n3, n4, Value.cells]
    first | refine s_go (s_pick_t) ?_ | refine s_go (s_pick_f) ?_
    try simp only [opv, n1, n2, n3, n4, Value.cells]
    refine x_nil ?_
    refine hK3 _ _ ?_
    refine x_cond_t (h := ?_)
    try have hd : q = 0 ∨ ¬ l2.getD q 0 < l2.getD ((q - 1) / 2) 0 := .inr (by simpa using @c)
    refine x_exit (look_on (by decide) (look_here ?_))
    refine r_none rfl ?_
    have hH := up_done hU2 hd
    rw [hl2] at hH
    exact ⟨_, rfl, hp, hl2, hH, hS.sel (by repeat (first | exact Sel.nil | (refine Sel.cons (by repeat (first | exact Del.head | apply Del.tail)) ?_)))⟩
 ·
  try simp only [n3, n4]
  try simp only [decide_eq_true_eq, decide_eq_false_iff_not, Bool.not_eq_true', Bool.not_eq_false', Int.not_lt, Int.not_le, ne_eq, Decidable.not_not] at hp1
  first
  | (exfalso; omega)
  | skip
    have hq0 : 0 < q := by omega
    refine g_on (yi (t := 11) rfl rfl) ?_
    refine s_go (s_move) ?_
    try simp only [opv, n1, n2, n3, n4, Value.cells]
    refine g_on (yi (t := 11) rfl rfl) ?_
    refine s_go (s_move) ?_
    try simp only [opv, n1, n2, n3, n4, Value.cells]
    refine g_on (yi (t := 11) rfl rfl) ?_
    refine s_go (s_move) ?_
    try simp only [opv, n1, n2, n3, n4, Value.cells]
    refine g_on (yi (t := 11) rfl rfl) ?_
    refine s_inv_val mt_less Try.underlying115 Try.underlying116 en185 (hS := hS) (h := ?_)
    try simp only [opv, n1, n2, n3, n4, Value.cells, List.map_toArray, List.map_cons, List.map_nil, List.append_toArray, List.cons_append, List.nil_append, Array.append_empty]
    refine CallR.mono (c_wLess _ A n c l2 (hS.vecRd (by repeat (first | exact Has.head | apply Has.tail))) hl2 hn q ((q - 1) / 2) (by omega) (by omega)) ?_
    rintro _ w1 ⟨rfl, hE1⟩
    replace hS := hS.ext hE1
    try simp only [opv, n1, n2, n3, n4, Value.cells]
    refine g_on (yi (t := 11) rfl rfl) ?_
    refine s_go (s_not) ?_
    try simp only [opv, n1, n2, n3, n4, Value.cells]
    first | refine s_go (s_pick_t) ?_ | refine s_go (s_pick_f) ?_
    try simp only [opv, n1, n2, n3, n4, Value.cells]
    refine x_nil ?_
    refine hK3 _ _ ?_
    refine x_cond (ht := fun hc2 => ?_) (hf := fun hc2 => ?_)
    ·
     try simp only [decide_eq_true_eq, decide_eq_false_iff_not, Bool.not_eq_true', Bool.not_eq_false', Int.not_lt, Int.not_le, ne_eq, Decidable.not_not, bne_iff_ne, beq_iff_eq, not_true_eq_false, not_false_eq_true] at hc2
     first
     | (exfalso; omega)
     | skip
       try have hd : q = 0 ∨ ¬ l2.getD q 0 < l2.getD ((q - 1) / 2) 0 := .inr (by simpa using hc2)
       refine x_exit (look_on (by decide) (look_here ?_))
       refine r_none rfl ?_
       have hH := up_done hU2 hd
       rw [hl2] at hH
       exact ⟨_, rfl, hp, hl2, hH, hS.sel (by repeat (first | exact Sel.nil | (refine Sel.cons (by repeat (first | exact Del.head | apply Del.tail)) ?_)))⟩
    ·
     try simp only [decide_eq_true_eq, decide_eq_false_iff_not, Bool.not_eq_true', Bool.not_eq_false', Int.not_lt, Int.not_le, ne_eq, Decidable.not_not, bne_iff_ne, beq_iff_eq, not_true_eq_false, not_false_eq_true] at hc2
     first
     | (exfalso; omega)
     | skip
       have hlt : l2.getD q 0 < l2.getD ((q - 1) / 2) 0 := by simpa using hc2
       refine x_skip ?_
       refine hK2 _ _ ?_
       refine x_seq fun K4 hK4 => ?_
       refine x_region ?_
       refine s_go (s_move) ?_
       try simp only [opv, n1, n2, n3, n4, Value.cells]
       refine s_go (s_move) ?_
       try simp only [opv, n1, n2, n3, n4, Value.cells]
       refine s_go (s_move) ?_
       try simp only [opv, n1, n2, n3, n4, Value.cells]
       refine s_inv_val mt_swap Try.underlying115 Try.underlying116 en188 (hS := hS) (h := ?_)
       try simp only [opv, n1, n2, n3, n4, Value.cells, List.map_toArray, List.map_cons, List.map_nil, List.append_toArray, List.cons_append, List.nil_append, Array.append_empty]
       refine CallR.mono (c_wSwap _ A c n l2 hl2 ((q - 1) / 2) q (by omega) (by omega) (hS.owns (by repeat (first | exact Spl.nil | (apply Spl.cons (by repeat (first | exact Del.head | apply Del.tail))))))) ?_
       rintro _ w2 ⟨rfl, hC2⟩
       replace hS := hS.frame (by repeat (first | exact Spl.nil | (apply Spl.cons (by repeat (first | exact Del.head | apply Del.tail))))) hC2 (by intro r hr g hg; simp only [List.mem_cons, List.not_mem_nil, or_false] at hr; subst hr; simp [Res.reads] at hg)
       simp only [List.cons_append, List.nil_append] at hS
       try simp only [opv, n1, n2, n3, n4, Value.cells]
       refine x_nil ?_
       refine hK4 _ _ ?_
       refine x_region ?_
       refine s_go (s_move) ?_
       try simp only [opv, n1, n2, n3, n4, Value.cells]
       refine s_go (s_assign) ?_
       try simp only [opv, n1, n2, n3, n4, Value.cells]
       refine x_nil ?_
       refine loop_back (m' := (q - 1) / 2) (by simp only [clob, List.foldl, n1, n2, n3, n4]) ?_ ?_
       · try simp only [opv, n1, n2, n3, n4, Value.cells]
         exact ⟨(q - 1) / 2, _, by omega, rfl, (swp_perm (by omega) (by omega)).trans hp, by rw [swp_len]; exact hl2, up_step hU2 rfl (by omega) (by omega) hlt, by rfl, hS.sel (by repeat (first | exact Sel.nil | (refine Sel.cons (by repeat (first | exact Del.head | apply Del.tail)) ?_)))⟩
       · omega
theorem c_heapDown (w0 : World) (gw : Nat) (A : Option Addr) (c n : Nat) (l : List Int) (hl : l.length = n) (hn : n ≤ 4000000000) (k : Nat) (hk : k ≤ n) (h0n : 0 < n) (hD : DnI l k 0) (hM : St (OwnB [.obj gw (.cells #[.slice A n c] 116 (0, 0)), .vec A c 48 1 n (List.map (Value.int .u64) l)]) w0 w0 [.obj gw (.cells #[.slice A n c] 116 (0, 0)), .vec A c 48 1 n (List.map (Value.int .u64) l)])  :
    CallR Try.prog 104 #[.iface 115 (.pointer (some ⟨gw, 0, none⟩)), .int .i64 0, .int .i64 (k : Int)] w0 fun v w' => ∃ (l2 : List Int) (z : Bool), v = .bool z ∧ l2.Perm l ∧ l2.length = n ∧ HeapN l2 k ∧ (∀ q, k ≤ q → l2.getD q 0 = l.getD q 0) ∧ St (OwnB [.obj gw (.cells #[.slice A n c] 116 (0, 0)), .vec A c 48 1 n (List.map (Value.int .u64) l)]) w0 w' [.obj gw (.cells #[.slice A n c] 116 (0, 0)), .vec A c 48 1 n (List.map (Value.int .u64) l2)] := by
 have hS := hM
 refine c_enter (l := [.iface 115 (.pointer (some ⟨gw, 0, none⟩)), .int .i64 0, .int .i64 (k : Int), undef, undef, undef, undef, undef, undef, undef, undef, undef, undef, undef, undef, undef, undef, undef, undef, undef, undef, undef, undef, undef, undef, undef, undef, undef, undef, undef, undef, undef, undef, undef, undef, undef, undef, undef, undef, undef, undef, undef, undef, undef, undef, undef, undef, undef]) Try.func104 rfl (by simp only [Try.ntmps104, List.size_toArray, List.length_cons, List.length_nil, Nat.reduceAdd, Nat.reduceSub, Array.replicate_succ, Array.replicate_zero, List.push_toArray, List.append_toArray, List.nil_append, List.cons_append]) ?_
 refine x_seq fun K1 hK1 => ?_
 refine x_region ?_
 refine s_go (s_assign) ?_
 try simp only [opv, n1, n2, n3, n4, Value.cells]
 refine x_nil ?_
 refine hK1 _ _ ?_
 refine x_seq fun K2 hK2 => ?_
 refine x_region ?_
 refine s_go (s_move) ?_
 try simp only [opv, n1, n2, n3, n4, Value.cells]
 refine s_go (s_assign) ?_
 try simp only [opv, n1, n2, n3, n4, Value.cells]
 refine x_nil ?_
 refine hK2 _ _ ?_
 refine x_seq fun K3 hK3 => ?_
 refine x_block ?_
 refine x_loop [7, 8, 9, 10, 12, 13, 14, 15, 16, 17, 18, 19, 20, 21, 22, 23, 24, 25, 26, 27, 28, 29, 30, 31, 32, 33, 34, 35, 36, 37, 38, 39, 40, 41, 42, 43, 44] (fun m f w => ∃ (i : Nat) (l2 : List Int), i < n ∧ m = n - i ∧ l2.Perm l ∧ l2.length = n ∧ DnI l2 k i ∧ (∀ q, k ≤ q → l2.getD q 0 = l.getD q 0) ∧ f 7 = .int .i64 (i : Int) ∧ St (OwnB [.obj gw (.cells #[.slice A n c] 116 (0, 0)), .vec A c 48 1 n (List.map (Value.int .u64) l)]) w0 w [.obj gw (.cells #[.slice A n c] 116 (0, 0)), .vec A c 48 1 n (List.map (Value.int .u64) l2)]) (n) ?init1 (fun m1 f1 wl1 hI => ?_)
 case init1 =>
  try simp only [opv, n1, n2, n3, n4, Value.cells]
  exact ⟨0, l, h0n, rfl, .refl _, hl, hD, (fun q h => rfl), rfl, hS⟩
 obtain ⟨i, l2, hi, hm, hp, hl2, hD2, hk2, h7, hS⟩ := hI
 simp only [clob, List.foldl, n3, n4, h7]
 refine x_block ?_
 refine x_seq fun K4 hK4 => ?_
 refine x_region ?_
 refine s_go (s_move) ?_
 try simp only [opv, n1, n2, n3, n4, Value.cells]
 refine s_go (s_mul (hc := by first | exact wr_i64 (by omega) (by omega) | rfl)) ?_
 try simp only [opv, n1, n2, n3, n4, Value.cells]
 refine s_go (s_add (hc := by first | exact wr_i64 (by omega) (by omega) | rfl)) ?_
 try simp only [opv, n1, n2, n3, n4, Value.cells]
 rw [show (2 * (i : Int) + 1) = ((2 * i + 1 : Nat) : Int) by omega]
 refine s_go (s_assign) ?_
 try simp only [opv, n1, n2, n3, n4, Value.cells]
 refine x_nil ?_
 refine hK4 _ _ ?_
 refine x_seq fun K5 hK5 => ?_
 refine x_seq fun K6 hK6 => ?_
 refine x_region ?_
 refine s_go (s_move) ?_
 try simp only [opv, n1, n2, n3, n4, Value.cells]
 refine s_go (s_move) ?_
 try simp only [opv, n1, n2, n3, n4, Value.cells]
 refine s_go (s_geq) ?_
 try simp only [opv, n1, n2, n3, n4, Value.cells]
 refine s_go (s_move) ?_
 try simp only [opv, n1, n2, n3, n4, Value.cells]
 refine s_part 18 rfl (fun hp1 => ?_) (fun hp1 => ?_)
 ·
  try simp only [n3, n4]
  try simp only [decide_eq_true_eq, decide_eq_false_iff_not, Bool.not_eq_true', Bool.not_eq_false', Int.not_lt, Int.not_le, ne_eq, Decidable.not_not] at hp1
  first
  | (exfalso; omega)
  | skip
    have hN : HeapN l2 k := dn_done hD2 (fun q h0 h1 h2 => by omega)
    refine g_off (yi (t := 18) rfl rfl) ?_
    try simp only [opv, n1, n2, n3, n4, Value.cells]
    refine g_off (yi (t := 18) rfl rfl) ?_
    try simp only [opv, n1, n2, n3, n4, Value.cells]
    first | refine s_go (s_pick_t) ?_ | refine s_go (s_pick_f) ?_
    try simp only [opv, n1, n2, n3, n4, Value.cells]
    refine x_nil ?_
    refine hK6 _ _ ?_
    refine x_cond_t (h := ?_)
    refine x_exit (look_on (by decide) (look_here ?_))
    refine hK3 _ _ ?_
    refine x_seq fun K7 hK7 => ?_
    refine x_region ?_
    refine s_go (s_move) ?_
    try simp only [opv, n1, n2, n3, n4, Value.cells]
    refine s_go (s_move) ?_
    try simp only [opv, n1, n2, n3, n4, Value.cells]
    refine s_go (s_gtr) ?_
    try simp only [opv, n1, n2, n3, n4, Value.cells]
    refine s_go (s_assign) ?_
    try simp only [opv, n1, n2, n3, n4, Value.cells]
    refine x_nil ?_
    refine hK7 _ _ ?_
    refine x_ret ?_
    refine r_tmp rfl ?_
    exact ⟨_, _, rfl, hp, hl2, hN, hk2, hS.sel (by repeat (first | exact Sel.nil | (refine Sel.cons (by repeat (first | exact Del.head | apply Del.tail)) ?_)))⟩
 ·
  try simp only [n3, n4]
  try simp only [decide_eq_true_eq, decide_eq_false_iff_not, Bool.not_eq_true', Bool.not_eq_false', Int.not_lt, Int.not_le, ne_eq, Decidable.not_not] at hp1
  first
  | (exfalso; omega)
  | skip
    have hj1 : 2 * i + 1 < k := by omega
    refine g_on (yi (t := 18) rfl rfl) ?_
    refine s_go (s_move) ?_
    try simp only [opv, n1, n2, n3, n4, Value.cells]
    refine g_on (yi (t := 18) rfl rfl) ?_
    refine s_go (s_lss) ?_
    try simp only [opv, n1, n2, n3, n4, Value.cells]
    first | refine s_go (s_pick_t) ?_ | refine s_go (s_pick_f) ?_
    try simp only [opv, n1, n2, n3, n4, Value.cells]
    refine x_nil ?_
    refine hK6 _ _ ?_
    refine x_cond (ht := fun hc2 => ?_) (hf := fun hc2 => ?_)
    ·
     try simp only [decide_eq_true_eq, decide_eq_false_iff_not, Bool.not_eq_true', Bool.not_eq_false', Int.not_lt, Int.not_le, ne_eq, Decidable.not_not, bne_iff_ne, beq_iff_eq, not_true_eq_false, not_false_eq_true] at hc2
     first
     | (exfalso; omega)
     | skip
       refine x_exit (look_on (by decide) (look_here ?_))
       refine hK3 _ _ ?_
       refine x_seq fun K8 hK8 => ?_
       refine x_region ?_
       refine s_go (s_move) ?_
       try simp only [opv, n1, n2, n3, n4, Value.cells]
       refine s_go (s_move) ?_
       try simp only [opv, n1, n2, n3, n4, Value.cells]
       refine s_go (s_gtr) ?_
       try simp only [opv, n1, n2, n3, n4, Value.cells]
       refine s_go (s_assign) ?_
       try simp only [opv, n1, n2, n3, n4, Value.cells]
       refine x_nil ?_
       refine hK8 _ _ ?_
       refine x_ret ?_
       refine r_tmp rfl ?_
       exact ⟨_, _, rfl, hp, hl2, hN, hk2, hS.sel (by repeat (first | exact Sel.nil | (refine Sel.cons (by repeat (first | exact Del.head | apply Del.tail)) ?_)))⟩
    ·
     try simp only [decide_eq_true_eq, decide_eq_false_iff_not, Bool.not_eq_true', Bool.not_eq_false', Int.not_lt, Int.not_le, ne_eq, Decidable.not_not, bne_iff_ne, beq_iff_eq, not_true_eq_false, not_false_eq_true] at hc2
     first
     | (exfalso; omega)
     | skip
       refine x_skip ?_
       refine hK5 _ _ ?_
       refine x_seq fun K9 hK9 => ?_
       refine x_region ?_
       refine s_go (s_move) ?_
       try simp only [opv, n1, n2, n3, n4, Value.cells]
       refine s_go (s_assign) ?_
       try simp only [opv, n1, n2, n3, n4, Value.cells]
       refine x_nil ?_
       refine hK9 _ _ ?_
       refine x_seq fun K10 hK10 => ?_
       refine x_seq fun K11 hK11 => ?_
       refine x_region ?_
       refine s_go (s_move) ?_
       try simp only [opv, n1, n2, n3, n4, Value.cells]
       refine s_go (s_add (hc := by first | exact wr_i64 (by omega) (by omega) | rfl)) ?_
       try simp only [opv, n1, n2, n3, n4, Value.cells]
       rw [show (((2 * i + 1 : Nat) : Int) + 1) = ((2 * i + 2 : Nat) : Int) by omega]
       refine s_go (s_assign) ?_
       try simp only [opv, n1, n2, n3, n4, Value.cells]
       refine x_nil ?_
       refine hK11 _ _ ?_
       refine x_seq fun K12 hK12 => ?_
       refine x_region ?_
       refine s_go (s_move) ?_
       try simp only [opv, n1, n2, n3, n4, Value.cells]
       refine s_go (s_move) ?_
       try simp only [opv, n1, n2, n3, n4, Value.cells]
       refine s_go (s_lss) ?_
       try simp only [opv, n1, n2, n3, n4, Value.cells]
       refine s_go (s_move) ?_
       try simp only [opv, n1, n2, n3, n4, Value.cells]
       refine s_part 28 rfl (fun hp2 => ?_) (fun hp2 => ?_)
       ·
        try simp only [n3, n4]
        try simp only [decide_eq_true_eq, decide_eq_false_iff_not, Bool.not_eq_true', Bool.not_eq_false', Int.not_lt, Int.not_le, ne_eq, Decidable.not_not] at hp2
        first
        | (exfalso; omega)
        | skip
          have hj2 : 2 * i + 2 < k := by omega
          refine g_on (yi (t := 28) rfl rfl) ?_
          refine s_go (s_move) ?_
          try simp only [opv, n1, n2, n3, n4, Value.cells]
          refine g_on (yi (t := 28) rfl rfl) ?_
          refine s_go (s_move) ?_
          try simp only [opv, n1, n2, n3, n4, Value.cells]
          refine g_on (yi (t := 28) rfl rfl) ?_
          refine s_go (s_move) ?_
          try simp only [opv, n1, n2, n3, n4, Value.cells]
          refine g_on (yi (t := 28) rfl rfl) ?_
          refine s_inv_val mt_less Try.underlying115 Try.underlying116 en185 (hS := hS) (h := ?_)
          try simp only [opv, n1, n2, n3, n4, Value.cells, List.map_toArray, List.map_cons, List.map_nil, List.append_toArray, List.cons_append, List.nil_append, Array.append_empty]
          refine CallR.mono (c_wLess _ A n c l2 (hS.vecRd (by repeat (first | exact Has.head | apply Has.tail))) hl2 hn (2 * i + 2) (2 * i + 1) (by omega) (by omega)) ?_
          rintro _ w1 ⟨rfl, hE1⟩
          replace hS := hS.ext hE1
          try simp only [opv, n1, n2, n3, n4, Value.cells]
          first | refine s_go (s_pick_t) ?_ | refine s_go (s_pick_f) ?_
          try simp only [opv, n1, n2, n3, n4, Value.cells]
          refine x_nil ?_
          refine hK12 _ _ ?_
          refine x_cond (ht := fun hc3 => ?_) (hf := fun hc3 => ?_)
          ·
           try simp only [decide_eq_true_eq, decide_eq_false_iff_not, Bool.not_eq_true', Bool.not_eq_false', Int.not_lt, Int.not_le, ne_eq, Decidable.not_not, bne_iff_ne, beq_iff_eq, not_true_eq_false, not_false_eq_true] at hc3
           first
           | (exfalso; omega)
           | skip
             have h21 : l2.getD (2 * i + 2) 0 < l2.getD (2 * i + 1) 0 := by simpa using hc3
             obtain ⟨jj, hjj0⟩ : ∃ z, z = 2 * i + 2 := ⟨_, rfl⟩
             have hjj : jj = 2 * i + 1 ∨ jj = 2 * i + 2 := .inr hjj0
             have hmin : ∀ q, 0 < q → q < k → (q - 1) / 2 = i → l2.getD jj 0 ≤ l2.getD q 0 := fun q a b e => by (have hq : q = 2 * i + 1 ∨ q = 2 * i + 2 := by omega); (rw [hjj0]); (rcases hq with hq | hq <;> rw [hq] <;> omega)
             rw [← hjj0]
             refine x_region ?_
             refine s_go (s_move) ?_
             try simp only [opv, n1, n2, n3, n4, Value.cells]
             refine s_go (s_assign) ?_
             try simp only [opv, n1, n2, n3, n4, Value.cells]
             refine x_nil ?_
             refine hK10 _ _ ?_
             refine x_seq fun K13 hK13 => ?_
             refine x_seq fun K14 hK14 => ?_
             refine x_region ?_
             refine s_go (s_move) ?_
             try simp only [opv, n1, n2, n3, n4, Value.cells]
             refine s_go (s_move) ?_
             try simp only [opv, n1, n2, n3, n4, Value.cells]
             refine s_go (s_move) ?_
             try simp only [opv, n1, n2, n3, n4, Value.cells]
             refine s_inv_val mt_less Try.underlying115 Try.underlying116 en185 (hS := hS) (h := ?_)
             try simp only [opv, n1, n2, n3, n4, Value.cells, List.map_toArray, List.map_cons, List.map_nil, List.append_toArray, List.cons_append, List.nil_append, Array.append_empty]
             refine CallR.mono (c_wLess _ A n c l2 (hS.vecRd (by repeat (first | exact Has.head | apply Has.tail))) hl2 hn jj i (by omega) (by omega)) ?_
             rintro _ w2 ⟨rfl, hE2⟩
             replace hS := hS.ext hE2
             try simp only [opv, n1, n2, n3, n4, Value.cells]
             refine s_go (s_not) ?_
             try simp only [opv, n1, n2, n3, n4, Value.cells]
             refine x_nil ?_
             refine hK14 _ _ ?_
             refine x_cond (ht := fun hc4 => ?_) (hf := fun hc4 => ?_)
             ·
              try simp only [decide_eq_true_eq, decide_eq_false_iff_not, Bool.not_eq_true', Bool.not_eq_false', Int.not_lt, Int.not_le, ne_eq, Decidable.not_not, bne_iff_ne, beq_iff_eq, not_true_eq_false, not_false_eq_true] at hc4
              first
              | (exfalso; omega)
              | skip
                have hge : ¬ l2.getD jj 0 < l2.getD i 0 := by simpa using hc4
                have hN : HeapN l2 k := dn_done hD2 (fun q a b e => by have := hmin q a b e; omega)
                refine x_exit (look_on (by decide) (look_here ?_))
                refine hK3 _ _ ?_
                refine x_seq fun K15 hK15 => ?_
                refine x_region ?_
                refine s_go (s_move) ?_
                try simp only [opv, n1, n2, n3, n4, Value.cells]
                refine s_go (s_move) ?_
                try simp only [opv, n1, n2, n3, n4, Value.cells]
                refine s_go (s_gtr) ?_
                try simp only [opv, n1, n2, n3, n4, Value.cells]
                refine s_go (s_assign) ?_
                try simp only [opv, n1, n2, n3, n4, Value.cells]
                refine x_nil ?_
                refine hK15 _ _ ?_
                refine x_ret ?_
                refine r_tmp rfl ?_
                exact ⟨_, _, rfl, hp, hl2, hN, hk2, hS.sel (by repeat (first | exact Sel.nil | (refine Sel.cons (by repeat (first | exact Del.head | apply Del.tail)) ?_)))⟩
             ·
              try simp only [decide_eq_true_eq, decide_eq_false_iff_not, Bool.not_eq_true', Bool.not_eq_false', Int.not_lt, Int.not_le, ne_eq, Decidable.not_not, bne_iff_ne, beq_iff_eq, not_true_eq_false, not_false_eq_true] at hc4
              first
              | (exfalso; omega)
              | skip
                have hlt : l2.getD jj 0 < l2.getD i 0 := by simpa using hc4
                refine x_skip ?_
                refine hK13 _ _ ?_
                refine x_seq fun K16 hK16 => ?_
                refine x_region ?_
                refine s_go (s_move) ?_
                try simp only [opv, n1, n2, n3, n4, Value.cells]
                refine s_go (s_move) ?_
                try simp only [opv, n1, n2, n3, n4, Value.cells]
                refine s_go (s_move) ?_
                try simp only [opv, n1, n2, n3, n4, Value.cells]
                refine s_inv_val mt_swap Try.underlying115 Try.underlying116 en188 (hS := hS) (h := ?_)
                try simp only [opv, n1, n2, n3, n4, Value.cells, List.map_toArray, List.map_cons, List.map_nil, List.append_toArray, List.cons_append, List.nil_append, Array.append_empty]
                refine CallR.mono (c_wSwap _ A c n l2 hl2 i jj (by omega) (by omega) (hS.owns (by repeat (first | exact Spl.nil | (apply Spl.cons (by repeat (first | exact Del.head | apply Del.tail))))))) ?_
                rintro _ w3 ⟨rfl, hC3⟩
                replace hS := hS.frame (by repeat (first | exact Spl.nil | (apply Spl.cons (by repeat (first | exact Del.head | apply Del.tail))))) hC3 (by intro r hr g hg; simp only [List.mem_cons, List.not_mem_nil, or_false] at hr; subst hr; simp [Res.reads] at hg)
                simp only [List.cons_append, List.nil_append] at hS
                try simp only [opv, n1, n2, n3, n4, Value.cells]
                refine x_nil ?_
                refine hK16 _ _ ?_
                refine x_region ?_
                refine s_go (s_move) ?_
                try simp only [opv, n1, n2, n3, n4, Value.cells]
                refine s_go (s_assign) ?_
                try simp only [opv, n1, n2, n3, n4, Value.cells]
                refine x_nil ?_
                refine loop_back (m' := n - jj) (by simp only [clob, List.foldl, n1, n2, n3, n4]) ?_ ?_
                · try simp only [opv, n1, n2, n3, n4, Value.cells]
                  exact ⟨jj, _, by omega, rfl, (swp_perm (by omega) (by omega)).trans hp, by rw [swp_len]; exact hl2, dn_step hD2 (by omega) hjj (by omega) hmin hlt, (fun q hq => by rw [swp_get (by omega) (by omega), if_neg (by omega), if_neg (by omega)]; exact hk2 q hq), by rfl, hS.sel (by repeat (first | exact Sel.nil | (refine Sel.cons (by repeat (first | exact Del.head | apply Del.tail)) ?_)))⟩
                · omega
          ·
           try simp only [decide_eq_true_eq, decide_eq_false_iff_not, Bool.not_eq_true', Bool.not_eq_false', Int.not_lt, Int.not_le, ne_eq, Decidable.not_not, bne_iff_ne, beq_iff_eq, not_true_eq_false, not_false_eq_true] at hc3
           first
           | (exfalso; omega)
           | skip
             obtain ⟨jj, hjj0⟩ : ∃ z, z = 2 * i + 1 := ⟨_, rfl⟩
             have hjj : jj = 2 * i + 1 ∨ jj = 2 * i + 2 := .inl hjj0
             have hmin : ∀ q, 0 < q → q < k → (q - 1) / 2 = i → l2.getD jj 0 ≤ l2.getD q 0 := fun q a b e => by (have hq : q = 2 * i + 1 ∨ q = 2 * i + 2 := by omega); (rw [hjj0]); (rcases hq with hq | hq <;> rw [hq] <;> first | omega | (exfalso; omega) | (simp at hc3; omega))
             rw [← hjj0]
             refine x_skip ?_
             refine hK10 _ _ ?_
             refine x_seq fun K17 hK17 => ?_
             refine x_seq fun K18 hK18 => ?_
             refine x_region ?_
             refine s_go (s_move) ?_
             try simp only [opv, n1, n2, n3, n4, Value.cells]
             refine s_go (s_move) ?_
             try simp only [opv, n1, n2, n3, n4, Value.cells]
             refine s_go (s_move) ?_
             try simp only [opv, n1, n2, n3, n4, Value.cells]
             refine s_inv_val mt_less Try.underlying115 Try.underlying116 en185 (hS := hS) (h := ?_)
             try simp only [opv, n1, n2, n3, n4, Value.cells, List.map_toArray, List.map_cons, List.map_nil, List.append_toArray, List.cons_append, List.nil_append, Array.append_empty]
             refine CallR.mono (c_wLess _ A n c l2 (hS.vecRd (by repeat (first | exact Has.head | apply Has.tail))) hl2 hn jj i (by omega) (by omega)) ?_
             rintro _ w4 ⟨rfl, hE4⟩
             replace hS := hS.ext hE4
             try simp only [opv, n1, n2, n3, n4, Value.cells]
             refine s_go (s_not) ?_
             try simp only [opv, n1, n2, n3, n4, Value.cells]
             refine x_nil ?_
             refine hK18 _ _ ?_
             refine x_cond (ht := fun hc5 => ?_) (hf := fun hc5 => ?_)
             ·
              try simp only [decide_eq_true_eq, decide_eq_false_iff_not, Bool.not_eq_true', Bool.not_eq_false', Int.not_lt, Int.not_le, ne_eq, Decidable.not_not, bne_iff_ne, beq_iff_eq, not_true_eq_false, not_false_eq_true] at hc5
              first
              | (exfalso; omega)
              | skip
                have hge : ¬ l2.getD jj 0 < l2.getD i 0 := by simpa using hc5
                have hN : HeapN l2 k := dn_done hD2 (fun q a b e => by have := hmin q a b e; omega)
                refine x_exit (look_on (by decide) (look_here ?_))
                refine hK3 _ _ ?_
                refine x_seq fun K19 hK19 => ?_
                refine x_region ?_
                refine s_go (s_move) ?_
                try simp only [opv, n1, n2, n3, n4, Value.cells]
                refine s_go (s_move) ?_
                try simp only [opv, n1, n2, n3, n4, Value.cells]
                refine s_go (s_gtr) ?_
                try simp only [opv, n1, n2, n3, n4, Value.cells]
                refine s_go (s_assign) ?_
                try simp only [opv, n1, n2, n3, n4, Value.cells]
                refine x_nil ?_
                refine hK19 _ _ ?_
                refine x_ret ?_
                refine r_tmp rfl ?_
                exact ⟨_, _, rfl, hp, hl2, hN, hk2, hS.sel (by repeat (first | exact Sel.nil | (refine Sel.cons (by repeat (first | exact Del.head | apply Del.tail)) ?_)))⟩
             ·
              try simp only [decide_eq_true_eq, decide_eq_false_iff_not, Bool.not_eq_true', Bool.not_eq_false', Int.not_lt, Int.not_le, ne_eq, Decidable.not_not, bne_iff_ne, beq_iff_eq, not_true_eq_false, not_false_eq_true] at hc5
              first
              | (exfalso; omega)
              | skip
                have hlt : l2.getD jj 0 < l2.getD i 0 := by simpa using hc5
                refine x_skip ?_
                refine hK17 _ _ ?_
                refine x_seq fun K20 hK20 => ?_
                refine x_region ?_
                refine s_go (s_move) ?_
                try simp only [opv, n1, n2, n3, n4, Value.cells]
                refine s_go (s_move) ?_
                try simp only [opv, n1, n2, n3, n4, Value.cells]
                refine s_go (s_move) ?_
                try simp only [opv, n1, n2, n3, n4, Value.cells]
                refine s_inv_val mt_swap Try.underlying115 Try.underlying116 en188 (hS := hS) (h := ?_)
                try simp only [opv, n1, n2, n3, n4, Value.cells, List.map_toArray, List.map_cons, List.map_nil, List.append_toArray, List.cons_append, List.nil_append, Array.append_empty]
                refine CallR.mono (c_wSwap _ A c n l2 hl2 i jj (by omega) (by omega) (hS.owns (by repeat (first | exact Spl.nil | (apply Spl.cons (by repeat (first | exact Del.head | apply Del.tail))))))) ?_
                rintro _ w5 ⟨rfl, hC5⟩
                replace hS := hS.frame (by repeat (first | exact Spl.nil | (apply Spl.cons (by repeat (first | exact Del.head | apply Del.tail))))) hC5 (by intro r hr g hg; simp only [List.mem_cons, List.not_mem_nil, or_false] at hr; subst hr; simp [Res.reads] at hg)
                simp only [List.cons_append, List.nil_append] at hS
                try simp only [opv, n1, n2, n3, n4, Value.cells]
                refine x_nil ?_
                refine hK20 _ _ ?_
                refine x_region ?_
                refine s_go (s_move) ?_
                try simp only [opv, n1, n2, n3, n4, Value.cells]
                refine s_go (s_assign) ?_
                try simp only [opv, n1, n2, n3, n4, Value.cells]
                refine x_nil ?_
                refine loop_back (m' := n - jj) (by simp only [clob, List.foldl, n1, n2, n3, n4]) ?_ ?_
                · try simp only [opv, n1, n2, n3, n4, Value.cells]
                  exact ⟨jj, _, by omega, rfl, (swp_perm (by omega) (by omega)).trans hp, by rw [swp_len]; exact hl2, dn_step hD2 (by omega) hjj (by omega) hmin hlt, (fun q hq => by rw [swp_get (by omega) (by omega), if_neg (by omega), if_neg (by omega)]; exact hk2 q hq), by rfl, hS.sel (by repeat (first | exact Sel.nil | (refine Sel.cons (by repeat (first | exact Del.head | apply Del.tail)) ?_)))⟩
                · omega
       ·
        try simp only [n3, n4]
        try simp only [decide_eq_true_eq, decide_eq_false_iff_not, Bool.not_eq_true', Bool.not_eq_false', Int.not_lt, Int.not_le, ne_eq, Decidable.not_not] at hp2
        first
        | (exfalso; omega)
        | skip
          have hj2 : ¬ 2 * i + 2 < k := by omega
          refine g_off (yi (t := 28) rfl rfl) ?_
          try simp only [opv, n1, n2, n3, n4, Value.cells]
          refine g_off (yi (t := 28) rfl rfl) ?_
          try simp only [opv, n1, n2, n3, n4, Value.cells]
          refine g_off (yi (t := 28) rfl rfl) ?_
          try simp only [opv, n1, n2, n3, n4, Value.cells]
          refine g_off (yi (t := 28) rfl rfl) ?_
          try simp only [opv, n1, n2, n3, n4, Value.cells]
          first | refine s_go (s_pick_t) ?_ | refine s_go (s_pick_f) ?_
          try simp only [opv, n1, n2, n3, n4, Value.cells]
          refine x_nil ?_
          refine hK12 _ _ ?_
          refine x_cond_f (h := ?_)
          obtain ⟨jj, hjj0⟩ : ∃ z, z = 2 * i + 1 := ⟨_, rfl⟩
          have hjj : jj = 2 * i + 1 ∨ jj = 2 * i + 2 := .inl hjj0
          have hmin : ∀ q, 0 < q → q < k → (q - 1) / 2 = i → l2.getD jj 0 ≤ l2.getD q 0 := fun q a b e => by (have hq : q = 2 * i + 1 ∨ q = 2 * i + 2 := by omega); (rw [hjj0]); (rcases hq with hq | hq <;> rw [hq] <;> first | omega | (exfalso; omega) | (simp at @c; omega))
          rw [← hjj0]
          refine x_skip ?_
          refine hK10 _ _ ?_
          refine x_seq fun K21 hK21 => ?_
          refine x_seq fun K22 hK22 => ?_
          refine x_region ?_
          refine s_go (s_move) ?_
          try simp only [opv, n1, n2, n3, n4, Value.cells]
          refine s_go (s_move) ?_
          try simp only [opv, n1, n2, n3, n4, Value.cells]
          refine s_go (s_move) ?_
          try simp only [opv, n1, n2, n3, n4, Value.cells]
          refine s_inv_val mt_less Try.underlying115 Try.underlying116 en185 (hS := hS) (h := ?_)
          try simp only [opv, n1, n2, n3, n4, Value.cells, List.map_toArray, List.map_cons, List.map_nil, List.append_toArray, List.cons_append, List.nil_append, Array.append_empty]
          refine CallR.mono (c_wLess _ A n c l2 (hS.vecRd (by repeat (first | exact Has.head | apply Has.tail))) hl2 hn jj i (by omega) (by omega)) ?_
          rintro _ w6 ⟨rfl, hE6⟩
          replace hS := hS.ext hE6
          try simp only [opv, n1, n2, n3, n4, Value.cells]
          refine s_go (s_not) ?_
          try simp only [opv, n1, n2, n3, n4, Value.cells]
          refine x_nil ?_
          refine hK22 _ _ ?_
          refine x_cond (ht := fun hc7 => ?_) (hf := fun hc7 => ?_)
          ·
           try simp only [decide_eq_true_eq, decide_eq_false_iff_not, Bool.not_eq_true', Bool.not_eq_false', Int.not_lt, Int.not_le, ne_eq, Decidable.not_not, bne_iff_ne, beq_iff_eq, not_true_eq_false, not_false_eq_true] at hc7
           first
           | (exfalso; omega)
           | skip
             have hge : ¬ l2.getD jj 0 < l2.getD i 0 := by simpa using hc7
             have hN : HeapN l2 k := dn_done hD2 (fun q a b e => by have := hmin q a b e; omega)
             refine x_exit (look_on (by decide) (look_here ?_))
             refine hK3 _ _ ?_
             refine x_seq fun K23 hK23 => ?_
             refine x_region ?_
             refine s_go (s_move) ?_
             try simp only [opv, n1, n2, n3, n4, Value.cells]
             refine s_go (s_move) ?_
             try simp only [opv, n1, n2, n3, n4, Value.cells]
             refine s_go (s_gtr) ?_
             try simp only [opv, n1, n2, n3, n4, Value.cells]
             refine s_go (s_assign) ?_
             try simp only [opv, n1, n2, n3, n4, Value.cells]
             refine x_nil ?_
             refine hK23 _ _ ?_
             refine x_ret ?_
             refine r_tmp rfl ?_
             exact ⟨_, _, rfl, hp, hl2, hN, hk2, hS.sel (by repeat (first | exact Sel.nil | (refine Sel.cons (by repeat (first | exact Del.head | apply Del.tail)) ?_)))⟩
          ·
           try simp only [decide_eq_true_eq, decide_eq_false_iff_not, Bool.not_eq_true', Bool.not_eq_false', Int.not_lt, Int.not_le, ne_eq, Decidable.not_not, bne_iff_ne, beq_iff_eq, not_true_eq_false, not_false_eq_true] at hc7
           first
           | (exfalso; omega)
           | skip
             have hlt : l2.getD jj 0 < l2.getD i 0 := by simpa using hc7
             refine x_skip ?_
             refine hK21 _ _ ?_
             refine x_seq fun K24 hK24 => ?_
             refine x_region ?_
             refine s_go (s_move) ?_
             try simp only [opv, n1, n2, n3, n4, Value.cells]
             refine s_go (s_move) ?_
             try simp only [opv, n1, n2, n3, n4, Value.cells]
             refine s_go (s_move) ?_
             try simp only [opv, n1, n2, n3, n4, Value.cells]
             refine s_inv_val mt_swap Try.underlying115 Try.underlying116 en188 (hS := hS) (h := ?_)
             try simp only [opv, n1, n2, n3, n4, Value.cells, List.map_toArray, List.map_cons, List.map_nil, List.append_toArray, List.cons_append, List.nil_append, Array.append_empty]
             refine CallR.mono (c_wSwap _ A c n l2 hl2 i jj (by omega) (by omega) (hS.owns (by repeat (first | exact Spl.nil | (apply Spl.cons (by repeat (first | exact Del.head | apply Del.tail))))))) ?_
             rintro _ w7 ⟨rfl, hC7⟩
             replace hS := hS.frame (by repeat (first | exact Spl.nil | (apply Spl.cons (by repeat (first | exact Del.head | apply Del.tail))))) hC7 (by intro r hr g hg; simp only [List.mem_cons, List.not_mem_nil, or_false] at hr; subst hr; simp [Res.reads] at hg)
             simp only [List.cons_append, List.nil_append] at hS
             try simp only [opv, n1, n2, n3, n4, Value.cells]
             refine x_nil ?_
             refine hK24 _ _ ?_
             refine x_region ?_
             refine s_go (s_move) ?_
             try simp only [opv, n1, n2, n3, n4, Value.cells]
             refine s_go (s_assign) ?_
             try simp only [opv, n1, n2, n3, n4, Value.cells]
             refine x_nil ?_
             refine loop_back (m' := n - jj) (by simp only [clob, List.foldl, n1, n2, n3, n4]) ?_ ?_
             · try simp only [opv, n1, n2, n3, n4, Value.cells]
               exact ⟨jj, _, by omega, rfl, (swp_perm (by omega) (by omega)).trans hp, by rw [swp_len]; exact hl2, dn_step hD2 (by omega) hjj (by omega) hmin hlt, (fun q hq => by rw [swp_get (by omega) (by omega), if_neg (by omega), if_neg (by omega)]; exact hk2 q hq), by rfl, hS.sel (by repeat (first | exact Sel.nil | (refine Sel.cons (by repeat (first | exact Del.head | apply Del.tail)) ?_)))⟩
             · omega
theorem c_wPush (w0 : World) (gw : Nat) (A : Option Addr) (c n : Nat) (l : List Int) (hl : l.length = n) (hn : n ≤ 4000000000) (x : Int) (hM : St (OwnB [.obj gw (.cells #[.slice A n c] 116 (0, 0)), .vec A c 48 1 n (List.map (Value.int .u64) l)]) w0 w0 [.obj gw (.cells #[.slice A n c] 116 (0, 0)), .vec A c 48 1 n (List.map (Value.int .u64) l)])  :
    CallR Try.prog 187 #[.pointer (some ⟨gw, 0, none⟩), .iface 48 (.int .u64 x)] w0 fun v w' => ∃ (A2 : Option Addr) (c2 : Nat), v = .tuple #[] ∧ St (OwnB [.obj gw (.cells #[.slice A n c] 116 (0, 0)), .vec A c 48 1 n (List.map (Value.int .u64) l)]) w0 w' [.obj gw (.cells #[.slice A2 (n + 1) c2] 116 (0, 0)), .vec A2 c2 48 1 (n + 1) (List.map (Value.int .u64) (l ++ [x]))] := by
 have hS := hM
 refine c_enter (l := [.pointer (some ⟨gw, 0, none⟩), .iface 48 (.int .u64 x), undef, undef, undef, undef, undef, undef, undef, undef, undef, undef, undef]) Try.func187 rfl (by simp only [Try.ntmps187, List.size_toArray, List.length_cons, List.length_nil, Nat.reduceAdd, Nat.reduceSub, Array.replicate_succ, Array.replicate_zero, List.push_toArray, List.append_toArray, List.nil_append, List.cons_append]) ?_
 refine x_mixed_c (Lc := [.obj gw (.cells #[.slice A n c] 116 (0, 0))]) [9] 0 [4, 5, 6, 7, 8, 9, 10, 11, 12] (fun f w => ∃ (A2 : Option Addr) (c2 : Nat), St (OwnB [.obj gw (.cells #[.slice A n c] 116 (0, 0)), .vec A c 48 1 n (List.map (Value.int .u64) l)]) w0 w [.obj gw (.cells #[.slice A2 (n + 1) c2] 116 (0, 0)), .vec A2 c2 48 1 (n + 1) (List.map (Value.int .u64) (l ++ [x]))]) (by kernel_rfl) (by kernel_rfl) (by kernel_rfl) (by decide) hS (fun w1 hS => ?mixpre1) ?mixrest1
 case mixpre1 =>
  refine p_nil ?_
  simp only [List.length_cons, List.length_nil, Nat.reduceAdd, Nat.reduceSub]
  refine any_go (i := 0) (by rfl) (by decide +kernel) (by decide +kernel) (by unfold noLate; decide) (go_yields w_none (fun w hS => s_move)) ?_
  try simp only [opv, n1, n2, n3, n4, Value.cells]
  refine any_go (i := 1) (by rfl) (by decide +kernel) (by decide +kernel) (by unfold noLate; decide) (go_yields w_none (fun w hS => s_move)) ?_
  try simp only [opv, n1, n2, n3, n4, Value.cells]
  refine any_go (i := 2) (by rfl) (by decide +kernel) (by decide +kernel) (by unfold noLate; decide) (go_yields w_none (fun w hS => s_nilCheck)) ?_
  try simp only [opv, n1, n2, n3, n4, Value.cells]
  first | refine any_go (i := 3) (by rfl) (by decide +kernel) (by decide +kernel) (by unfold noLate; decide) (go_yields w_none (fun w hS => m_load_obj Try.underlying116 (hS := hS))) ?_ | refine any_go (i := 3) (by rfl) (by decide +kernel) (by decide +kernel) (by unfold noLate; decide) (go_yields w_none (fun w hS => m_load_bx Try.underlying116 (hS := hS))) ?_ | refine any_go (i := 3) (by rfl) (by decide +kernel) (by decide +kernel) (by unfold noLate; decide) (go_yields w_none (fun w hS => m_load_rd Try.underlying116 (hS := hS))) ?_ | refine any_go (i := 3) (by rfl) (by decide +kernel) (by decide +kernel) (by unfold noLate; decide) (go_yields w_none (fun w hS => m_load_vec Try.underlying116 (hS := hS))) ?_
  try simp only [opv, n1, n2, n3, n4, Value.cells, List.getElem_toArray, List.getElem_cons_zero, List.getElem_cons_succ]
  refine any_go (i := 4) (by rfl) (by decide +kernel) (by decide +kernel) (by unfold noLate; decide) (go_yields w_none (fun w hS => s_move)) ?_
  try simp only [opv, n1, n2, n3, n4, Value.cells]
  refine any_go (i := 5) (by rfl) (by decide +kernel) (by decide +kernel) (by unfold noLate; decide) (go_yields w_none (fun w hS => s_assert Try.underlying48)) ?_
  try simp only [opv, n1, n2, n3, n4, Value.cells]
  refine any_step [6] (by kernel_rfl) (by decide) (fun w2 hE => ⟨fun _ => (hS.ext hE).sel (by repeat (first | exact Sel.nil | (refine Sel.cons (by repeat (first | exact Del.head | apply Del.tail)) ?_))), ?_⟩)
  replace hS := hS.ext hE
  intro i hi
  simp only [List.mem_cons, List.not_mem_nil, or_false] at hi
  subst hi
  ·
   refine any_op (by rfl) ?_
   refine m_buildRow (cells := #[_]) Try.underlying116 ti48 (hc := by simp only [List.map_toArray, List.map_cons, List.map_nil, opv, n1, n2, n3, n4, Value.cells, List.toList_toArray]; (repeat (refine fill_cons rfl rfl (Nat.le_of_ble_eq_true rfl) ?_)); rfl) (hS := hS) (h := fun w3 g3 hS => ?_)
   try simp only [opv, n1, n2, n3, n4, Value.cells, Array.toArray_toList] at hS ⊢
   replace hS := hS.obj_rd (sz := 1) (n := 1) rfl .head
   refine x_nil ?_
   refine any_step [7] (by kernel_rfl) (by decide) (fun w4 hE => ⟨fun _ => (hS.ext hE).sel (by repeat (first | exact Sel.nil | (refine Sel.cons (by repeat (first | exact Del.head | apply Del.tail)) ?_))), ?_⟩)
   replace hS := hS.ext hE
   intro i hi
   simp only [List.mem_cons, List.not_mem_nil, or_false] at hi
   subst hi
   ·
    refine any_op (by rfl) ?_
    refine m_append Try.underlying116 ti48 (hS := hS) (news := [x].map (Value.int .u64)) (h := fun w5 A5 C5 hS => ?_)
    try simp only [← List.map_append, ← List.map_drop, ← List.map_take, Nat.mul_one, Nat.zero_mul, Nat.sub_zero, List.drop_zero, List.nil_append, Nat.zero_add] at hS ⊢
    try simp only [opv, n1, n2, n3, n4, Value.cells, Array.toArray_toList] at hS ⊢
    refine x_nil ?_
    refine any_go (i := 8) (by rfl) (by decide +kernel) (by decide +kernel) (by unfold noLate; decide) (go_yields w_none (fun w hS => s_nilCheck)) ?_
    try simp only [opv, n1, n2, n3, n4, Value.cells]
    refine any_step [9] (by kernel_rfl) (by decide) (fun w6 hE => ⟨fun _ => (hS.ext hE).sel (by repeat (first | exact Sel.nil | (refine Sel.cons (by repeat (first | exact Del.head | apply Del.tail)) ?_))), ?_⟩)
    replace hS := hS.ext hE
    intro i hi
    simp only [List.mem_cons, List.not_mem_nil, or_false] at hi
    subst hi
    ·
     refine any_op (by rfl) ?_
     first | refine m_store_obj ti116 (hS := hS) (h := fun w7 hS => ?_) | refine m_store_vec ti116 (hS := hS) (h := fun w7 hS => ?_)
     try simp only [opv, n1, n2, n3, n4, Value.cells, Array.toArray_toList] at hS ⊢
     refine x_nil ?_
     refine any_nil (by kernel_rfl) (fun w8 hE => ?_)
     replace hS := hS.ext hE
     refine ⟨fun hl => absurd (hl 9 (by decide)) (by decide +kernel), ?_⟩
     refine mix_leaf (by simp only [clob, List.foldl, n1, n2, n3, n4]) ?_
     try simp only [n1, n2]
     exact ⟨_, _, hS.sel (by repeat (first | exact Sel.nil | (refine Sel.cons (by repeat (first | exact Del.head | apply Del.tail)) ?_)))⟩
 intro fm1 w9 hM
 obtain ⟨A2, c2, hS⟩ := hM
 simp only [clob, List.foldl, n3, n4]
 refine r_none rfl ?_
 exact ⟨_, _, rfl, hS.sel (by repeat (first | exact Sel.nil | (refine Sel.cons (by repeat (first | exact Del.head | apply Del.tail)) ?_)))⟩
theorem c_wPop (w0 : World) (gw : Nat) (A : Option Addr) (c n : Nat) (l : List Int) (hl : l.length = n + 1) (hn : n ≤ 4000000000) (hM : St (OwnB [.obj gw (.cells #[.slice A (n + 1) c] 116 (0, 0)), .vec A c 48 1 (n + 1) (List.map (Value.int .u64) l)]) w0 w0 [.obj gw (.cells #[.slice A (n + 1) c] 116 (0, 0)), .vec A c 48 1 (n + 1) (List.map (Value.int .u64) l)])  :
    CallR Try.prog 186 #[.pointer (some ⟨gw, 0, none⟩)] w0 fun v w' => v = .iface 48 (.int .u64 (l.getD n 0)) ∧ St (OwnB [.obj gw (.cells #[.slice A (n + 1) c] 116 (0, 0)), .vec A c 48 1 (n + 1) (List.map (Value.int .u64) l)]) w0 w' [.obj gw (.cells #[.slice A n c] 116 (0, 0)), .vec A c 48 1 n (List.map (Value.int .u64) (l.take n))] := by
 have hS := hM
 have hcp := hS.vec_cap (by repeat (first | exact Has.head | apply Has.tail))
 refine c_enter (l := [.pointer (some ⟨gw, 0, none⟩), undef, undef, undef, undef, undef, undef, undef, undef, undef, undef, undef, undef, undef, undef, undef, undef, undef, undef, undef, undef, undef, undef, undef, undef]) Try.func186 rfl (by simp only [Try.ntmps186, List.size_toArray, List.length_cons, List.length_nil, Nat.reduceAdd, Nat.reduceSub, Array.replicate_succ, Array.replicate_zero, List.push_toArray, List.append_toArray, List.nil_append, List.cons_append]) ?_
 refine x_seq fun K1 hK1 => ?_
 refine x_region ?_
 refine s_go (s_assign) ?_
 try simp only [opv, n1, n2, n3, n4, Value.cells]
 refine x_nil ?_
 refine hK1 _ _ ?_
 refine x_seq fun K2 hK2 => ?_
 refine x_region ?_
 refine s_go (s_move) ?_
 try simp only [opv, n1, n2, n3, n4, Value.cells]
 refine s_go (s_nilCheck) ?_
 try simp only [opv, n1, n2, n3, n4, Value.cells]
 first | refine s_go (m_load_obj Try.underlying116 (hS := hS)) ?_ | refine s_go (m_load_bx Try.underlying116 (hS := hS)) ?_ | refine s_go (m_load_rd Try.underlying116 (hS := hS)) ?_ | refine s_go (m_load_vec Try.underlying116 (hS := hS)) ?_
 try simp only [opv, n1, n2, n3, n4, Value.cells, List.getElem_toArray, List.getElem_cons_zero, List.getElem_cons_succ]
 refine s_go (s_len_sl Try.underlying116) ?_
 try simp only [opv, n1, n2, n3, n4, Value.cells]
 refine s_go (s_sub (hc := by first | exact wr_i64 (by omega) (by omega) | rfl)) ?_
 try simp only [opv, n1, n2, n3, n4, Value.cells]
 rw [show (((n + 1 : Nat) : Int) - 1) = (n : Int) by omega]
 refine s_go (s_assign) ?_
 try simp only [opv, n1, n2, n3, n4, Value.cells]
 refine x_nil ?_
 refine hK2 _ _ ?_
 refine x_seq fun K3 hK3 => ?_
 refine x_region ?_
 refine s_go (s_move) ?_
 try simp only [opv, n1, n2, n3, n4, Value.cells]
 refine s_go (s_nilCheck) ?_
 try simp only [opv, n1, n2, n3, n4, Value.cells]
 first | refine s_go (m_load_obj Try.underlying116 (hS := hS)) ?_ | refine s_go (m_load_bx Try.underlying116 (hS := hS)) ?_ | refine s_go (m_load_rd Try.underlying116 (hS := hS)) ?_ | refine s_go (m_load_vec Try.underlying116 (hS := hS)) ?_
 try simp only [opv, n1, n2, n3, n4, Value.cells, List.getElem_toArray, List.getElem_cons_zero, List.getElem_cons_succ]
 refine s_go (s_move) ?_
 try simp only [opv, n1, n2, n3, n4, Value.cells]
 first | refine s_go (m_indexAddr_rd Try.underlying116 ti48 (hS := hS)) ?_ | refine s_go (m_indexAddr_vec Try.underlying116 ti48 (hS := hS)) ?_
 try simp only [opv, n1, n2, n3, n4, Value.cells, Nat.mul_one, Nat.zero_add, Int.toNat_natCast, Int.reduceToNat]
 first | refine s_go (m_load_obj Try.underlying48 (hS := hS)) ?_ | refine s_go (m_load_bx Try.underlying48 (hS := hS)) ?_ | refine s_go (m_load_rd Try.underlying48 (hS := hS)) ?_ | refine s_go (m_load_vec Try.underlying48 (hS := hS)) ?_
 try simp only [opv, n1, n2, n3, n4, Value.cells, List.getElem_toArray, List.getElem_cons_zero, List.getElem_cons_succ]
 refine s_go (s_assign) ?_
 try simp only [opv, n1, n2, n3, n4, Value.cells]
 refine x_nil ?_
 refine hK3 _ _ ?_
 refine x_seq fun K4 hK4 => ?_
 refine x_region ?_
 refine s_go (s_move) ?_
 try simp only [opv, n1, n2, n3, n4, Value.cells]
 refine s_go (s_move) ?_
 try simp only [opv, n1, n2, n3, n4, Value.cells]
 refine s_go (s_nilCheck) ?_
 try simp only [opv, n1, n2, n3, n4, Value.cells]
 first | refine s_go (m_load_obj Try.underlying116 (hS := hS)) ?_ | refine s_go (m_load_bx Try.underlying116 (hS := hS)) ?_ | refine s_go (m_load_rd Try.underlying116 (hS := hS)) ?_ | refine s_go (m_load_vec Try.underlying116 (hS := hS)) ?_
 try simp only [opv, n1, n2, n3, n4, Value.cells, List.getElem_toArray, List.getElem_cons_zero, List.getElem_cons_succ]
 refine s_go (s_move) ?_
 try simp only [opv, n1, n2, n3, n4, Value.cells]
 refine s_go (m_slice_lo0 (hi := n) Try.underlying116 ti48 (hhi := ⟨_, rfl⟩)) ?_
 try simp only [opv, n1, n2, n3, n4, Value.cells]
 refine s_go (s_nilCheck) ?_
 try simp only [opv, n1, n2, n3, n4, Value.cells]
 first | refine m_store_obj ti116 (hS := hS) (h := fun w1 hS => ?_) | refine m_store_vec ti116 (hS := hS) (h := fun w1 hS => ?_)
 try simp only [opv, n1, n2, n3, n4, Value.cells, Array.toArray_toList] at hS ⊢
 replace hS := hS.vec_cut n (by omega) (.tail .head)
 simp only [Nat.mul_one, ← List.map_take] at hS
 refine x_nil ?_
 refine hK4 _ _ ?_
 refine x_seq fun K5 hK5 => ?_
 refine x_region ?_
 refine s_go (s_move) ?_
 try simp only [opv, n1, n2, n3, n4, Value.cells]
 refine s_go (s_iface Try.underlying48) ?_
 try simp only [opv, n1, n2, n3, n4, Value.cells]
 refine s_go (s_assign) ?_
 try simp only [opv, n1, n2, n3, n4, Value.cells]
 refine x_nil ?_
 refine hK5 _ _ ?_
 refine x_ret ?_
 refine r_tmp rfl ?_
 exact ⟨rfl, hS.sel (by repeat (first | exact Sel.nil | (refine Sel.cons (by repeat (first | exact Del.head | apply Del.tail)) ?_)))⟩
theorem c_heapPush (w0 : World) (gw : Nat) (A : Option Addr) (c n : Nat) (l : List Int) (hl : l.length = n) (hn : n + 1 ≤ 4000000000) (hH : HeapN l n) (x : Int) (hM : St (OwnB [.obj gw (.cells #[.slice A n c] 116 (0, 0)), .vec A c 48 1 n (List.map (Value.int .u64) l)]) w0 w0 [.obj gw (.cells #[.slice A n c] 116 (0, 0)), .vec A c 48 1 n (List.map (Value.int .u64) l)])  :
    CallR Try.prog 80 #[.iface 115 (.pointer (some ⟨gw, 0, none⟩)), .iface 48 (.int .u64 x)] w0 fun v w' => ∃ (A2 : Option Addr) (c2 : Nat) (l2 : List Int), v = .tuple #[] ∧ l2.Perm (l ++ [x]) ∧ l2.length = n + 1 ∧ HeapN l2 (n + 1) ∧ St (OwnB [.obj gw (.cells #[.slice A n c] 116 (0, 0)), .vec A c 48 1 n (List.map (Value.int .u64) l)]) w0 w' [.obj gw (.cells #[.slice A2 (n + 1) c2] 116 (0, 0)), .vec A2 c2 48 1 (n + 1) (List.map (Value.int .u64) l2)] := by
 have hS := hM
 have hui := up_init (x := x) (by rw [hl]; exact hH)
 rw [hl] at hui
 have hal : (l ++ [x]).length = n + 1 := by rw [List.length_append, hl]; rfl
 refine c_enter (l := [.iface 115 (.pointer (some ⟨gw, 0, none⟩)), .iface 48 (.int .u64 x), undef, undef, undef, undef, undef, undef, undef, undef, undef, undef]) Try.func80 rfl (by simp only [Try.ntmps80, List.size_toArray, List.length_cons, List.length_nil, Nat.reduceAdd, Nat.reduceSub, Array.replicate_succ, Array.replicate_zero, List.push_toArray, List.append_toArray, List.nil_append, List.cons_append]) ?_
 refine x_seq fun K1 hK1 => ?_
 refine x_region ?_
 refine s_go (s_move) ?_
 try simp only [opv, n1, n2, n3, n4, Value.cells]
 refine s_go (s_move) ?_
 try simp only [opv, n1, n2, n3, n4, Value.cells]
 refine s_inv_ptr mt_push Try.underlying115 en187 (h := ?_)
 try simp only [opv, n1, n2, n3, n4, Value.cells, List.map_toArray, List.map_cons, List.map_nil, List.append_toArray, List.cons_append, List.nil_append, Array.append_empty]
 refine CallR.mono (c_wPush _ gw A c n l hl (by omega) x (hS.owns (by repeat (first | exact Spl.nil | (apply Spl.cons (by repeat (first | exact Del.head | apply Del.tail))))))) ?_
 rintro _ w1 ⟨A2, c2, rfl, hC1⟩
 replace hS := hS.frame (by repeat (first | exact Spl.nil | (apply Spl.cons (by repeat (first | exact Del.head | apply Del.tail))))) hC1 (by intro r hr g hg; simp only [List.mem_cons, List.not_mem_nil, or_false] at hr; rcases hr with rfl | rfl <;> simp [Res.reads] at hg)
 simp only [List.cons_append, List.nil_append] at hS
 try simp only [opv, n1, n2, n3, n4, Value.cells]
 refine x_nil ?_
 refine hK1 _ _ ?_
 refine x_region ?_
 refine s_go (s_move) ?_
 try simp only [opv, n1, n2, n3, n4, Value.cells]
 refine s_go (s_move) ?_
 try simp only [opv, n1, n2, n3, n4, Value.cells]
 refine s_inv_val mt_len Try.underlying115 Try.underlying116 en81 (hS := hS) (h := ?_)
 try simp only [opv, n1, n2, n3, n4, Value.cells, List.map_toArray, List.map_cons, List.map_nil, List.append_toArray, List.cons_append, List.nil_append, Array.append_empty]
 refine CallR.mono (c_wLen _ _ _ _) ?_
 rintro _ w2 ⟨rfl, hE2⟩
 replace hS := hS.ext hE2
 try simp only [opv, n1, n2, n3, n4, Value.cells]
 refine s_go (s_sub (hc := by first | exact wr_i64 (by omega) (by omega) | rfl)) ?_
 try simp only [opv, n1, n2, n3, n4, Value.cells]
 rw [show (((n + 1 : Nat) : Int) - 1) = (n : Int) by omega]
 refine s_call en103 ?_
 try simp only [opv, n1, n2, n3, n4, Value.cells, List.map_toArray, List.map_cons, List.map_nil, List.append_toArray, List.cons_append, List.nil_append, Array.append_empty]
 refine CallR.mono (c_heapUp _ gw A2 c2 (n + 1) (l ++ [x]) hal (by omega) n (by omega) hui (hS.owns (by repeat (first | exact Spl.nil | (apply Spl.cons (by repeat (first | exact Del.head | apply Del.tail))))))) ?_
 rintro _ w3 ⟨l2, rfl, hp, hl2, hH2, hC3⟩
 replace hS := hS.frame (by repeat (first | exact Spl.nil | (apply Spl.cons (by repeat (first | exact Del.head | apply Del.tail))))) hC3 (by intro r hr g hg; simp only [List.mem_cons, List.not_mem_nil, or_false] at hr; rcases hr with rfl | rfl <;> simp [Res.reads] at hg)
 simp only [List.cons_append, List.nil_append] at hS
 try simp only [opv, n1, n2, n3, n4, Value.cells]
 refine x_nil ?_
 refine r_none rfl ?_
 exact ⟨_, _, l2, rfl, hp, hl2, hH2, hS.sel (by repeat (first | exact Sel.nil | (refine Sel.cons (by repeat (first | exact Del.head | apply Del.tail)) ?_)))⟩
theorem c_heapPop (w0 : World) (gw : Nat) (A : Option Addr) (c n : Nat) (l : List Int) (hl : l.length = n + 1) (hn : n + 1 ≤ 4000000000) (hH : HeapN l (n + 1)) (hM : St (OwnB [.obj gw (.cells #[.slice A (n + 1) c] 116 (0, 0)), .vec A c 48 1 (n + 1) (List.map (Value.int .u64) l)]) w0 w0 [.obj gw (.cells #[.slice A (n + 1) c] 116 (0, 0)), .vec A c 48 1 (n + 1) (List.map (Value.int .u64) l)])  :
    CallR Try.prog 82 #[.iface 115 (.pointer (some ⟨gw, 0, none⟩))] w0 fun v w' => ∃ (l2 : List Int), v = .iface 48 (.int .u64 (l.getD 0 0)) ∧ l.Perm (l.getD 0 0 :: l2) ∧ l2.length = n ∧ HeapN l2 n ∧ (∀ y ∈ l2, l.getD 0 0 ≤ y) ∧ St (OwnB [.obj gw (.cells #[.slice A (n + 1) c] 116 (0, 0)), .vec A c 48 1 (n + 1) (List.map (Value.int .u64) l)]) w0 w' [.obj gw (.cells #[.slice A n c] 116 (0, 0)), .vec A c 48 1 n (List.map (Value.int .u64) l2)] := by
 have hS := hM
 have hl0 : 0 < l.length := by omega
 have hH0 : HeapN l l.length := by rw [hl]; exact hH
 have hdi := dn_init hH0 hl0
 have hsl := swp_last hl0
 have hsw := swp_len l 0 n
 have hsn : l.length - 1 = n := by omega
 rw [hsn] at hdi hsl
 refine c_enter (l := [.iface 115 (.pointer (some ⟨gw, 0, none⟩)), undef, undef, undef, undef, undef, undef, undef, undef, undef, undef, undef, undef, undef, undef]) Try.func82 rfl (by simp only [Try.ntmps82, List.size_toArray, List.length_cons, List.length_nil, Nat.reduceAdd, Nat.reduceSub, Array.replicate_succ, Array.replicate_zero, List.push_toArray, List.append_toArray, List.nil_append, List.cons_append]) ?_
 refine x_seq fun K1 hK1 => ?_
 refine x_region ?_
 refine s_go (s_assign) ?_
 try simp only [opv, n1, n2, n3, n4, Value.cells]
 refine x_nil ?_
 refine hK1 _ _ ?_
 refine x_seq fun K2 hK2 => ?_
 refine x_region ?_
 refine s_go (s_move) ?_
 try simp only [opv, n1, n2, n3, n4, Value.cells]
 refine s_inv_val mt_len Try.underlying115 Try.underlying116 en81 (hS := hS) (h := ?_)
 try simp only [opv, n1, n2, n3, n4, Value.cells, List.map_toArray, List.map_cons, List.map_nil, List.append_toArray, List.cons_append, List.nil_append, Array.append_empty]
 refine CallR.mono (c_wLen _ _ _ _) ?_
 rintro _ w1 ⟨rfl, hE1⟩
 replace hS := hS.ext hE1
 try simp only [opv, n1, n2, n3, n4, Value.cells]
 refine s_go (s_sub (hc := by first | exact wr_i64 (by omega) (by omega) | rfl)) ?_
 try simp only [opv, n1, n2, n3, n4, Value.cells]
 rw [show (((n + 1 : Nat) : Int) - 1) = (n : Int) by omega]
 refine s_go (s_assign) ?_
 try simp only [opv, n1, n2, n3, n4, Value.cells]
 refine x_nil ?_
 refine hK2 _ _ ?_
 refine x_seq fun K3 hK3 => ?_
 refine x_region ?_
 refine s_go (s_move) ?_
 try simp only [opv, n1, n2, n3, n4, Value.cells]
 refine s_go (s_move) ?_
 try simp only [opv, n1, n2, n3, n4, Value.cells]
 refine s_inv_val mt_swap Try.underlying115 Try.underlying116 en188 (hS := hS) (h := ?_)
 try simp only [opv, n1, n2, n3, n4, Value.cells, List.map_toArray, List.map_cons, List.map_nil, List.append_toArray, List.cons_append, List.nil_append, Array.append_empty]
 refine CallR.mono (c_wSwap _ A c (n + 1) l hl 0 n (by omega) (by omega) (hS.owns (by repeat (first | exact Spl.nil | (apply Spl.cons (by repeat (first | exact Del.head | apply Del.tail))))))) ?_
 rintro _ w2 ⟨rfl, hC2⟩
 replace hS := hS.frame (by repeat (first | exact Spl.nil | (apply Spl.cons (by repeat (first | exact Del.head | apply Del.tail))))) hC2 (by intro r hr g hg; simp only [List.mem_cons, List.not_mem_nil, or_false] at hr; subst hr; simp [Res.reads] at hg)
 simp only [List.cons_append, List.nil_append] at hS
 try simp only [opv, n1, n2, n3, n4, Value.cells]
 refine x_nil ?_
 refine hK3 _ _ ?_
 refine x_seq fun K4 hK4 => ?_
 refine x_region ?_
 refine s_go (s_move) ?_
 try simp only [opv, n1, n2, n3, n4, Value.cells]
 refine s_go (s_move) ?_
 try simp only [opv, n1, n2, n3, n4, Value.cells]
 refine s_call en104 ?_
 try simp only [opv, n1, n2, n3, n4, Value.cells, List.map_toArray, List.map_cons, List.map_nil, List.append_toArray, List.cons_append, List.nil_append, Array.append_empty]
 refine CallR.mono (c_heapDown _ gw A c (n + 1) (swp l 0 n) (by omega) (by omega) n (by omega) (by omega) hdi (hS.owns (by repeat (first | exact Spl.nil | (apply Spl.cons (by repeat (first | exact Del.head | apply Del.tail))))))) ?_
 rintro _ w3 ⟨l2, z, rfl, hp, hl2, hH2, hk2, hC3⟩
 replace hS := hS.frame (by repeat (first | exact Spl.nil | (apply Spl.cons (by repeat (first | exact Del.head | apply Del.tail))))) hC3 (by intro r hr g hg; simp only [List.mem_cons, List.not_mem_nil, or_false] at hr; rcases hr with rfl | rfl <;> simp [Res.reads] at hg)
 simp only [List.cons_append, List.nil_append] at hS
 try simp only [opv, n1, n2, n3, n4, Value.cells]
 refine x_nil ?_
 refine hK4 _ _ ?_
 refine x_seq fun K5 hK5 => ?_
 refine x_region ?_
 refine s_go (s_move) ?_
 try simp only [opv, n1, n2, n3, n4, Value.cells]
 refine s_inv_ptr mt_pop Try.underlying115 en186 (h := ?_)
 try simp only [opv, n1, n2, n3, n4, Value.cells, List.map_toArray, List.map_cons, List.map_nil, List.append_toArray, List.cons_append, List.nil_append, Array.append_empty]
 refine CallR.mono (c_wPop _ gw A c n l2 hl2 (by omega) (hS.owns (by repeat (first | exact Spl.nil | (apply Spl.cons (by repeat (first | exact Del.head | apply Del.tail))))))) ?_
 rintro _ w4 ⟨rfl, hC4⟩
 replace hS := hS.frame (by repeat (first | exact Spl.nil | (apply Spl.cons (by repeat (first | exact Del.head | apply Del.tail))))) hC4 (by intro r hr g hg; simp only [List.mem_cons, List.not_mem_nil, or_false] at hr; rcases hr with rfl | rfl <;> simp [Res.reads] at hg)
 simp only [List.cons_append, List.nil_append] at hS
 try simp only [opv, n1, n2, n3, n4, Value.cells]
 refine s_go (s_assign) ?_
 try simp only [opv, n1, n2, n3, n4, Value.cells]
 refine x_nil ?_
 refine hK5 _ _ ?_
 refine x_ret ?_
 refine r_tmp rfl ?_
 have hpe := pop_end (l2 := l2) hl0 hH0 (by rw [hsn]; exact hp) (by rw [hsn, hk2 n (Nat.le_refl _)]; exact hsl) (by rw [hsn]; exact hH2)
 rw [hsn] at hpe
 obtain ⟨e1, e2, e3⟩ := hpe
 have htk : (l2.take n).length = n := by rw [List.length_take]; omega
 rw [htk] at e1
 rw [hk2 n (Nat.le_refl _), hsl]
 exact ⟨_, rfl, e2, htk, e1, e3, hS.sel (by repeat (first | exact Sel.nil | (refine Sel.cons (by repeat (first | exact Del.head | apply Del.tail)) ?_)))⟩
end Go.Proofs.Ytffmanidnlbjjaa
set_option linter.unusedSimpArgs false
set_option linter.unusedVariables false
set_option maxHeartbeats 2000000
set_option maxRecDepth 100000
namespace Go.Proofs.Ytffmanidnlbjjaa
open Go.RowKit

/-- a set's cells -/
def setL (v : List Int) (s : Value) : List Value := v.map (Value.int .u32) ++ [s]
abbrev SetC (v : List Int) (s : Value) : Array Value := (setL v s).toArray
theorem setL_len {v : List Int} (h : v.length = 16) (s : Value) : (setL v s).length = 17 := by simp [setL, h]
theorem setC_size {v : List Int} (h : v.length = 16) (s : Value) : (SetC v s).size = 17 := setL_len h s
theorem set_flo {v : List Int} (h : v.length = 16) (s : Value) : (((SetC v s).toList.drop 0).take 16).toArray = ic .u32 v := by
  show ((setL v s).take 16).toArray = _
  rw [setL, List.take_left' (by simpa using h)]; rfl
theorem set_sl {v : List Int} (h : v.length = 16) (s : Value) : (SetC v s)[16]? = some s := by
  rw [List.getElem?_toArray, setL, List.getElem?_append_right (by simp [h])]; simp [h]
theorem set_at {v : List Int} (h : v.length = 16) (s : Value) {r : Nat} (hr : r < 16) : (SetC v s)[r]? = some (.int .u32 (v.getD r 0)) := by
  rw [List.getElem?_toArray, setL, List.getElem?_append_left (by simp [h, hr])]; exact il_get (by omega)
theorem set_put {v : List Int} (h : v.length = 16) (s : Value) {r : Nat} (hr : r < 16) (n : Int) : splice (SetC v s).toList r [.int .u32 n] = setL (v.set r n) s := by
  show splice (setL v s) r _ = _
  rw [splice_one (by rw [setL_len h]; omega), setL, List.set_append_left _ _ (by simp [h, hr]), setL, List.map_set]
theorem set_put16 {v : List Int} (h : v.length = 16) (s s' : Value) : splice (SetC v s).toList 16 [s'] = setL v s' := by
  show splice (setL v s) 16 _ = _
  rw [splice_one (by rw [setL_len h]; omega), setL, List.set_append_right _ _ (by simp [h])]; simp [h, setL]
theorem set_whole {v v' : List Int} (h : v.length = 16) (h' : v'.length = 16) (s s' : Value) : splice (SetC v s).toList 0 (SetC v' s').toList = setL v' s' := splice_all (by show (setL v' s').length = (setL v s).length; rw [setL_len h, setL_len h'])
theorem set_one (v : List Int) (A : Option Addr) (n c : Nat) : ∀ u ∈ setL v (.slice A n c), u.oneCell' = true := by
  intro u hu
  rcases List.mem_append.1 hu with hu | hu
  · exact il_one _ _ u hu
  · rw [List.mem_singleton] at hu; rw [hu]; rfl
theorem fill_set {pl : Nat → Option (Nat × Nat)} {v : List Int} (h0 : pl 0 = some (0, 16)) (h : v.length = 16) : Instr.fill pl (setL (List.replicate 16 0) (.slice none 0 0)).toArray [(0, .agg (ic .u32 v))] = some (SetC v (.slice none 0 0)) := by
  refine fill_cons h0 (by simpa [Value.cells] using h) (by simp [setL]) ?_
  simp only [fill_nil, Value.cells]
  have e : splice (setL (List.replicate 16 0) (.slice none 0 0)).toArray.toList 0 (ic .u32 v).toList = setL v (.slice none 0 0) := by
    simp [splice, setL, ic, h]
  rw [e]
theorem fill_set2 {pl : Nat → Option (Nat × Nat)} {v : List Int} {A : Option Addr} {n c : Nat} (h0 : pl 0 = some (0, 16)) (h1 : pl 1 = some (16, 1)) (h : v.length = 16) : Instr.fill pl (setL (List.replicate 16 0) (.slice none 0 0)).toArray [(0, .agg (ic .u32 v)), (1, .slice A n c)] = some (SetC v (.slice A n c)) := by
  refine fill_cons h0 (by simpa [Value.cells] using h) (by simp [setL]) ?_
  have e : splice (setL (List.replicate 16 0) (.slice none 0 0)).toArray.toList 0 (ic .u32 v).toList = setL v (.slice none 0 0) := by
    simp [splice, setL, ic, h]
  simp only [Value.cells]
  rw [e]
  refine fill_cons h1 rfl (by rw [List.size_toArray, setL_len h]; omega) ?_
  simp only [fill_nil, Value.cells]
  exact congrArg (fun l : List Value => some l.toArray) (set_put16 h _ _)
def U64s (l : List Int) : Prop := ∀ x ∈ l, 0 ≤ x ∧ x < 18446744073709551616
theorem U64s.get {l : List Int} (h : U64s l) {k : Nat} (hk : k < l.length) : 0 ≤ l.getD k 0 ∧ l.getD k 0 < 18446744073709551616 := h _ (getD_mem' hk)
theorem U64s.app {l m : List Int} (h : U64s l) (h2 : U64s m) : U64s (l ++ m) := fun x hx => (List.mem_append.1 hx).elim (h x) (h2 x)
theorem U64s.nil : U64s [] := fun x h => by cases h
theorem may_nat {x : Nat} : MayD (x : Int) ↔ x / 4294967296 < 16 ∧ 0 < x % 4294967296 := by unfold MayD; omega
theorem dR_nat {x : Nat} : dR (x : Int) = x / 4294967296 := by unfold dR; omega
theorem may_u64 {d : Int} (h : MayD d) : 0 ≤ d ∧ d < 18446744073709551616 := by obtain ⟨a, b, c⟩ := h; omega

theorem c_dotsMay (x : Nat) (hx : x < 18446744073709551616)  (w0 : World) :
    CallR Try.prog 79 #[.int .u64 (x : Int)] w0 fun v w' => v = .bool (decide (MayD (x : Int))) ∧ Ext w0 w' := by
 have hS : St NoB w0 w0 [] := St.start w0
 refine c_enter (l := [.int .u64 (x : Int), undef, undef, undef, undef, undef, undef, undef, undef, undef, undef, undef, undef, undef, undef, undef, undef, undef, undef, undef]) Try.func79 rfl (by simp only [Try.ntmps79, List.size_toArray, List.length_cons, List.length_nil, Nat.reduceAdd, Nat.reduceSub, Array.replicate_succ, Array.replicate_zero, List.push_toArray, List.append_toArray, List.nil_append, List.cons_append]) ?_
 refine x_seq fun K1 hK1 => ?_
 refine x_region ?_
 refine s_go (s_assign) ?_
 try simp only [opv, n1, n2, n3, n4, Value.cells]
 refine x_nil ?_
 refine hK1 _ _ ?_
 refine x_seq fun K2 hK2 => ?_
 refine x_region ?_
 refine s_go (s_move) ?_
 try simp only [opv, n1, n2, n3, n4, Value.cells]
 refine s_call en83 ?_
 try simp only [opv, n1, n2, n3, n4, Value.cells, List.map_toArray, List.map_cons, List.map_nil, List.append_toArray, List.cons_append, List.nil_append, Array.append_empty]
 refine CallR.mono (c_keyUndot x hx _) ?_
 rintro _ w1 ⟨rfl, hE1⟩
 replace hS := hS.ext hE1
 try simp only [opv, n1, n2, n3, n4, Value.cells]
 refine s_go (s_move) ?_
 try simp only [opv, n1, n2, n3, n4, Value.cells]
 refine s_go (s_extract (hv := rfl)) ?_
 try simp only [List.getElem_toArray, List.getElem_cons_zero, List.getElem_cons_succ]
 try simp only [opv, n1, n2, n3, n4, Value.cells]
 refine s_go (s_extract (hv := rfl)) ?_
 try simp only [List.getElem_toArray, List.getElem_cons_zero, List.getElem_cons_succ]
 try simp only [opv, n1, n2, n3, n4, Value.cells]
 refine s_go (s_assign) ?_
 try simp only [opv, n1, n2, n3, n4, Value.cells]
 refine s_go (s_assign) ?_
 try simp only [opv, n1, n2, n3, n4, Value.cells]
 refine x_nil ?_
 refine hK2 _ _ ?_
 refine x_seq fun K3 hK3 => ?_
 refine x_region ?_
 refine s_go (s_move) ?_
 try simp only [opv, n1, n2, n3, n4, Value.cells]
 refine s_go (s_lss) ?_
 try simp only [opv, n1, n2, n3, n4, Value.cells]
 refine s_go (s_move) ?_
 try simp only [opv, n1, n2, n3, n4, Value.cells]
 refine s_part 12 rfl (fun hp1 => ?_) (fun hp1 => ?_)
 ·
  try simp only [n3, n4]
  try simp only [decide_eq_true_eq, decide_eq_false_iff_not, Bool.not_eq_true', Bool.not_eq_false', Int.not_lt, Int.not_le, ne_eq, Decidable.not_not] at hp1
  refine g_on (yi (t := 12) rfl rfl) ?_
  refine s_go (s_move) ?_
  try simp only [opv, n1, n2, n3, n4, Value.cells]
  refine g_on (yi (t := 12) rfl rfl) ?_
  refine s_go (s_lss) ?_
  try simp only [opv, n1, n2, n3, n4, Value.cells]
  first | refine s_go (s_pick_t) ?_ | refine s_go (s_pick_f) ?_
  try simp only [opv, n1, n2, n3, n4, Value.cells]
  refine s_go (s_move) ?_
  try simp only [opv, n1, n2, n3, n4, Value.cells]
  refine s_part 16 rfl (fun hp2 => ?_) (fun hp2 => ?_)
  ·
   try simp only [n3, n4]
   try simp only [decide_eq_true_eq, decide_eq_false_iff_not, Bool.not_eq_true', Bool.not_eq_false', Int.not_lt, Int.not_le, ne_eq, Decidable.not_not] at hp2
   refine g_on (yi (t := 16) rfl rfl) ?_
   refine s_go (s_move) ?_
   try simp only [opv, n1, n2, n3, n4, Value.cells]
   refine g_on (yi (t := 16) rfl rfl) ?_
   refine s_go (s_neq) ?_
   try simp only [opv, n1, n2, n3, n4, Value.cells]
   first | refine s_go (s_pick_t) ?_ | refine s_go (s_pick_f) ?_
   try simp only [opv, n1, n2, n3, n4, Value.cells]
   refine s_go (s_assign) ?_
   try simp only [opv, n1, n2, n3, n4, Value.cells]
   refine x_nil ?_
   refine hK3 _ _ ?_
   refine x_ret ?_
   refine r_tmp rfl ?_
   exact ⟨congrArg Value.bool (by rw [Bool.eq_iff_iff]; simp only [decide_eq_true_eq, may_nat]; simp at *; omega), hS.ext_of⟩
  ·
   try simp only [n3, n4]
   try simp only [decide_eq_true_eq, decide_eq_false_iff_not, Bool.not_eq_true', Bool.not_eq_false', Int.not_lt, Int.not_le, ne_eq, Decidable.not_not] at hp2
   refine g_off (yi (t := 16) rfl rfl) ?_
   try simp only [opv, n1, n2, n3, n4, Value.cells]
   refine g_off (yi (t := 16) rfl rfl) ?_
   try simp only [opv, n1, n2, n3, n4, Value.cells]
   first | refine s_go (s_pick_t) ?_ | refine s_go (s_pick_f) ?_
   try simp only [opv, n1, n2, n3, n4, Value.cells]
   refine s_go (s_assign) ?_
   try simp only [opv, n1, n2, n3, n4, Value.cells]
   refine x_nil ?_
   refine hK3 _ _ ?_
   refine x_ret ?_
   refine r_tmp rfl ?_
   exact ⟨congrArg Value.bool (by rw [Bool.eq_iff_iff]; simp only [decide_eq_true_eq, may_nat]; simp at *; omega), hS.ext_of⟩
 ·
  try simp only [n3, n4]
  try simp only [decide_eq_true_eq, decide_eq_false_iff_not, Bool.not_eq_true', Bool.not_eq_false', Int.not_lt, Int.not_le, ne_eq, Decidable.not_not] at hp1
  refine g_off (yi (t := 12) rfl rfl) ?_
  try simp only [opv, n1, n2, n3, n4, Value.cells]
  refine g_off (yi (t := 12) rfl rfl) ?_
  try simp only [opv, n1, n2, n3, n4, Value.cells]
  first | refine s_go (s_pick_t) ?_ | refine s_go (s_pick_f) ?_
  try simp only [opv, n1, n2, n3, n4, Value.cells]
  refine s_go (s_move) ?_
  try simp only [opv, n1, n2, n3, n4, Value.cells]
  refine g_off (yi (t := 16) rfl rfl) ?_
  try simp only [opv, n1, n2, n3, n4, Value.cells]
  refine g_off (yi (t := 16) rfl rfl) ?_
  try simp only [opv, n1, n2, n3, n4, Value.cells]
  first | refine s_go (s_pick_t) ?_ | refine s_go (s_pick_f) ?_
  try simp only [opv, n1, n2, n3, n4, Value.cells]
  refine s_go (s_assign) ?_
  try simp only [opv, n1, n2, n3, n4, Value.cells]
  refine x_nil ?_
  refine hK3 _ _ ?_
  refine x_ret ?_
  refine r_tmp rfl ?_
  exact ⟨congrArg Value.bool (by rw [Bool.eq_iff_iff]; simp only [decide_eq_true_eq, may_nat]; simp at *; omega), hS.ext_of⟩
theorem c_ref13May (x : Nat) (hx : x < 18446744073709551616)  (w0 : World) :
    CallR Try.prog 45 #[.int .u64 (x : Int)] w0 fun v w' => v = .bool (decide (MayD (x : Int))) ∧ Ext w0 w' := by
 have hS : St NoB w0 w0 [] := St.start w0
 refine c_enter (l := [.int .u64 (x : Int), undef, undef, undef, undef, undef, undef, undef, undef, undef, undef]) Try.func45 rfl (by simp only [Try.ntmps45, List.size_toArray, List.length_cons, List.length_nil, Nat.reduceAdd, Nat.reduceSub, Array.replicate_succ, Array.replicate_zero, List.push_toArray, List.append_toArray, List.nil_append, List.cons_append]) ?_
 refine x_seq fun K1 hK1 => ?_
 refine x_region ?_
 refine s_go (s_assign) ?_
 try simp only [opv, n1, n2, n3, n4, Value.cells]
 refine x_nil ?_
 refine hK1 _ _ ?_
 refine x_seq fun K2 hK2 => ?_
 refine x_region ?_
 refine s_go (s_move) ?_
 try simp only [opv, n1, n2, n3, n4, Value.cells]
 refine s_go (s_quo (hc := quo_u64 (p := 4294967296) (by omega))) ?_
 try simp only [opv, n1, n2, n3, n4, Value.cells]
 refine s_go (s_lss) ?_
 try simp only [opv, n1, n2, n3, n4, Value.cells]
 refine s_go (s_move) ?_
 try simp only [opv, n1, n2, n3, n4, Value.cells]
 refine s_part 6 rfl (fun hp1 => ?_) (fun hp1 => ?_)
 ·
  try simp only [n3, n4]
  try simp only [decide_eq_true_eq, decide_eq_false_iff_not, Bool.not_eq_true', Bool.not_eq_false', Int.not_lt, Int.not_le, ne_eq, Decidable.not_not] at hp1
  refine g_on (yi (t := 6) rfl rfl) ?_
  refine s_go (s_move) ?_
  try simp only [opv, n1, n2, n3, n4, Value.cells]
  refine g_on (yi (t := 6) rfl rfl) ?_
  refine s_go (s_rem (hc := rem_nat (p := 4294967296))) ?_
  try simp only [opv, n1, n2, n3, n4, Value.cells]
  refine g_on (yi (t := 6) rfl rfl) ?_
  refine s_go (s_gtr) ?_
  try simp only [opv, n1, n2, n3, n4, Value.cells]
  first | refine s_go (s_pick_t) ?_ | refine s_go (s_pick_f) ?_
  try simp only [opv, n1, n2, n3, n4, Value.cells]
  refine s_go (s_assign) ?_
  try simp only [opv, n1, n2, n3, n4, Value.cells]
  refine x_nil ?_
  refine hK2 _ _ ?_
  refine x_ret ?_
  refine r_tmp rfl ?_
  exact ⟨congrArg Value.bool (by rw [Bool.eq_iff_iff]; simp only [decide_eq_true_eq, may_nat]; simp at *; omega), hS.ext_of⟩
 ·
  try simp only [n3, n4]
  try simp only [decide_eq_true_eq, decide_eq_false_iff_not, Bool.not_eq_true', Bool.not_eq_false', Int.not_lt, Int.not_le, ne_eq, Decidable.not_not] at hp1
  refine g_off (yi (t := 6) rfl rfl) ?_
  try simp only [opv, n1, n2, n3, n4, Value.cells]
  refine g_off (yi (t := 6) rfl rfl) ?_
  try simp only [opv, n1, n2, n3, n4, Value.cells]
  refine g_off (yi (t := 6) rfl rfl) ?_
  try simp only [opv, n1, n2, n3, n4, Value.cells]
  first | refine s_go (s_pick_t) ?_ | refine s_go (s_pick_f) ?_
  try simp only [opv, n1, n2, n3, n4, Value.cells]
  refine s_go (s_assign) ?_
  try simp only [opv, n1, n2, n3, n4, Value.cells]
  refine x_nil ?_
  refine hK2 _ _ ?_
  refine x_ret ?_
  refine r_tmp rfl ?_
  exact ⟨congrArg Value.bool (by rw [Bool.eq_iff_iff]; simp only [decide_eq_true_eq, may_nat]; simp at *; omega), hS.ext_of⟩
theorem c_slIndex (w0 : World) (A : Option Addr) (c : Nat) (l : List Int) (hr : Rd w0 A 1 l.length (List.map (Value.int .u64) l)) (hu : U64s l) (hn : l.length ≤ 4000000000) (x : Int)  :
    CallR Try.prog 107 #[.slice A l.length c, .int .u64 x] w0 fun v w' => ∃ z : Int, v = .int .i64 z ∧ (0 ≤ z ↔ x ∈ l) ∧ Ext w0 w' := by
 have hS := St.rd1 (S := NoB) hr
 refine c_enter (l := [.slice A l.length c, .int .u64 x, undef, undef, undef, undef, undef, undef, undef, undef, undef, undef, undef, undef, undef, undef, undef, undef, undef]) Try.func107 rfl (by simp only [Try.ntmps107, List.size_toArray, List.length_cons, List.length_nil, Nat.reduceAdd, Nat.reduceSub, Array.replicate_succ, Array.replicate_zero, List.push_toArray, List.append_toArray, List.nil_append, List.cons_append]) ?_
 refine x_seq fun K1 hK1 => ?_
 refine x_region ?_
 refine s_go (s_assign) ?_
 try simp only [opv, n1, n2, n3, n4, Value.cells]
 refine x_nil ?_
 refine hK1 _ _ ?_
 refine x_seq fun K2 hK2 => ?_
 refine x_seq fun K3 hK3 => ?_
 refine x_region ?_
 refine s_go (s_move) ?_
 try simp only [opv, n1, n2, n3, n4, Value.cells]
 refine s_go (s_len_sl Try.underlying65) ?_
 try simp only [opv, n1, n2, n3, n4, Value.cells]
 refine s_go (s_move) ?_
 try simp only [opv, n1, n2, n3, n4, Value.cells]
 refine x_nil ?_
 refine hK3 _ _ ?_
 refine x_block ?_
 refine x_loop [4, 5, 8, 9, 10, 11, 12, 13, 14, 15, 16, 17, 18] (fun m f w => ∃ k : Nat, k ≤ l.length ∧ m = l.length - k ∧ f 8 = .int .i64 (k : Int) ∧ x ∉ l.take k ∧ St NoB w0 w [.rd A 1 l.length (List.map (Value.int .u64) l)]) (l.length) ?init1 (fun m1 f1 wl1 hI => ?_)
 case init1 =>
  try simp only [opv, n1, n2, n3, n4, Value.cells]
  exact ⟨0, by omega, rfl, rfl, (by simp), hS⟩
 obtain ⟨k, hk, hm, h8, hnx, hS⟩ := hI
 simp only [clob, List.foldl, n3, n4, h8]
 refine x_seq fun K4 hK4 => ?_
 refine x_region ?_
 refine s_go (s_lss) ?_
 try simp only [opv, n1, n2, n3, n4, Value.cells]
 refine x_nil ?_
 refine hK4 _ _ ?_
 refine x_seq fun K5 hK5 => ?_
 refine x_cond (ht := fun hc1 => ?_) (hf := fun hc1 => ?_)
 ·
  try simp only [decide_eq_true_eq, decide_eq_false_iff_not, Bool.not_eq_true', Bool.not_eq_false', Int.not_lt, Int.not_le, ne_eq, Decidable.not_not, bne_iff_ne, beq_iff_eq, not_true_eq_false, not_false_eq_true] at hc1
  refine x_skip ?_
  refine hK5 _ _ ?_
  refine x_seq fun K6 hK6 => ?_
  refine x_block ?_
  refine x_seq fun K7 hK7 => ?_
  refine x_region ?_
  refine s_go (s_move) ?_
  try simp only [opv, n1, n2, n3, n4, Value.cells]
  refine s_go (s_assign) ?_
  try simp only [opv, n1, n2, n3, n4, Value.cells]
  refine x_nil ?_
  refine hK7 _ _ ?_
  refine x_seq fun K8 hK8 => ?_
  refine x_region ?_
  refine s_go (s_move) ?_
  try simp only [opv, n1, n2, n3, n4, Value.cells]
  refine s_go (s_move) ?_
  try simp only [opv, n1, n2, n3, n4, Value.cells]
  refine s_go (s_move) ?_
  try simp only [opv, n1, n2, n3, n4, Value.cells]
  first | refine s_go (m_indexAddr_rd Try.underlying65 ti48 (hS := hS)) ?_ | refine s_go (m_indexAddr_vec Try.underlying65 ti48 (hS := hS)) ?_
  try simp only [opv, n1, n2, n3, n4, Value.cells, Nat.mul_one, Nat.zero_add, Int.toNat_natCast, Int.reduceToNat]
  first | refine s_go (m_load_obj Try.underlying48 (hS := hS)) ?_ | refine s_go (m_load_bx Try.underlying48 (hS := hS)) ?_ | refine s_go (m_load_rd Try.underlying48 (hS := hS)) ?_ | refine s_go (m_load_vec Try.underlying48 (hS := hS)) ?_
  try simp only [opv, n1, n2, n3, n4, Value.cells, List.getElem_toArray, List.getElem_cons_zero, List.getElem_cons_succ]
  refine s_go (s_eql) ?_
  try simp only [opv, n1, n2, n3, n4, Value.cells]
  refine x_nil ?_
  refine hK8 _ _ ?_
  refine x_cond (ht := fun hc2 => ?_) (hf := fun hc2 => ?_)
  ·
   try simp only [decide_eq_true_eq, decide_eq_false_iff_not, Bool.not_eq_true', Bool.not_eq_false', Int.not_lt, Int.not_le, ne_eq, Decidable.not_not, bne_iff_ne, beq_iff_eq, not_true_eq_false, not_false_eq_true] at hc2
   have hxl : x ∈ l := by rw [hc2]; exact getD_mem' (by omega)
   refine x_seq fun K9 hK9 => ?_
   refine x_region ?_
   refine s_go (s_move) ?_
   try simp only [opv, n1, n2, n3, n4, Value.cells]
   refine s_go (s_assign) ?_
   try simp only [opv, n1, n2, n3, n4, Value.cells]
   refine x_nil ?_
   refine hK9 _ _ ?_
   refine x_ret ?_
   refine r_tmp rfl ?_
   first
   | exact ⟨_, rfl, ⟨fun _ => hxl, fun _ => by omega⟩, hS.ext_of⟩
   | exact ⟨_, rfl, ⟨fun h => absurd h (by decide), fun h => absurd h hnx⟩, hS.ext_of⟩
  ·
   try simp only [decide_eq_true_eq, decide_eq_false_iff_not, Bool.not_eq_true', Bool.not_eq_false', Int.not_lt, Int.not_le, ne_eq, Decidable.not_not, bne_iff_ne, beq_iff_eq, not_true_eq_false, not_false_eq_true] at hc2
   have hne : ¬ x = l.getD k 0 := hc2
   refine x_skip ?_
   refine hK6 _ _ ?_
   refine x_region ?_
   refine s_go (s_add (hc := by first | exact wr_i64 (by omega) (by omega) | rfl)) ?_
   try simp only [opv, n1, n2, n3, n4, Value.cells]
   refine s_go (s_move) ?_
   try simp only [opv, n1, n2, n3, n4, Value.cells]
   refine x_nil ?_
   refine loop_back (m' := l.length - (k + 1)) (by simp only [clob, List.foldl, n1, n2, n3, n4]) ?_ ?_
   · try simp only [opv, n1, n2, n3, n4, Value.cells]
     exact ⟨k + 1, by omega, by omega, by rfl, (fun hx => by rw [List.take_succ_eq_append_getElem (by omega)] at hx; rcases List.mem_append.1 hx with hx | hx; exact hnx hx; rw [List.mem_singleton, ← getD_ltz (by omega)] at hx; exact hne hx), hS⟩
   · omega
 ·
  try simp only [decide_eq_true_eq, decide_eq_false_iff_not, Bool.not_eq_true', Bool.not_eq_false', Int.not_lt, Int.not_le, ne_eq, Decidable.not_not, bne_iff_ne, beq_iff_eq, not_true_eq_false, not_false_eq_true] at hc1
  obtain rfl : k = l.length := by omega
  rw [List.take_of_length_le (Nat.le_refl _)] at hnx
  refine x_exit (look_here ?_)
  refine hK2 _ _ ?_
  refine x_seq fun K10 hK10 => ?_
  refine x_region ?_
  refine s_go (s_assign) ?_
  try simp only [opv, n1, n2, n3, n4, Value.cells]
  refine x_nil ?_
  refine hK10 _ _ ?_
  refine x_ret ?_
  refine r_tmp rfl ?_
  first
  | exact ⟨_, rfl, ⟨fun _ => hxl, fun _ => by omega⟩, hS.ext_of⟩
  | exact ⟨_, rfl, ⟨fun h => absurd h (by decide), fun h => absurd h hnx⟩, hS.ext_of⟩
theorem c_slContains (w0 : World) (A : Option Addr) (c : Nat) (l : List Int) (hr : Rd w0 A 1 l.length (List.map (Value.int .u64) l)) (hu : U64s l) (hn : l.length ≤ 4000000000) (x : Int)  :
    CallR Try.prog 85 #[.slice A l.length c, .int .u64 x] w0 fun v w' => v = .bool (decide (x ∈ l)) ∧ Ext w0 w' := by
 have hS := St.rd1 (S := NoB) hr
 refine c_enter (l := [.slice A l.length c, .int .u64 x, undef, undef, undef, undef, undef, undef, undef]) Try.func85 rfl (by simp only [Try.ntmps85, List.size_toArray, List.length_cons, List.length_nil, Nat.reduceAdd, Nat.reduceSub, Array.replicate_succ, Array.replicate_zero, List.push_toArray, List.append_toArray, List.nil_append, List.cons_append]) ?_
 refine x_seq fun K1 hK1 => ?_
 refine x_region ?_
 refine s_go (s_assign) ?_
 try simp only [opv, n1, n2, n3, n4, Value.cells]
 refine x_nil ?_
 refine hK1 _ _ ?_
 refine x_seq fun K2 hK2 => ?_
 refine x_region ?_
 refine s_go (s_move) ?_
 try simp only [opv, n1, n2, n3, n4, Value.cells]
 refine s_go (s_move) ?_
 try simp only [opv, n1, n2, n3, n4, Value.cells]
 refine s_call en107 ?_
 try simp only [opv, n1, n2, n3, n4, Value.cells, List.map_toArray, List.map_cons, List.map_nil, List.append_toArray, List.cons_append, List.nil_append, Array.append_empty]
 refine CallR.mono (c_slIndex _ A c l (hS.hasRd (by repeat (first | exact Has.head | apply Has.tail))) hu hn x) ?_
 rintro _ w1 ⟨z, rfl, hz, hE1⟩
 replace hS := hS.ext hE1
 try simp only [opv, n1, n2, n3, n4, Value.cells]
 refine s_go (s_geq) ?_
 try simp only [opv, n1, n2, n3, n4, Value.cells]
 refine s_go (s_assign) ?_
 try simp only [opv, n1, n2, n3, n4, Value.cells]
 refine x_nil ?_
 refine hK2 _ _ ?_
 refine x_ret ?_
 refine r_tmp rfl ?_
 exact ⟨congrArg Value.bool (decide_eq_decide.2 hz), hS.ext_of⟩
theorem c_slEqual (w0 : World) (A : Option Addr) (c : Nat) (l : List Int) (hr : Rd w0 A 1 l.length (List.map (Value.int .u64) l)) (hu : U64s l) (B : Option Addr) (d : Nat) (r : List Int) (hr2 : Rd w0 B 1 r.length (List.map (Value.int .u64) r)) (hu2 : U64s r) (hn : l.length ≤ 4000000000 ∧ r.length ≤ 4000000000)  :
    CallR Try.prog 106 #[.slice A l.length c, .slice B r.length d] w0 fun v w' => v = .bool (decide (l = r)) ∧ Ext w0 w' := by
 have hS := St.rd2 (S := NoB) hr hr2
 refine c_enter (l := [.slice A l.length c, .slice B r.length d, undef, undef, undef, undef, undef, undef, undef, undef, undef, undef, undef, undef, undef, undef, undef, undef, undef, undef, undef, undef, undef, undef, undef, undef]) Try.func106 rfl (by simp only [Try.ntmps106, List.size_toArray, List.length_cons, List.length_nil, Nat.reduceAdd, Nat.reduceSub, Array.replicate_succ, Array.replicate_zero, List.push_toArray, List.append_toArray, List.nil_append, List.cons_append]) ?_
 refine x_seq fun K1 hK1 => ?_
 refine x_region ?_
 refine s_go (s_assign) ?_
 try simp only [opv, n1, n2, n3, n4, Value.cells]
 refine x_nil ?_
 refine hK1 _ _ ?_
 refine x_seq fun K2 hK2 => ?_
 refine x_seq fun K3 hK3 => ?_
 refine x_region ?_
 refine s_go (s_move) ?_
 try simp only [opv, n1, n2, n3, n4, Value.cells]
 refine s_go (s_len_sl Try.underlying65) ?_
 try simp only [opv, n1, n2, n3, n4, Value.cells]
 refine s_go (s_move) ?_
 try simp only [opv, n1, n2, n3, n4, Value.cells]
 refine s_go (s_len_sl Try.underlying65) ?_
 try simp only [opv, n1, n2, n3, n4, Value.cells]
 refine s_go (s_neq) ?_
 try simp only [opv, n1, n2, n3, n4, Value.cells]
 refine x_nil ?_
 refine hK3 _ _ ?_
 refine x_cond (ht := fun hc1 => ?_) (hf := fun hc1 => ?_)
 ·
  try simp only [decide_eq_true_eq, decide_eq_false_iff_not, Bool.not_eq_true', Bool.not_eq_false', Int.not_lt, Int.not_le, ne_eq, Decidable.not_not, bne_iff_ne, beq_iff_eq, not_true_eq_false, not_false_eq_true] at hc1
  have hne : ¬ l = r := fun h => hc1 (by rw [h])
  refine x_seq fun K4 hK4 => ?_
  refine x_region ?_
  refine s_go (s_assign) ?_
  try simp only [opv, n1, n2, n3, n4, Value.cells]
  refine x_nil ?_
  refine hK4 _ _ ?_
  refine x_ret ?_
  refine r_tmp rfl ?_
  exact ⟨by first | exact congrArg Value.bool (decide_eq_true (by assumption)).symm | exact congrArg Value.bool (decide_eq_false (by assumption)).symm, hS.ext_of⟩
 ·
  try simp only [decide_eq_true_eq, decide_eq_false_iff_not, Bool.not_eq_true', Bool.not_eq_false', Int.not_lt, Int.not_le, ne_eq, Decidable.not_not, bne_iff_ne, beq_iff_eq, not_true_eq_false, not_false_eq_true] at hc1
  have hlr : l.length = r.length := by omega
  refine x_skip ?_
  refine hK2 _ _ ?_
  refine x_seq fun K5 hK5 => ?_
  refine x_seq fun K6 hK6 => ?_
  refine x_region ?_
  refine s_go (s_move) ?_
  try simp only [opv, n1, n2, n3, n4, Value.cells]
  refine s_go (s_len_sl Try.underlying65) ?_
  try simp only [opv, n1, n2, n3, n4, Value.cells]
  refine s_go (s_move) ?_
  try simp only [opv, n1, n2, n3, n4, Value.cells]
  refine x_nil ?_
  refine hK6 _ _ ?_
  refine x_block ?_
  refine x_loop [4, 5, 13, 14, 15, 16, 17, 18, 19, 20, 21, 22, 23, 24, 25] (fun m f w => ∃ k : Nat, k ≤ l.length ∧ m = l.length - k ∧ f 13 = .int .i64 (k : Int) ∧ l.take k = r.take k ∧ St NoB w0 w [.rd A 1 l.length (List.map (Value.int .u64) l), .rd B 1 r.length (List.map (Value.int .u64) r)]) (l.length) ?init1 (fun m1 f1 wl1 hI => ?_)
  case init1 =>
   try simp only [opv, n1, n2, n3, n4, Value.cells]
   exact ⟨0, by omega, rfl, rfl, rfl, hS⟩
  obtain ⟨k, hk, hm, h13, hab, hS⟩ := hI
  simp only [clob, List.foldl, n3, n4, h13]
  refine x_seq fun K7 hK7 => ?_
  refine x_region ?_
  refine s_go (s_lss) ?_
  try simp only [opv, n1, n2, n3, n4, Value.cells]
  refine x_nil ?_
  refine hK7 _ _ ?_
  refine x_seq fun K8 hK8 => ?_
  refine x_cond (ht := fun hc2 => ?_) (hf := fun hc2 => ?_)
  ·
   try simp only [decide_eq_true_eq, decide_eq_false_iff_not, Bool.not_eq_true', Bool.not_eq_false', Int.not_lt, Int.not_le, ne_eq, Decidable.not_not, bne_iff_ne, beq_iff_eq, not_true_eq_false, not_false_eq_true] at hc2
   refine x_skip ?_
   refine hK8 _ _ ?_
   refine x_seq fun K9 hK9 => ?_
   refine x_block ?_
   refine x_seq fun K10 hK10 => ?_
   refine x_region ?_
   refine s_go (s_move) ?_
   try simp only [opv, n1, n2, n3, n4, Value.cells]
   refine s_go (s_assign) ?_
   try simp only [opv, n1, n2, n3, n4, Value.cells]
   refine x_nil ?_
   refine hK10 _ _ ?_
   refine x_seq fun K11 hK11 => ?_
   refine x_quiet (by kernel_rfl) (by kernel_rfl) hS ?_
   refine q_go (fun w hS => s_move) ?_
   try simp only [opv, n1, n2, n3, n4, Value.cells]
   refine q_go (fun w hS => s_move) ?_
   try simp only [opv, n1, n2, n3, n4, Value.cells]
   first | refine q_go (fun w hS => m_indexAddr_rd Try.underlying65 ti48 (hS := hS)) ?_ | refine q_go (fun w hS => m_indexAddr_vec Try.underlying65 ti48 (hS := hS)) ?_
   try simp only [opv, n1, n2, n3, n4, Value.cells, Nat.mul_one, Nat.zero_add, Int.toNat_natCast, Int.reduceToNat]
   first | refine q_go (fun w hS => m_load_obj Try.underlying48 (hS := hS)) ?_ | refine q_go (fun w hS => m_load_bx Try.underlying48 (hS := hS)) ?_ | refine q_go (fun w hS => m_load_rd Try.underlying48 (hS := hS)) ?_ | refine q_go (fun w hS => m_load_vec Try.underlying48 (hS := hS)) ?_
   try simp only [opv, n1, n2, n3, n4, Value.cells, List.getElem_toArray, List.getElem_cons_zero, List.getElem_cons_succ]
   refine q_go (fun w hS => s_move) ?_
   try simp only [opv, n1, n2, n3, n4, Value.cells]
   refine q_go (fun w hS => s_move) ?_
   try simp only [opv, n1, n2, n3, n4, Value.cells]
   first | refine q_go (fun w hS => m_indexAddr_rd Try.underlying65 ti48 (hS := hS)) ?_ | refine q_go (fun w hS => m_indexAddr_vec Try.underlying65 ti48 (hS := hS)) ?_
   try simp only [opv, n1, n2, n3, n4, Value.cells, Nat.mul_one, Nat.zero_add, Int.toNat_natCast, Int.reduceToNat]
   first | refine q_go (fun w hS => m_load_obj Try.underlying48 (hS := hS)) ?_ | refine q_go (fun w hS => m_load_bx Try.underlying48 (hS := hS)) ?_ | refine q_go (fun w hS => m_load_rd Try.underlying48 (hS := hS)) ?_ | refine q_go (fun w hS => m_load_vec Try.underlying48 (hS := hS)) ?_
   try simp only [opv, n1, n2, n3, n4, Value.cells, List.getElem_toArray, List.getElem_cons_zero, List.getElem_cons_succ]
   refine q_go (fun w hS => s_neq) ?_
   try simp only [opv, n1, n2, n3, n4, Value.cells]
   clear hS
   refine q_nil fun w1 hS => ?_
   refine hK11 _ _ ?_
   refine x_cond (ht := fun hc3 => ?_) (hf := fun hc3 => ?_)
   ·
    try simp only [decide_eq_true_eq, decide_eq_false_iff_not, Bool.not_eq_true', Bool.not_eq_false', Int.not_lt, Int.not_le, ne_eq, Decidable.not_not, bne_iff_ne, beq_iff_eq, not_true_eq_false, not_false_eq_true] at hc3
    have hne : ¬ l = r := fun h => by subst h; exact hc3 rfl
    refine x_seq fun K12 hK12 => ?_
    refine x_region ?_
    refine s_go (s_assign) ?_
    try simp only [opv, n1, n2, n3, n4, Value.cells]
    refine x_nil ?_
    refine hK12 _ _ ?_
    refine x_ret ?_
    refine r_tmp rfl ?_
    exact ⟨by first | exact congrArg Value.bool (decide_eq_true (by assumption)).symm | exact congrArg Value.bool (decide_eq_false (by assumption)).symm, hS.ext_of⟩
   ·
    try simp only [decide_eq_true_eq, decide_eq_false_iff_not, Bool.not_eq_true', Bool.not_eq_false', Int.not_lt, Int.not_le, ne_eq, Decidable.not_not, bne_iff_ne, beq_iff_eq, not_true_eq_false, not_false_eq_true] at hc3
    have hxy : l.getD k 0 = r.getD k 0 := hc3
    refine x_skip ?_
    refine hK9 _ _ ?_
    refine x_region ?_
    refine s_go (s_add (hc := by first | exact wr_i64 (by omega) (by omega) | rfl)) ?_
    try simp only [opv, n1, n2, n3, n4, Value.cells]
    refine s_go (s_move) ?_
    try simp only [opv, n1, n2, n3, n4, Value.cells]
    refine x_nil ?_
    refine loop_back (m' := l.length - (k + 1)) (by simp only [clob, List.foldl, n1, n2, n3, n4]) ?_ ?_
    · try simp only [opv, n1, n2, n3, n4, Value.cells]
      exact ⟨k + 1, by omega, by omega, by rfl, by rw [take_succ_getD (by omega), take_succ_getD (by omega), hab, hxy], hS⟩
    · omega
  ·
   try simp only [decide_eq_true_eq, decide_eq_false_iff_not, Bool.not_eq_true', Bool.not_eq_false', Int.not_lt, Int.not_le, ne_eq, Decidable.not_not, bne_iff_ne, beq_iff_eq, not_true_eq_false, not_false_eq_true] at hc2
   obtain rfl : k = l.length := by omega
   have heq : l = r := by rw [List.take_of_length_le (Nat.le_refl _), hlr, List.take_of_length_le (Nat.le_refl _)] at hab; exact hab
   refine x_exit (look_here ?_)
   refine hK5 _ _ ?_
   refine x_seq fun K13 hK13 => ?_
   refine x_region ?_
   refine s_go (s_assign) ?_
   try simp only [opv, n1, n2, n3, n4, Value.cells]
   refine x_nil ?_
   refine hK13 _ _ ?_
   refine x_ret ?_
   refine r_tmp rfl ?_
   exact ⟨by first | exact congrArg Value.bool (decide_eq_true (by assumption)).symm | exact congrArg Value.bool (decide_eq_false (by assumption)).symm, hS.ext_of⟩
theorem c_dotsAlike (w0 : World) (x y : List Int) (hx : x.length = 16) (hy : y.length = 16) (A : Option Addr) (c : Nat) (l : List Int) (hr : Rd w0 A 1 l.length (List.map (Value.int .u64) l)) (hu : U64s l) (B : Option Addr) (d : Nat) (r : List Int) (hr2 : Rd w0 B 1 r.length (List.map (Value.int .u64) r)) (hu2 : U64s r) (hn : l.length ≤ 4000000000 ∧ r.length ≤ 4000000000)  :
    CallR Try.prog 84 #[.agg (SetC x (.slice A l.length c)), .agg (SetC y (.slice B r.length d))] w0 fun v w' => v = .bool (decide ((x, l) = (y, r))) ∧ Ext w0 w' := by
 have hS := St.rd2 (S := NoB) hr hr2
 refine c_enter (l := [.agg (SetC x (.slice A l.length c)), .agg (SetC y (.slice B r.length d)), undef, undef, undef, undef, undef, undef, undef, undef, undef, undef, undef, undef, undef, undef, undef]) Try.func84 rfl (by simp only [Try.ntmps84, List.size_toArray, List.length_cons, List.length_nil, Nat.reduceAdd, Nat.reduceSub, Array.replicate_succ, Array.replicate_zero, List.push_toArray, List.append_toArray, List.nil_append, List.cons_append]) ?_
 refine x_seq fun K1 hK1 => ?_
 refine x_region ?_
 refine m_box hS (fun w1 g1 hS => ?_)
 try simp only [opv, n1, n2, n3, n4, Value.cells, Array.toArray_toList] at hS ⊢
 refine m_box hS (fun w2 g2 hS => ?_)
 try simp only [opv, n1, n2, n3, n4, Value.cells, Array.toArray_toList] at hS ⊢
 refine s_go (s_assign) ?_
 try simp only [opv, n1, n2, n3, n4, Value.cells]
 refine x_nil ?_
 refine hK1 _ _ ?_
 refine x_seq fun K2 hK2 => ?_
 refine x_region ?_
 first | refine s_go (m_fieldAddr Try.underlying72 (hi := ti70)) ?_ | refine s_go (m_fieldAddr_rd Try.underlying72 (hi := ti70) (hS := hS)) ?_ | refine s_go (m_fieldAddr_vec Try.underlying72 (hi := ti70) (hS := hS)) ?_
 try simp only [opv, n1, n2, n3, n4, Value.cells, Nat.zero_add, Nat.add_zero, List.getElem_toArray, List.getElem_cons_zero, List.getElem_cons_succ]
 refine s_go (m_loada_obj Try.underlying70 (hi := ti70) (hS := hS) (hfit := by rw [setC_size (by assumption)]; decide)) ?_
 try simp only [opv, n1, n2, n3, n4, Value.cells, List.getElem_toArray, List.getElem_cons_zero, List.getElem_cons_succ]
 rw [set_flo (by assumption)]
 first | refine s_go (m_fieldAddr Try.underlying72 (hi := ti70)) ?_ | refine s_go (m_fieldAddr_rd Try.underlying72 (hi := ti70) (hS := hS)) ?_ | refine s_go (m_fieldAddr_vec Try.underlying72 (hi := ti70) (hS := hS)) ?_
 try simp only [opv, n1, n2, n3, n4, Value.cells, Nat.zero_add, Nat.add_zero, List.getElem_toArray, List.getElem_cons_zero, List.getElem_cons_succ]
 refine s_go (m_loada_obj Try.underlying70 (hi := ti70) (hS := hS) (hfit := by rw [setC_size (by assumption)]; decide)) ?_
 try simp only [opv, n1, n2, n3, n4, Value.cells, List.getElem_toArray, List.getElem_cons_zero, List.getElem_cons_succ]
 rw [set_flo (by assumption)]
 refine s_go (s_eql_agg eqv70 (hg := eg70) (hX := zi_ic (by assumption)) (hY := zi_ic (by assumption)) (h1 := by assumption) (h2 := by assumption)) ?_
 try simp only [opv, n1, n2, n3, n4, Value.cells]
 refine s_go (s_move) ?_
 try simp only [opv, n1, n2, n3, n4, Value.cells]
 refine s_part 10 rfl (fun hp1 => ?_) (fun hp1 => ?_)
 ·
  try simp only [n3, n4]
  try simp only [decide_eq_true_eq, decide_eq_false_iff_not, Bool.not_eq_true', Bool.not_eq_false', Int.not_lt, Int.not_le, ne_eq, Decidable.not_not] at hp1
  have hxy : x = y := by simpa using hp1
  refine g_on (yi (t := 10) rfl rfl) ?_
  first | refine s_go (m_fieldAddr Try.underlying72 (hi := ti65)) ?_ | refine s_go (m_fieldAddr_rd Try.underlying72 (hi := ti65) (hS := hS)) ?_ | refine s_go (m_fieldAddr_vec Try.underlying72 (hi := ti65) (hS := hS)) ?_
  try simp only [opv, n1, n2, n3, n4, Value.cells, Nat.zero_add, Nat.add_zero, List.getElem_toArray, List.getElem_cons_zero, List.getElem_cons_succ]
  refine g_on (yi (t := 10) rfl rfl) ?_
  refine s_go (m_load_obj Try.underlying65 (hS := hS) (hv := set_sl (by assumption) _)) ?_
  try simp only [opv, n1, n2, n3, n4, Value.cells, List.getElem_toArray, List.getElem_cons_zero, List.getElem_cons_succ]
  refine g_on (yi (t := 10) rfl rfl) ?_
  first | refine s_go (m_fieldAddr Try.underlying72 (hi := ti65)) ?_ | refine s_go (m_fieldAddr_rd Try.underlying72 (hi := ti65) (hS := hS)) ?_ | refine s_go (m_fieldAddr_vec Try.underlying72 (hi := ti65) (hS := hS)) ?_
  try simp only [opv, n1, n2, n3, n4, Value.cells, Nat.zero_add, Nat.add_zero, List.getElem_toArray, List.getElem_cons_zero, List.getElem_cons_succ]
  refine g_on (yi (t := 10) rfl rfl) ?_
  refine s_go (m_load_obj Try.underlying65 (hS := hS) (hv := set_sl (by assumption) _)) ?_
  try simp only [opv, n1, n2, n3, n4, Value.cells, List.getElem_toArray, List.getElem_cons_zero, List.getElem_cons_succ]
  refine g_on (yi (t := 10) rfl rfl) ?_
  refine s_call en106 ?_
  try simp only [opv, n1, n2, n3, n4, Value.cells, List.map_toArray, List.map_cons, List.map_nil, List.append_toArray, List.cons_append, List.nil_append, Array.append_empty]
  refine CallR.mono (c_slEqual _ A c l (hS.hasRd (by repeat (first | exact Has.head | apply Has.tail))) hu B d r (hS.hasRd (by repeat (first | exact Has.head | apply Has.tail))) hu2 hn) ?_
  rintro _ w3 ⟨rfl, hE3⟩
  replace hS := hS.ext hE3
  try simp only [opv, n1, n2, n3, n4, Value.cells]
  first | refine s_go (s_pick_t) ?_ | refine s_go (s_pick_f) ?_
  try simp only [opv, n1, n2, n3, n4, Value.cells]
  refine s_go (s_assign) ?_
  try simp only [opv, n1, n2, n3, n4, Value.cells]
  refine x_nil ?_
  refine hK2 _ _ ?_
  refine x_ret ?_
  refine r_tmp rfl ?_
  first
  | exact ⟨by rw [hE]; rfl, hS.ext_of⟩
  | exact ⟨congrArg Value.bool (decide_eq_decide.2 ⟨fun h => by rw [hxy, h], fun h => (Prod.mk.inj h).2⟩), hS.ext_of⟩
 ·
  try simp only [n3, n4]
  try simp only [decide_eq_true_eq, decide_eq_false_iff_not, Bool.not_eq_true', Bool.not_eq_false', Int.not_lt, Int.not_le, ne_eq, Decidable.not_not] at hp1
  have hE : decide ((x, l) = (y, r)) = false := decide_eq_false (fun h => by rw [Prod.mk.injEq] at h; simp [h.1] at hp1)
  refine g_off (yi (t := 10) rfl rfl) ?_
  try simp only [opv, n1, n2, n3, n4, Value.cells]
  refine g_off (yi (t := 10) rfl rfl) ?_
  try simp only [opv, n1, n2, n3, n4, Value.cells]
  refine g_off (yi (t := 10) rfl rfl) ?_
  try simp only [opv, n1, n2, n3, n4, Value.cells]
  refine g_off (yi (t := 10) rfl rfl) ?_
  try simp only [opv, n1, n2, n3, n4, Value.cells]
  refine g_off (yi (t := 10) rfl rfl) ?_
  try simp only [opv, n1, n2, n3, n4, Value.cells]
  first | refine s_go (s_pick_t) ?_ | refine s_go (s_pick_f) ?_
  try simp only [opv, n1, n2, n3, n4, Value.cells]
  refine s_go (s_assign) ?_
  try simp only [opv, n1, n2, n3, n4, Value.cells]
  refine x_nil ?_
  refine hK2 _ _ ?_
  refine x_ret ?_
  refine r_tmp rfl ?_
  first
  | exact ⟨by rw [hE]; rfl, hS.ext_of⟩
  | exact ⟨congrArg Value.bool (decide_eq_decide.2 ⟨fun h => by rw [hxy, h], fun h => (Prod.mk.inj h).2⟩), hS.ext_of⟩
theorem c_ref13Same (w0 : World) (x y : List Int) (hx : x.length = 16) (hy : y.length = 16) (A : Option Addr) (c : Nat) (l : List Int) (hr : Rd w0 A 1 l.length (List.map (Value.int .u64) l)) (hu : U64s l) (B : Option Addr) (d : Nat) (r : List Int) (hr2 : Rd w0 B 1 r.length (List.map (Value.int .u64) r)) (hu2 : U64s r) (hn : l.length ≤ 4000000000 ∧ r.length ≤ 4000000000)  :
    CallR Try.prog 32 #[.agg (SetC x (.slice A l.length c)), .agg (SetC y (.slice B r.length d))] w0 fun v w' => v = .bool (decide ((x, l) = (y, r))) ∧ Ext w0 w' := by
 have hS := St.rd2 (S := NoB) hr hr2
 refine c_enter (l := [.agg (SetC x (.slice A l.length c)), .agg (SetC y (.slice B r.length d)), undef, undef, undef, undef, undef, undef, undef, undef, undef, undef, undef, undef, undef, undef, undef, undef, undef, undef, undef, undef, undef, undef, undef, undef, undef, undef, undef, undef, undef, undef, undef, undef, undef, undef, undef, undef]) Try.func32 rfl (by simp only [Try.ntmps32, List.size_toArray, List.length_cons, List.length_nil, Nat.reduceAdd, Nat.reduceSub, Array.replicate_succ, Array.replicate_zero, List.push_toArray, List.append_toArray, List.nil_append, List.cons_append]) ?_
 refine x_seq fun K1 hK1 => ?_
 refine x_region ?_
 refine m_box hS (fun w1 g1 hS => ?_)
 try simp only [opv, n1, n2, n3, n4, Value.cells, Array.toArray_toList] at hS ⊢
 obtain ⟨gx, hgx⟩ : ∃ z, z = g1 := ⟨_, rfl⟩
 rw [← hgx] at hS ⊢
 refine m_box hS (fun w2 g2 hS => ?_)
 try simp only [opv, n1, n2, n3, n4, Value.cells, Array.toArray_toList] at hS ⊢
 obtain ⟨gy, hgy⟩ : ∃ z, z = g2 := ⟨_, rfl⟩
 rw [← hgy] at hS ⊢
 refine s_go (s_assign) ?_
 try simp only [opv, n1, n2, n3, n4, Value.cells]
 refine x_nil ?_
 refine hK1 _ _ ?_
 refine x_seq fun K2 hK2 => ?_
 refine x_seq fun K3 hK3 => ?_
 refine x_region ?_
 first | refine s_go (m_fieldAddr Try.underlying67 (hi := ti64)) ?_ | refine s_go (m_fieldAddr_rd Try.underlying67 (hi := ti64) (hS := hS)) ?_ | refine s_go (m_fieldAddr_vec Try.underlying67 (hi := ti64) (hS := hS)) ?_
 try simp only [opv, n1, n2, n3, n4, Value.cells, Nat.zero_add, Nat.add_zero, List.getElem_toArray, List.getElem_cons_zero, List.getElem_cons_succ]
 refine s_go (m_loada_obj Try.underlying64 (hi := ti64) (hS := hS) (hfit := by rw [setC_size (by assumption)]; decide)) ?_
 try simp only [opv, n1, n2, n3, n4, Value.cells, List.getElem_toArray, List.getElem_cons_zero, List.getElem_cons_succ]
 rw [set_flo (by assumption)]
 first | refine s_go (m_fieldAddr Try.underlying67 (hi := ti64)) ?_ | refine s_go (m_fieldAddr_rd Try.underlying67 (hi := ti64) (hS := hS)) ?_ | refine s_go (m_fieldAddr_vec Try.underlying67 (hi := ti64) (hS := hS)) ?_
 try simp only [opv, n1, n2, n3, n4, Value.cells, Nat.zero_add, Nat.add_zero, List.getElem_toArray, List.getElem_cons_zero, List.getElem_cons_succ]
 refine s_go (m_loada_obj Try.underlying64 (hi := ti64) (hS := hS) (hfit := by rw [setC_size (by assumption)]; decide)) ?_
 try simp only [opv, n1, n2, n3, n4, Value.cells, List.getElem_toArray, List.getElem_cons_zero, List.getElem_cons_succ]
 rw [set_flo (by assumption)]
 refine s_go (s_neq_agg eqv64 (hg := eg64) (hX := zi_ic (by assumption)) (hY := zi_ic (by assumption)) (h1 := by assumption) (h2 := by assumption)) ?_
 try simp only [opv, n1, n2, n3, n4, Value.cells]
 refine s_go (s_move) ?_
 try simp only [opv, n1, n2, n3, n4, Value.cells]
 refine s_part 11 rfl (fun hp1 => ?_) (fun hp1 => ?_)
 ·
  try simp only [n3, n4]
  try simp only [decide_eq_true_eq, decide_eq_false_iff_not, Bool.not_eq_true', Bool.not_eq_false', Int.not_lt, Int.not_le, ne_eq, Decidable.not_not] at hp1
  have hE : decide ((x, l) = (y, r)) = false := decide_eq_false (fun h => by rw [Prod.mk.injEq] at h; simp [h.1] at hp1)
  refine g_off (yi (t := 11) rfl rfl) ?_
  try simp only [opv, n1, n2, n3, n4, Value.cells]
  refine g_off (yi (t := 11) rfl rfl) ?_
  try simp only [opv, n1, n2, n3, n4, Value.cells]
  refine g_off (yi (t := 11) rfl rfl) ?_
  try simp only [opv, n1, n2, n3, n4, Value.cells]
  refine g_off (yi (t := 11) rfl rfl) ?_
  try simp only [opv, n1, n2, n3, n4, Value.cells]
  refine g_off (yi (t := 11) rfl rfl) ?_
  try simp only [opv, n1, n2, n3, n4, Value.cells]
  refine g_off (yi (t := 11) rfl rfl) ?_
  try simp only [opv, n1, n2, n3, n4, Value.cells]
  refine g_off (yi (t := 11) rfl rfl) ?_
  try simp only [opv, n1, n2, n3, n4, Value.cells]
  first | refine s_go (s_pick_t) ?_ | refine s_go (s_pick_f) ?_
  try simp only [opv, n1, n2, n3, n4, Value.cells]
  refine x_nil ?_
  refine hK3 _ _ ?_
  refine x_cond_t (h := ?_)
  try have hE : decide ((x, l) = (y, r)) = false := decide_eq_false (fun h => by rw [Prod.mk.injEq] at h; simp [h.2] at @c)
  refine x_seq fun K4 hK4 => ?_
  refine x_region ?_
  refine s_go (s_assign) ?_
  try simp only [opv, n1, n2, n3, n4, Value.cells]
  refine x_nil ?_
  refine hK4 _ _ ?_
  refine x_ret ?_
  refine r_tmp rfl ?_
  exact ⟨by rw [hE]; rfl, hS.ext_of⟩
 ·
  try simp only [n3, n4]
  try simp only [decide_eq_true_eq, decide_eq_false_iff_not, Bool.not_eq_true', Bool.not_eq_false', Int.not_lt, Int.not_le, ne_eq, Decidable.not_not] at hp1
  have hxy : x = y := by simpa using hp1
  refine g_on (yi (t := 11) rfl rfl) ?_
  first | refine s_go (m_fieldAddr Try.underlying67 (hi := ti65)) ?_ | refine s_go (m_fieldAddr_rd Try.underlying67 (hi := ti65) (hS := hS)) ?_ | refine s_go (m_fieldAddr_vec Try.underlying67 (hi := ti65) (hS := hS)) ?_
  try simp only [opv, n1, n2, n3, n4, Value.cells, Nat.zero_add, Nat.add_zero, List.getElem_toArray, List.getElem_cons_zero, List.getElem_cons_succ]
  refine g_on (yi (t := 11) rfl rfl) ?_
  refine s_go (m_load_obj Try.underlying65 (hS := hS) (hv := set_sl (by assumption) _)) ?_
  try simp only [opv, n1, n2, n3, n4, Value.cells, List.getElem_toArray, List.getElem_cons_zero, List.getElem_cons_succ]
  refine g_on (yi (t := 11) rfl rfl) ?_
  refine s_go (s_len_sl Try.underlying65) ?_
  try simp only [opv, n1, n2, n3, n4, Value.cells]
  refine g_on (yi (t := 11) rfl rfl) ?_
  first | refine s_go (m_fieldAddr Try.underlying67 (hi := ti65)) ?_ | refine s_go (m_fieldAddr_rd Try.underlying67 (hi := ti65) (hS := hS)) ?_ | refine s_go (m_fieldAddr_vec Try.underlying67 (hi := ti65) (hS := hS)) ?_
  try simp only [opv, n1, n2, n3, n4, Value.cells, Nat.zero_add, Nat.add_zero, List.getElem_toArray, List.getElem_cons_zero, List.getElem_cons_succ]
  refine g_on (yi (t := 11) rfl rfl) ?_
  refine s_go (m_load_obj Try.underlying65 (hS := hS) (hv := set_sl (by assumption) _)) ?_
  try simp only [opv, n1, n2, n3, n4, Value.cells, List.getElem_toArray, List.getElem_cons_zero, List.getElem_cons_succ]
  refine g_on (yi (t := 11) rfl rfl) ?_
  refine s_go (s_len_sl Try.underlying65) ?_
  try simp only [opv, n1, n2, n3, n4, Value.cells]
  refine g_on (yi (t := 11) rfl rfl) ?_
  refine s_go (s_neq) ?_
  try simp only [opv, n1, n2, n3, n4, Value.cells]
  first | refine s_go (s_pick_t) ?_ | refine s_go (s_pick_f) ?_
  try simp only [opv, n1, n2, n3, n4, Value.cells]
  refine x_nil ?_
  refine hK3 _ _ ?_
  refine x_cond (ht := fun hc2 => ?_) (hf := fun hc2 => ?_)
  ·
   try simp only [decide_eq_true_eq, decide_eq_false_iff_not, Bool.not_eq_true', Bool.not_eq_false', Int.not_lt, Int.not_le, ne_eq, Decidable.not_not, bne_iff_ne, beq_iff_eq, not_true_eq_false, not_false_eq_true] at hc2
   try have hE : decide ((x, l) = (y, r)) = false := decide_eq_false (fun h => by rw [Prod.mk.injEq] at h; simp [h.2] at hc2)
   refine x_seq fun K5 hK5 => ?_
   refine x_region ?_
   refine s_go (s_assign) ?_
   try simp only [opv, n1, n2, n3, n4, Value.cells]
   refine x_nil ?_
   refine hK5 _ _ ?_
   refine x_ret ?_
   refine r_tmp rfl ?_
   exact ⟨by rw [hE]; rfl, hS.ext_of⟩
  ·
   try simp only [decide_eq_true_eq, decide_eq_false_iff_not, Bool.not_eq_true', Bool.not_eq_false', Int.not_lt, Int.not_le, ne_eq, Decidable.not_not, bne_iff_ne, beq_iff_eq, not_true_eq_false, not_false_eq_true] at hc2
   have hlr : l.length = r.length := by first | omega | (simp at hc2; omega)
   refine x_skip ?_
   refine hK2 _ _ ?_
   refine x_seq fun K6 hK6 => ?_
   refine x_seq fun K7 hK7 => ?_
   refine x_region ?_
   refine s_go (s_assign) ?_
   try simp only [opv, n1, n2, n3, n4, Value.cells]
   refine x_nil ?_
   refine hK7 _ _ ?_
   refine x_block ?_
   refine x_loop [4, 5, 20, 21, 22, 23, 24, 25, 26, 27, 28, 29, 30, 31, 32, 33, 34, 35, 36, 37] (fun m f w => ∃ k : Nat, k ≤ l.length ∧ m = l.length - k ∧ f 5 = .int .i64 (k : Int) ∧ l.take k = r.take k ∧ St NoB w0 w [.obj gy (.cells (SetC y (.slice B r.length d)) 67 (0, 0)), .obj gx (.cells (SetC x (.slice A l.length c)) 67 (0, 0)), .rd A 1 l.length (List.map (Value.int .u64) l), .rd B 1 r.length (List.map (Value.int .u64) r)]) (l.length) ?init1 (fun m1 f1 wl1 hI => ?_)
   case init1 =>
    try simp only [opv, n1, n2, n3, n4, Value.cells]
    exact ⟨0, by omega, rfl, rfl, rfl, hS⟩
   obtain ⟨k, hk, hm, h5, hab, hS⟩ := hI
   simp only [clob, List.foldl, n3, n4, h5]
   refine x_seq fun K8 hK8 => ?_
   refine x_seq fun K9 hK9 => ?_
   refine x_region ?_
   refine s_go (s_move) ?_
   try simp only [opv, n1, n2, n3, n4, Value.cells]
   first | refine s_go (m_fieldAddr Try.underlying67 (hi := ti65)) ?_ | refine s_go (m_fieldAddr_rd Try.underlying67 (hi := ti65) (hS := hS)) ?_ | refine s_go (m_fieldAddr_vec Try.underlying67 (hi := ti65) (hS := hS)) ?_
   try simp only [opv, n1, n2, n3, n4, Value.cells, Nat.zero_add, Nat.add_zero, List.getElem_toArray, List.getElem_cons_zero, List.getElem_cons_succ]
   refine s_go (m_load_obj Try.underlying65 (hS := hS) (hv := set_sl (by assumption) _)) ?_
   try simp only [opv, n1, n2, n3, n4, Value.cells, List.getElem_toArray, List.getElem_cons_zero, List.getElem_cons_succ]
   refine s_go (s_len_sl Try.underlying65) ?_
   try simp only [opv, n1, n2, n3, n4, Value.cells]
   refine s_go (s_lss) ?_
   try simp only [opv, n1, n2, n3, n4, Value.cells]
   refine x_nil ?_
   refine hK9 _ _ ?_
   refine x_cond (ht := fun hc3 => ?_) (hf := fun hc3 => ?_)
   ·
    try simp only [decide_eq_true_eq, decide_eq_false_iff_not, Bool.not_eq_true', Bool.not_eq_false', Int.not_lt, Int.not_le, ne_eq, Decidable.not_not, bne_iff_ne, beq_iff_eq, not_true_eq_false, not_false_eq_true] at hc3
    refine x_skip ?_
    refine hK8 _ _ ?_
    refine x_seq fun K10 hK10 => ?_
    refine x_block ?_
    refine x_seq fun K11 hK11 => ?_
    refine x_quiet (by kernel_rfl) (by kernel_rfl) hS ?_
    first | refine q_go (fun w hS => m_fieldAddr Try.underlying67 (hi := ti65)) ?_ | refine q_go (fun w hS => m_fieldAddr_rd Try.underlying67 (hi := ti65) (hS := hS)) ?_ | refine q_go (fun w hS => m_fieldAddr_vec Try.underlying67 (hi := ti65) (hS := hS)) ?_
    try simp only [opv, n1, n2, n3, n4, Value.cells, Nat.zero_add, Nat.add_zero, List.getElem_toArray, List.getElem_cons_zero, List.getElem_cons_succ]
    refine q_go (fun w hS => m_load_obj Try.underlying65 (hS := hS) (hv := set_sl (by assumption) _)) ?_
    try simp only [opv, n1, n2, n3, n4, Value.cells, List.getElem_toArray, List.getElem_cons_zero, List.getElem_cons_succ]
    refine q_go (fun w hS => s_move) ?_
    try simp only [opv, n1, n2, n3, n4, Value.cells]
    first | refine q_go (fun w hS => m_indexAddr_rd Try.underlying65 ti48 (hS := hS)) ?_ | refine q_go (fun w hS => m_indexAddr_vec Try.underlying65 ti48 (hS := hS)) ?_
    try simp only [opv, n1, n2, n3, n4, Value.cells, Nat.mul_one, Nat.zero_add, Int.toNat_natCast, Int.reduceToNat]
    first | refine q_go (fun w hS => m_load_obj Try.underlying48 (hS := hS)) ?_ | refine q_go (fun w hS => m_load_bx Try.underlying48 (hS := hS)) ?_ | refine q_go (fun w hS => m_load_rd Try.underlying48 (hS := hS)) ?_ | refine q_go (fun w hS => m_load_vec Try.underlying48 (hS := hS)) ?_
    try simp only [opv, n1, n2, n3, n4, Value.cells, List.getElem_toArray, List.getElem_cons_zero, List.getElem_cons_succ]
    first | refine q_go (fun w hS => m_fieldAddr Try.underlying67 (hi := ti65)) ?_ | refine q_go (fun w hS => m_fieldAddr_rd Try.underlying67 (hi := ti65) (hS := hS)) ?_ | refine q_go (fun w hS => m_fieldAddr_vec Try.underlying67 (hi := ti65) (hS := hS)) ?_
    try simp only [opv, n1, n2, n3, n4, Value.cells, Nat.zero_add, Nat.add_zero, List.getElem_toArray, List.getElem_cons_zero, List.getElem_cons_succ]
    refine q_go (fun w hS => m_load_obj Try.underlying65 (hS := hS) (hv := set_sl (by assumption) _)) ?_
    try simp only [opv, n1, n2, n3, n4, Value.cells, List.getElem_toArray, List.getElem_cons_zero, List.getElem_cons_succ]
    refine q_go (fun w hS => s_move) ?_
    try simp only [opv, n1, n2, n3, n4, Value.cells]
    first | refine q_go (fun w hS => m_indexAddr_rd Try.underlying65 ti48 (hS := hS)) ?_ | refine q_go (fun w hS => m_indexAddr_vec Try.underlying65 ti48 (hS := hS)) ?_
    try simp only [opv, n1, n2, n3, n4, Value.cells, Nat.mul_one, Nat.zero_add, Int.toNat_natCast, Int.reduceToNat]
    first | refine q_go (fun w hS => m_load_obj Try.underlying48 (hS := hS)) ?_ | refine q_go (fun w hS => m_load_bx Try.underlying48 (hS := hS)) ?_ | refine q_go (fun w hS => m_load_rd Try.underlying48 (hS := hS)) ?_ | refine q_go (fun w hS => m_load_vec Try.underlying48 (hS := hS)) ?_
    try simp only [opv, n1, n2, n3, n4, Value.cells, List.getElem_toArray, List.getElem_cons_zero, List.getElem_cons_succ]
    refine q_go (fun w hS => s_neq) ?_
    try simp only [opv, n1, n2, n3, n4, Value.cells]
    clear hS
    refine q_nil fun w3 hS => ?_
    refine hK11 _ _ ?_
    refine x_cond (ht := fun hc4 => ?_) (hf := fun hc4 => ?_)
    ·
     try simp only [decide_eq_true_eq, decide_eq_false_iff_not, Bool.not_eq_true', Bool.not_eq_false', Int.not_lt, Int.not_le, ne_eq, Decidable.not_not, bne_iff_ne, beq_iff_eq, not_true_eq_false, not_false_eq_true] at hc4
     have hE : decide ((x, l) = (y, r)) = false := decide_eq_false (fun h => by have h := (Prod.mk.inj h).2; subst h; exact hc4 rfl)
     refine x_seq fun K12 hK12 => ?_
     refine x_region ?_
     refine s_go (s_assign) ?_
     try simp only [opv, n1, n2, n3, n4, Value.cells]
     refine x_nil ?_
     refine hK12 _ _ ?_
     refine x_ret ?_
     refine r_tmp rfl ?_
     exact ⟨by rw [hE]; rfl, hS.ext_of⟩
    ·
     try simp only [decide_eq_true_eq, decide_eq_false_iff_not, Bool.not_eq_true', Bool.not_eq_false', Int.not_lt, Int.not_le, ne_eq, Decidable.not_not, bne_iff_ne, beq_iff_eq, not_true_eq_false, not_false_eq_true] at hc4
     have hxy2 : l.getD k 0 = r.getD k 0 := hc4
     refine x_skip ?_
     refine hK10 _ _ ?_
     refine x_region ?_
     refine s_go (s_move) ?_
     try simp only [opv, n1, n2, n3, n4, Value.cells]
     refine s_go (s_add (hc := by first | exact wr_i64 (by omega) (by omega) | rfl)) ?_
     try simp only [opv, n1, n2, n3, n4, Value.cells]
     refine s_go (s_assign) ?_
     try simp only [opv, n1, n2, n3, n4, Value.cells]
     refine x_nil ?_
     refine loop_back (m' := l.length - (k + 1)) (by simp only [clob, List.foldl, n1, n2, n3, n4]) ?_ ?_
     · try simp only [opv, n1, n2, n3, n4, Value.cells]
       exact ⟨k + 1, by omega, by omega, by rfl, by rw [take_succ_getD (by omega), take_succ_getD (by omega), hab, hxy2], hS⟩
     · omega
   ·
    try simp only [decide_eq_true_eq, decide_eq_false_iff_not, Bool.not_eq_true', Bool.not_eq_false', Int.not_lt, Int.not_le, ne_eq, Decidable.not_not, bne_iff_ne, beq_iff_eq, not_true_eq_false, not_false_eq_true] at hc3
    obtain rfl : k = l.length := by omega
    have heq : l = r := by rw [List.take_of_length_le (Nat.le_refl _), hlr, List.take_of_length_le (Nat.le_refl _)] at hab; exact hab
    have hE : decide ((x, l) = (y, r)) = true := decide_eq_true (by rw [hxy, heq])
    refine x_exit (look_here ?_)
    refine hK6 _ _ ?_
    refine x_seq fun K13 hK13 => ?_
    refine x_region ?_
    refine s_go (s_assign) ?_
    try simp only [opv, n1, n2, n3, n4, Value.cells]
    refine x_nil ?_
    refine hK13 _ _ ?_
    refine x_ret ?_
    refine r_tmp rfl ?_
    exact ⟨by rw [hE]; rfl, hS.ext_of⟩
end Go.Proofs.Ytffmanidnlbjjaa
set_option linter.unusedSimpArgs false
set_option linter.unusedVariables false
set_option maxHeartbeats 2000000
set_option maxRecDepth 100000
namespace Go.Proofs.Ytffmanidnlbjjaa
open Go.RowKit

/-- the first of two rows, one behind the other -/
def catK (a b : List Int) (k : Nat) : List Int := (([a, b] : List (List Int)).take k).flatten
theorem cat_two (a b : List Int) : catK a b 2 = a ++ b := by simp [catK]
theorem cat_len (a b : List Int) (k : Nat) : (catK a b k).length ≤ a.length + b.length := by
  match k with
  | 0 => simp [catK]
  | 1 => simp [catK]
  | k + 2 => simp [catK]
theorem cat_at {S : Nat → Prop} {w0 w : World} {L : List Res} {A B : Option Addr} {c d : Nat} {a b : List Int} {k : Nat} (hk : k < 2) (hS : St S w0 w L) (ha : Has L (.rd A 1 a.length (List.map (Value.int .u64) a))) (hb : Has L (.rd B 1 b.length (List.map (Value.int .u64) b))) :
    ∃ (X : Option Addr) (xc : Nat) (xs : List Int), [Value.slice A a.length c, Value.slice B b.length d][k]? = some (.slice X xs.length xc) ∧ catK a b (k + 1) = catK a b k ++ xs ∧ St S w0 w (.rd X 1 xs.length (List.map (Value.int .u64) xs) :: L) := by
  rcases (by omega : k = 0 ∨ k = 1) with rfl | rfl
  · exact ⟨A, c, a, rfl, by simp [catK], hS.rd_dup ha⟩
  · exact ⟨B, d, b, rfl, by simp [catK], hS.rd_dup hb⟩

theorem c_slGrow (n : Nat) (hn : n ≤ 8000000000)  (w0 : World) :
    CallR Try.prog 102 #[.slice none 0 0, .int .i64 (n : Int)] w0 fun v w' => ∃ (D : Option Addr) (e : Nat), v = .slice D 0 e ∧ St NoB w0 w' [.vec D e 48 1 0 []] := by
 have hS : St NoB w0 w0 [] := St.start w0
 refine c_enter (l := [.slice none 0 0, .int .i64 (n : Int), undef, undef, undef, undef, undef, undef, undef, undef, undef, undef, undef, undef, undef, undef, undef, undef, undef, undef, undef, undef, undef, undef, undef, undef, undef]) Try.func102 rfl (by simp only [Try.ntmps102, List.size_toArray, List.length_cons, List.length_nil, Nat.reduceAdd, Nat.reduceSub, Array.replicate_succ, Array.replicate_zero, List.push_toArray, List.append_toArray, List.nil_append, List.cons_append]) ?_
 refine x_seq fun K1 hK1 => ?_
 refine x_region ?_
 refine s_go (s_assign) ?_
 try simp only [opv, n1, n2, n3, n4, Value.cells]
 refine x_nil ?_
 refine hK1 _ _ ?_
 refine x_seq fun K2 hK2 => ?_
 refine x_seq fun K3 hK3 => ?_
 refine x_region ?_
 refine s_go (s_move) ?_
 try simp only [opv, n1, n2, n3, n4, Value.cells]
 refine s_go (s_lss) ?_
 try simp only [opv, n1, n2, n3, n4, Value.cells]
 refine x_nil ?_
 refine hK3 _ _ ?_
 refine x_cond (ht := fun hc1 => ?_) (hf := fun hc1 => ?_)
 ·
  try simp only [decide_eq_true_eq, decide_eq_false_iff_not, Bool.not_eq_true', Bool.not_eq_false', Int.not_lt, Int.not_le, ne_eq, Decidable.not_not, bne_iff_ne, beq_iff_eq, not_true_eq_false, not_false_eq_true] at hc1
  exfalso; omega
 ·
  try simp only [decide_eq_true_eq, decide_eq_false_iff_not, Bool.not_eq_true', Bool.not_eq_false', Int.not_lt, Int.not_le, ne_eq, Decidable.not_not, bne_iff_ne, beq_iff_eq, not_true_eq_false, not_false_eq_true] at hc1
  refine x_skip ?_
  refine hK2 _ _ ?_
  refine x_seq fun K4 hK4 => ?_
  refine x_seq fun K5 hK5 => ?_
  refine x_region ?_
  refine s_go (s_move) ?_
  try simp only [opv, n1, n2, n3, n4, Value.cells]
  refine s_go (s_move) ?_
  try simp only [opv, n1, n2, n3, n4, Value.cells]
  refine s_go (s_cap Try.underlying65) ?_
  try simp only [opv, n1, n2, n3, n4, Value.cells]
  refine s_go (s_move) ?_
  try simp only [opv, n1, n2, n3, n4, Value.cells]
  refine s_go (s_len_sl Try.underlying65) ?_
  try simp only [opv, n1, n2, n3, n4, Value.cells]
  refine s_go (s_sub (hc := by first | exact wr_i64 (by omega) (by omega) | rfl)) ?_
  try simp only [opv, n1, n2, n3, n4, Value.cells]
  refine s_go (s_sub (hc := by first | exact wr_i64 (by omega) (by omega) | rfl)) ?_
  try simp only [opv, n1, n2, n3, n4, Value.cells]
  simp only [Int.sub_self, Int.sub_zero]
  refine s_go (s_assign) ?_
  try simp only [opv, n1, n2, n3, n4, Value.cells]
  refine x_nil ?_
  refine hK5 _ _ ?_
  refine x_seq fun K6 hK6 => ?_
  refine x_region ?_
  refine s_go (s_move) ?_
  try simp only [opv, n1, n2, n3, n4, Value.cells]
  refine s_go (s_gtr) ?_
  try simp only [opv, n1, n2, n3, n4, Value.cells]
  refine x_nil ?_
  refine hK6 _ _ ?_
  refine x_cond (ht := fun hc2 => ?_) (hf := fun hc2 => ?_)
  ·
   try simp only [decide_eq_true_eq, decide_eq_false_iff_not, Bool.not_eq_true', Bool.not_eq_false', Int.not_lt, Int.not_le, ne_eq, Decidable.not_not, bne_iff_ne, beq_iff_eq, not_true_eq_false, not_false_eq_true] at hc2
   have hn0 : 0 < n := by omega
   refine x_region ?_
   refine s_go (s_move) ?_
   try simp only [opv, n1, n2, n3, n4, Value.cells]
   refine s_go (s_move) ?_
   try simp only [opv, n1, n2, n3, n4, Value.cells]
   refine s_go (s_cap Try.underlying65) ?_
   try simp only [opv, n1, n2, n3, n4, Value.cells]
   refine s_go (m_slice_lo0 (hi := 0) Try.underlying65 ti48 (hhi := ⟨_, rfl⟩)) ?_
   try simp only [opv, n1, n2, n3, n4, Value.cells]
   refine s_go (s_move) ?_
   try simp only [opv, n1, n2, n3, n4, Value.cells]
   refine m_append_zero Try.underlying65 Try.underlying3 ti48 (hS := hS) (h := fun w1 A1 C1 hc1 hS => ?_)
   try simp only [← List.map_append, ← List.map_drop, ← List.map_take, Nat.mul_one, Nat.zero_mul, Nat.sub_zero, List.drop_zero, List.nil_append, Nat.zero_add] at hS ⊢
   try simp only [opv, n1, n2, n3, n4, Value.cells, Array.toArray_toList] at hS ⊢
   refine s_go (s_move) ?_
   try simp only [opv, n1, n2, n3, n4, Value.cells]
   refine s_go (s_len_sl Try.underlying65) ?_
   try simp only [opv, n1, n2, n3, n4, Value.cells]
   refine s_go (m_slice_lo0 (hi := 0) Try.underlying65 ti48 (hhi := ⟨_, rfl⟩)) ?_
   try simp only [opv, n1, n2, n3, n4, Value.cells]
   refine s_go (s_assign) ?_
   try simp only [opv, n1, n2, n3, n4, Value.cells]
   refine x_nil ?_
   refine hK4 _ _ ?_
   refine x_seq fun K7 hK7 => ?_
   refine x_region ?_
   refine s_go (s_move) ?_
   try simp only [opv, n1, n2, n3, n4, Value.cells]
   refine s_go (s_assign) ?_
   try simp only [opv, n1, n2, n3, n4, Value.cells]
   refine x_nil ?_
   refine hK7 _ _ ?_
   refine x_ret ?_
   refine r_tmp rfl ?_
   exact ⟨_, _, rfl, hS.sel (by repeat (first | exact Sel.nil | (refine Sel.cons (by repeat (first | exact Del.head | apply Del.tail)) ?_)))⟩
  ·
   try simp only [decide_eq_true_eq, decide_eq_false_iff_not, Bool.not_eq_true', Bool.not_eq_false', Int.not_lt, Int.not_le, ne_eq, Decidable.not_not, bne_iff_ne, beq_iff_eq, not_true_eq_false, not_false_eq_true] at hc2
   refine x_skip ?_
   refine hK4 _ _ ?_
   refine x_seq fun K8 hK8 => ?_
   refine x_region ?_
   refine s_go (s_move) ?_
   try simp only [opv, n1, n2, n3, n4, Value.cells]
   refine s_go (s_assign) ?_
   try simp only [opv, n1, n2, n3, n4, Value.cells]
   refine x_nil ?_
   refine hK8 _ _ ?_
   refine x_ret ?_
   refine r_tmp rfl ?_
   replace hS := hS.nil_vec 48 1
   exact ⟨none, 0, rfl, hS.sel (by repeat (first | exact Sel.nil | (refine Sel.cons (by repeat (first | exact Del.head | apply Del.tail)) ?_)))⟩
theorem c_slConcat (w0 : World) (G : Option Addr) (gc : Nat) (A : Option Addr) (c : Nat) (a : List Int) (hr : Rd w0 A 1 a.length (List.map (Value.int .u64) a)) (hu : U64s a) (B : Option Addr) (d : Nat) (b : List Int) (hr2 : Rd w0 B 1 b.length (List.map (Value.int .u64) b)) (hu2 : U64s b) (hG : Rd w0 G 1 2 [Value.slice A a.length c, Value.slice B b.length d]) (hn : a.length + b.length ≤ 4000000000)  :
    CallR Try.prog 78 #[.slice G 2 gc] w0 fun v w' => ∃ (D : Option Addr) (e : Nat), v = .slice D (a ++ b).length e ∧ St NoB w0 w' [.vec D e 48 1 (a ++ b).length (List.map (Value.int .u64) (a ++ b))] := by
 have hS := St.rd3 (S := NoB) hG hr hr2
 have hcl := cat_len a b
 refine c_enter (l := [.slice G 2 gc, undef, undef, undef, undef, undef, undef, undef, undef, undef, undef, undef, undef, undef, undef, undef, undef, undef, undef, undef, undef, undef, undef, undef, undef, undef, undef, undef, undef, undef, undef, undef, undef, undef, undef, undef]) Try.func78 rfl (by simp only [Try.ntmps78, List.size_toArray, List.length_cons, List.length_nil, Nat.reduceAdd, Nat.reduceSub, Array.replicate_succ, Array.replicate_zero, List.push_toArray, List.append_toArray, List.nil_append, List.cons_append]) ?_
 refine x_seq fun K1 hK1 => ?_
 refine x_region ?_
 refine s_go (s_assign) ?_
 try simp only [opv, n1, n2, n3, n4, Value.cells]
 refine x_nil ?_
 refine hK1 _ _ ?_
 refine x_seq fun K2 hK2 => ?_
 refine x_region ?_
 refine s_go (s_assign) ?_
 try simp only [opv, n1, n2, n3, n4, Value.cells]
 refine x_nil ?_
 refine hK2 _ _ ?_
 refine x_seq fun K3 hK3 => ?_
 refine x_seq fun K4 hK4 => ?_
 refine x_region ?_
 refine s_go (s_move) ?_
 try simp only [opv, n1, n2, n3, n4, Value.cells]
 refine s_go (s_len_sl Try.underlying139) ?_
 try simp only [opv, n1, n2, n3, n4, Value.cells]
 refine s_go (s_move) ?_
 try simp only [opv, n1, n2, n3, n4, Value.cells]
 refine x_nil ?_
 refine hK4 _ _ ?_
 refine x_block ?_
 refine x_loop [3, 5, 11, 12, 13, 14, 15, 16, 17, 18, 19, 20, 21, 22] (fun m f w => ∃ k : Nat, k ≤ 2 ∧ m = 2 - k ∧ f 11 = .int .i64 (k : Int) ∧ f 3 = .int .i64 ((catK a b k).length : Int) ∧ St NoB w0 w [.rd G 1 2 [Value.slice A a.length c, Value.slice B b.length d], .rd A 1 a.length (List.map (Value.int .u64) a), .rd B 1 b.length (List.map (Value.int .u64) b)]) (2) ?init1 (fun m1 f1 wl1 hI => ?_)
 case init1 =>
  try simp only [opv, n1, n2, n3, n4, Value.cells]
  exact ⟨0, by omega, rfl, rfl, rfl, hS⟩
 obtain ⟨k, hk, hm, h11, h3, hS⟩ := hI
 simp only [clob, List.foldl, n3, n4, h11, h3]
 have hck := hcl k
 have hck1 := hcl (k + 1)
 refine x_seq fun K5 hK5 => ?_
 refine x_region ?_
 refine s_go (s_lss) ?_
 try simp only [opv, n1, n2, n3, n4, Value.cells]
 refine x_nil ?_
 refine hK5 _ _ ?_
 refine x_seq fun K6 hK6 => ?_
 refine x_cond (ht := fun hc1 => ?_) (hf := fun hc1 => ?_)
 ·
  try simp only [decide_eq_true_eq, decide_eq_false_iff_not, Bool.not_eq_true', Bool.not_eq_false', Int.not_lt, Int.not_le, ne_eq, Decidable.not_not, bne_iff_ne, beq_iff_eq, not_true_eq_false, not_false_eq_true] at hc1
  obtain ⟨X, xc, xs, hX, hcs, hS2⟩ := cat_at (c := c) (d := d) (a := a) (b := b) (A := A) (B := B) (k := k) (by omega) hS (by repeat (first | exact Has.head | apply Has.tail)) (by repeat (first | exact Has.head | apply Has.tail))
  have hxl : (catK a b k).length + xs.length ≤ 4000000000 := by have := congrArg List.length hcs; rw [List.length_append] at this; omega
  refine x_skip ?_
  refine hK6 _ _ ?_
  refine x_seq fun K7 hK7 => ?_
  refine x_block ?_
  refine x_seq fun K8 hK8 => ?_
  refine x_region ?_
  first | refine s_go (m_indexAddr_rd Try.underlying139 ti65 (hS := hS)) ?_ | refine s_go (m_indexAddr_vec Try.underlying139 ti65 (hS := hS)) ?_
  try simp only [opv, n1, n2, n3, n4, Value.cells, Nat.mul_one, Nat.zero_add, Int.toNat_natCast, Int.reduceToNat]
  first | refine s_go (m_load_obj Try.underlying65 (hS := hS) (hv := hX)) ?_ | refine s_go (m_load_bx Try.underlying65 (hS := hS) (hv := hX)) ?_ | refine s_go (m_load_rd Try.underlying65 (hS := hS) (hv := hX)) ?_ | refine s_go (m_load_vec Try.underlying65 (hS := hS) (hv := hX)) ?_
  try simp only [opv, n1, n2, n3, n4, Value.cells, List.getElem_toArray, List.getElem_cons_zero, List.getElem_cons_succ]
  refine s_go (s_assign) ?_
  try simp only [opv, n1, n2, n3, n4, Value.cells]
  refine x_nil ?_
  refine hK8 _ _ ?_
  refine x_seq fun K9 hK9 => ?_
  refine x_region ?_
  refine s_go (s_move) ?_
  try simp only [opv, n1, n2, n3, n4, Value.cells]
  refine s_go (s_move) ?_
  try simp only [opv, n1, n2, n3, n4, Value.cells]
  refine s_go (s_len_sl Try.underlying65) ?_
  try simp only [opv, n1, n2, n3, n4, Value.cells]
  refine s_go (s_add (hc := by first | exact wr_i64 (by omega) (by omega) | rfl)) ?_
  try simp only [opv, n1, n2, n3, n4, Value.cells]
  refine s_go (s_assign) ?_
  try simp only [opv, n1, n2, n3, n4, Value.cells]
  refine x_nil ?_
  refine hK9 _ _ ?_
  refine x_seq fun K10 hK10 => ?_
  refine x_region ?_
  refine s_go (s_move) ?_
  try simp only [opv, n1, n2, n3, n4, Value.cells]
  refine s_go (s_lss) ?_
  try simp only [opv, n1, n2, n3, n4, Value.cells]
  refine x_nil ?_
  refine hK10 _ _ ?_
  refine x_cond (ht := fun hc2 => ?_) (hf := fun hc2 => ?_)
  ·
   try simp only [decide_eq_true_eq, decide_eq_false_iff_not, Bool.not_eq_true', Bool.not_eq_false', Int.not_lt, Int.not_le, ne_eq, Decidable.not_not, bne_iff_ne, beq_iff_eq, not_true_eq_false, not_false_eq_true] at hc2
   exfalso; omega
  ·
   try simp only [decide_eq_true_eq, decide_eq_false_iff_not, Bool.not_eq_true', Bool.not_eq_false', Int.not_lt, Int.not_le, ne_eq, Decidable.not_not, bne_iff_ne, beq_iff_eq, not_true_eq_false, not_false_eq_true] at hc2
   refine x_skip ?_
   refine hK7 _ _ ?_
   refine x_region ?_
   refine s_go (s_add (hc := by first | exact wr_i64 (by omega) (by omega) | rfl)) ?_
   try simp only [opv, n1, n2, n3, n4, Value.cells]
   refine s_go (s_move) ?_
   try simp only [opv, n1, n2, n3, n4, Value.cells]
   refine x_nil ?_
   refine loop_back (m' := 2 - (k + 1)) (by simp only [clob, List.foldl, n1, n2, n3, n4]) ?_ ?_
   · try simp only [opv, n1, n2, n3, n4, Value.cells]
     exact ⟨k + 1, by omega, by omega, by rfl, congrArg (Value.int .i64) (by rw [hcs, List.length_append]; omega), hS.sel (by repeat (first | exact Sel.nil | (refine Sel.cons (by repeat (first | exact Del.head | apply Del.tail)) ?_)))⟩
   · omega
 ·
  try simp only [decide_eq_true_eq, decide_eq_false_iff_not, Bool.not_eq_true', Bool.not_eq_false', Int.not_lt, Int.not_le, ne_eq, Decidable.not_not, bne_iff_ne, beq_iff_eq, not_true_eq_false, not_false_eq_true] at hc1
  obtain rfl : k = 2 := by omega
  rw [cat_two]
  have habl : (a ++ b).length = a.length + b.length := List.length_append ..
  refine x_exit (look_here ?_)
  refine hK3 _ _ ?_
  refine x_seq fun K11 hK11 => ?_
  refine x_region ?_
  refine s_go (s_move) ?_
  try simp only [opv, n1, n2, n3, n4, Value.cells]
  refine s_call en102 ?_
  try simp only [opv, n1, n2, n3, n4, Value.cells, List.map_toArray, List.map_cons, List.map_nil, List.append_toArray, List.cons_append, List.nil_append, Array.append_empty]
  refine CallR.mono (c_slGrow (a ++ b).length (by omega) _) ?_
  rintro _ w1 ⟨D, e, rfl, hC1⟩
  replace hS := hS.call hC1
  simp only [List.cons_append, List.nil_append] at hS
  try simp only [opv, n1, n2, n3, n4, Value.cells]
  refine s_go (s_assign) ?_
  try simp only [opv, n1, n2, n3, n4, Value.cells]
  refine x_nil ?_
  refine hK11 _ _ ?_
  refine x_seq fun K12 hK12 => ?_
  refine x_seq fun K13 hK13 => ?_
  refine x_region ?_
  refine s_go (s_move) ?_
  try simp only [opv, n1, n2, n3, n4, Value.cells]
  refine s_go (s_len_sl Try.underlying139) ?_
  try simp only [opv, n1, n2, n3, n4, Value.cells]
  refine s_go (s_move) ?_
  try simp only [opv, n1, n2, n3, n4, Value.cells]
  refine x_nil ?_
  refine hK13 _ _ ?_
  refine x_block ?_
  refine x_loop [6, 8, 27, 28, 29, 30, 31, 32, 33, 34] (fun m f w => ∃ (k : Nat) (D : Option Addr) (e : Nat), k ≤ 2 ∧ m = 2 - k ∧ f 27 = .int .i64 (k : Int) ∧ f 6 = .slice D (catK a b k).length e ∧ St NoB w0 w [.vec D e 48 1 (catK a b k).length (List.map (Value.int .u64) (catK a b k)), .rd G 1 2 [Value.slice A a.length c, Value.slice B b.length d], .rd A 1 a.length (List.map (Value.int .u64) a), .rd B 1 b.length (List.map (Value.int .u64) b)]) (2) ?init2 (fun m2 f2 wl2 hI => ?_)
  case init2 =>
   try simp only [opv, n1, n2, n3, n4, Value.cells]
   exact ⟨0, D, e, by omega, rfl, rfl, rfl, hS.sel (by repeat (first | exact Sel.nil | (refine Sel.cons (by repeat (first | exact Del.head | apply Del.tail)) ?_)))⟩
  obtain ⟨k, D, e, hk, hm, h27, h6, hS⟩ := hI
  simp only [clob, List.foldl, n3, n4, h27, h6]
  have hck := hcl k
  have hck1 := hcl (k + 1)
  refine x_seq fun K14 hK14 => ?_
  refine x_region ?_
  refine s_go (s_lss) ?_
  try simp only [opv, n1, n2, n3, n4, Value.cells]
  refine x_nil ?_
  refine hK14 _ _ ?_
  refine x_seq fun K15 hK15 => ?_
  refine x_cond (ht := fun hc3 => ?_) (hf := fun hc3 => ?_)
  ·
   try simp only [decide_eq_true_eq, decide_eq_false_iff_not, Bool.not_eq_true', Bool.not_eq_false', Int.not_lt, Int.not_le, ne_eq, Decidable.not_not, bne_iff_ne, beq_iff_eq, not_true_eq_false, not_false_eq_true] at hc3
   obtain ⟨X, xc, xs, hX, hcs, hS2⟩ := cat_at (c := c) (d := d) (a := a) (b := b) (A := A) (B := B) (k := k) (by omega) hS (by repeat (first | exact Has.head | apply Has.tail)) (by repeat (first | exact Has.head | apply Has.tail))
   clear hS
   have hS := hS2
   have hxl : (catK a b k).length + xs.length ≤ 4000000000 := by have := congrArg List.length hcs; rw [List.length_append] at this; omega
   refine x_skip ?_
   refine hK15 _ _ ?_
   refine x_seq fun K16 hK16 => ?_
   refine x_block ?_
   refine x_seq fun K17 hK17 => ?_
   refine x_region ?_
   first | refine s_go (m_indexAddr_rd Try.underlying139 ti65 (hS := hS)) ?_ | refine s_go (m_indexAddr_vec Try.underlying139 ti65 (hS := hS)) ?_
   try simp only [opv, n1, n2, n3, n4, Value.cells, Nat.mul_one, Nat.zero_add, Int.toNat_natCast, Int.reduceToNat]
   refine s_go (m_load_rd Try.underlying65 (hS := hS) (hv := hX)) ?_
   try simp only [opv, n1, n2, n3, n4, Value.cells, List.getElem_toArray, List.getElem_cons_zero, List.getElem_cons_succ]
   refine s_go (s_assign) ?_
   try simp only [opv, n1, n2, n3, n4, Value.cells]
   refine x_nil ?_
   refine hK17 _ _ ?_
   refine x_region ?_
   refine s_go (s_move) ?_
   try simp only [opv, n1, n2, n3, n4, Value.cells]
   refine s_go (s_move) ?_
   try simp only [opv, n1, n2, n3, n4, Value.cells]
   refine m_append Try.underlying65 ti48 (hS := hS) (news := List.map (Value.int .u64) xs) (h := fun w2 A2 C2 hS => ?_)
   try simp only [← List.map_append, ← List.map_drop, ← List.map_take, Nat.mul_one, Nat.zero_mul, Nat.sub_zero, List.drop_zero, List.nil_append, Nat.zero_add] at hS ⊢
   try simp only [opv, n1, n2, n3, n4, Value.cells, Array.toArray_toList] at hS ⊢
   refine s_go (s_assign) ?_
   try simp only [opv, n1, n2, n3, n4, Value.cells]
   refine x_nil ?_
   refine hK16 _ _ ?_
   refine x_region ?_
   refine s_go (s_add (hc := by first | exact wr_i64 (by omega) (by omega) | rfl)) ?_
   try simp only [opv, n1, n2, n3, n4, Value.cells]
   refine s_go (s_move) ?_
   try simp only [opv, n1, n2, n3, n4, Value.cells]
   refine x_nil ?_
   refine loop_back (m' := 2 - (k + 1)) (by simp only [clob, List.foldl, n1, n2, n3, n4]) ?_ ?_
   · try simp only [opv, n1, n2, n3, n4, Value.cells]
     rw [← List.length_append, ← hcs] at hS
     exact ⟨k + 1, _, _, by omega, by omega, by rfl, by rw [hcs, List.length_append], hS.sel (by repeat (first | exact Sel.nil | (refine Sel.cons (by repeat (first | exact Del.head | apply Del.tail)) ?_)))⟩
   · omega
  ·
   try simp only [decide_eq_true_eq, decide_eq_false_iff_not, Bool.not_eq_true', Bool.not_eq_false', Int.not_lt, Int.not_le, ne_eq, Decidable.not_not, bne_iff_ne, beq_iff_eq, not_true_eq_false, not_false_eq_true] at hc3
   obtain rfl : k = 2 := by omega
   rw [cat_two] at hS ⊢
   refine x_exit (look_here ?_)
   refine hK12 _ _ ?_
   refine x_seq fun K18 hK18 => ?_
   refine x_region ?_
   refine s_go (s_move) ?_
   try simp only [opv, n1, n2, n3, n4, Value.cells]
   refine s_go (s_assign) ?_
   try simp only [opv, n1, n2, n3, n4, Value.cells]
   refine x_nil ?_
   refine hK18 _ _ ?_
   refine x_ret ?_
   refine r_tmp rfl ?_
   exact ⟨_, _, rfl, hS.sel (by repeat (first | exact Sel.nil | (refine Sel.cons (by repeat (first | exact Del.head | apply Del.tail)) ?_)))⟩
end Go.Proofs.Ytffmanidnlbjjaa
set_option linter.unusedSimpArgs false
set_option linter.unusedVariables false
set_option maxHeartbeats 3000000
set_option maxRecDepth 100000
namespace Go.Proofs.Ytffmanidnlbjjaa
open Go.RowKit

def cntI : List Int → List (Int × Value)
  | [] => []
  | x :: l => mput x (.int .i64 ((l.count x : Int) + 1)) (cntI l)
theorem cntI_get (x : Int) : ∀ (l : List Int), mget x (cntI l) = if l.count x = 0 then none else some (.int .i64 (l.count x : Int))
  | [] => rfl
  | y :: l => by
    rw [cntI, mget_put, List.count_cons]
    by_cases e : x = y
    · subst e; simp
    · have e' : ¬ (y == x) = true := by simpa using fun h => e h.symm
      rw [if_neg e, if_neg e', Nat.add_zero]; exact cntI_get x l
theorem cntI_getD (x : Int) (l : List Int) : (mget x (cntI l)).getD (.int .i64 0) = .int .i64 (l.count x : Int) := by
  rw [cntI_get]; split
  · next h => rw [h]; rfl
  · rfl
theorem cntI_snoc (ds : List Int) (d : Int) : cntI (ds ++ [d]).reverse = mput d (.int .i64 ((ds.count d : Int) + 1)) (cntI ds.reverse) := by
  rw [List.reverse_append, ← List.count_reverse (l := ds)]; rfl
theorem step_sub (p : List Int × List Int) (d : Int) : ∀ x ∈ (stepD p d).2, x ∈ p.2 ∨ x = d := fun x hx => by
  unfold stepD at hx
  split at hx
  · exact .inl hx
  · split at hx
    · exact .inl hx
    · rcases List.mem_append.1 hx with h | h
      · exact .inl h
      · exact .inr (by simpa using h)
theorem fold_sub : ∀ (ds : List Int) (p : List Int × List Int), ∀ x ∈ (ds.foldl stepD p).2, x ∈ p.2 ∨ x ∈ ds
  | [], p, x, hx => .inl hx
  | d :: ds, p, x, hx => by
    rcases fold_sub ds (stepD p d) x hx with h | h
    · rcases step_sub p d x h with h | rfl
      · exact .inl h
      · exact .inr (by simp)
    · exact .inr (by simp [h])
theorem step_len (p : List Int × List Int) (d : Int) : (stepD p d).2.length ≤ p.2.length + 1 := by
  unfold stepD; split
  · omega
  · split <;> simp
theorem fold_len : ∀ (ds : List Int) (p : List Int × List Int), (ds.foldl stepD p).2.length ≤ p.2.length + ds.length
  | [], p => Nat.le_refl _
  | d :: ds, p => by
    have h := fold_len ds (stepD p d)
    have h2 := step_len p d
    rw [List.foldl_cons, List.length_cons]; omega
theorem add_loop {v ds : List Int} {d : Int} (hv : VOk v) (hm : ∀ x ∈ ds, MayD x) (hs : ds.Pairwise (· ≤ ·)) :
    ((d ∈ ds ∨ d % 4294967296 ≤ flo (ds.foldl stepD (v, [])).1 d) → MayD d → (ds ++ [d]).foldl stepD (v, []) = ds.foldl stepD (v, [])) ∧
    (¬ d ∈ ds → ¬ d % 4294967296 ≤ flo (ds.foldl stepD (v, [])).1 d → d % 4294967296 = flo (ds.foldl stepD (v, [])).1 d + 1 → (ds ++ [d]).foldl stepD (v, []) = ((ds.foldl stepD (v, [])).1.set (dR d) (d % 4294967296), (ds.foldl stepD (v, [])).2)) ∧
    (¬ d ∈ ds → ¬ d % 4294967296 ≤ flo (ds.foldl stepD (v, [])).1 d → ¬ d % 4294967296 = flo (ds.foldl stepD (v, [])).1 d + 1 → (ds ++ [d]).foldl stepD (v, []) = ((ds.foldl stepD (v, [])).1, (ds.foldl stepD (v, [])).2 ++ [d])) := by
  obtain ⟨h1, h2⟩ := fold_ns (ds := ds) (ns_nil hv) hm hs (fun c hc => by cases hc)
  have hsub := fold_sub ds (v, [])
  generalize hp : ds.foldl stepD (v, []) = p at *
  have e : (ds ++ [d]).foldl stepD (v, []) = stepD p d := by rw [List.foldl_append, hp]; rfl
  have hnd : ¬ d ∈ ds → ¬ d ∈ p.2 := fun h hd => by
    rcases hsub d hd with h3 | h3
    · cases h3
    · exact h h3
  rw [e]
  refine ⟨fun h hd => ?_, fun h h3 h4 => ?_, fun h h3 h4 => ?_⟩
  · have : d % 4294967296 ≤ flo p.1 d ∨ d ∈ p.2 := by
      rcases h with h | h
      · exact ((h2 d).2 (.inr h)).2
      · exact .inl h
    rw [stepD, if_pos this]
  · rw [stepD, if_neg (fun q => q.elim h3 (hnd h)), if_pos h4]
  · rw [stepD, if_neg (fun q => q.elim h3 (hnd h)), if_neg h4]
theorem mayF_take {l : List Int} {k : Nat} (hk : k < l.length) : (MayD (l.getD k 0) → mayF (l.take (k + 1)) = mayF (l.take k) ++ [l.getD k 0]) ∧ (¬ MayD (l.getD k 0) → mayF (l.take (k + 1)) = mayF (l.take k)) := by
  rw [List.take_succ_eq_append_getElem hk, ← getD_ltz hk, mayF, List.filter_append]
  refine ⟨fun h => ?_, fun h => ?_⟩
  · rw [List.filter_cons_of_pos (by simpa using h)]; rfl
  · rw [List.filter_cons_of_neg (by simpa using h)]; simp [mayF]
theorem mayF_len (l : List Int) : (mayF l).length ≤ l.length := List.length_filter_le _ _
theorem perm_snoc {hl2 hl m : List Int} {x : Int} (h1 : hl2.Perm (hl ++ [x])) (h2 : hl.Perm m) : hl2.Perm (m ++ [x]) := h1.trans (h2.append_right _)
theorem pop_perm {hl hl2 ds m : List Int} {d : Int} (h1 : hl.Perm (d :: hl2)) (h2 : (hl ++ ds).Perm m) : (hl2 ++ (ds ++ [d])).Perm m := by
  refine List.Perm.trans ?_ h2
  refine List.Perm.trans ?_ (h1.append_right ds).symm
  rw [← List.append_assoc]
  exact List.perm_append_comm
theorem fold_vok : ∀ {ds : List Int} {p : List Int × List Int}, VOk p.1 → (∀ d ∈ ds, MayD d) → VOk (ds.foldl stepD p).1
  | [], _, h, _ => h
  | d :: ds, p, h, hm => fold_vok (ds := ds) (cnt_step1 h (hm d (by simp))).2 fun x hx => hm x (by simp [hx])
theorem addS_ok {v : List Int} (hv : VOk v) (l : List Int) : VOk (addS v l).1 ∧ U64s (addS v l).2 ∧ (addS v l).2.length ≤ l.length := by
  have h := (add_nrm hv l).ns
  refine ⟨h.vok, fun x hx => may_u64 (h.may x hx), ?_⟩
  have h1 := fold_len (sortI (mayF l)) (v, [])
  have h2 : (sortI (mayF l)).length ≤ l.length := by rw [(sortI_perm _).length_eq]; exact mayF_len l
  unfold addS; simp only [List.length_nil] at h1; omega

theorem c_dotsAdd (w0 : World) (x : List Int) (hx : VOk x) (A : Option Addr) (c : Nat) (cl : List Int) (hr : Rd w0 A 1 cl.length (List.map (Value.int .u64) cl)) (hu : U64s cl) (B : Option Addr) (d : Nat) (l : List Int) (hr2 : Rd w0 B 1 l.length (List.map (Value.int .u64) l)) (hu2 : U64s l) (hn : cl.length + l.length ≤ 4000000000)  :
    CallR Try.prog 36 #[.agg (SetC x (.slice A cl.length c)), .slice B l.length d] w0 fun v w' => ∃ (D : Option Addr) (e : Nat), v = .agg (SetC (addS x (cl ++ l)).1 (.slice D (addS x (cl ++ l)).2.length e)) ∧ St NoB w0 w' [.vec D e 48 1 (addS x (cl ++ l)).2.length (List.map (Value.int .u64) (addS x (cl ++ l)).2)] := by
 have hS := St.rd2 (S := NoB) hr hr2
 have hxl := hx.len
 have h0l : (List.replicate 16 (0 : Int)).length = 16 := rfl
 have hal : (cl ++ l).length = cl.length + l.length := List.length_append ..
 have huc : U64s (cl ++ l) := hu.app hu2
 refine c_enter (l := [.agg (SetC x (.slice A cl.length c)), .slice B l.length d, undef, undef, undef, undef, undef, undef, undef, undef, undef, undef, undef, undef, undef, undef, undef, undef, undef, undef, undef, undef, undef, undef, undef, undef, undef, undef, undef, undef, undef, undef, undef, undef, undef, undef, undef, undef, undef, undef, undef, undef, undef, undef, undef, undef, undef, undef, undef, undef, undef, undef, undef, undef, undef, undef, undef, undef, undef, undef, undef, undef, undef, undef, undef, undef, undef, undef, undef, undef, undef, undef, undef, undef, undef, undef, undef, undef, undef, undef, undef, undef, undef, undef, undef]) Try.func36 rfl (by simp only [Try.ntmps36, List.size_toArray, List.length_cons, List.length_nil, Nat.reduceAdd, Nat.reduceSub, Array.replicate_succ, Array.replicate_zero, List.push_toArray, List.append_toArray, List.nil_append, List.cons_append]) ?_
 refine x_seq fun K1 hK1 => ?_
 refine x_region ?_
 refine m_box hS (fun w1 g1 hS => ?_)
 try simp only [opv, n1, n2, n3, n4, Value.cells, Array.toArray_toList] at hS ⊢
 obtain ⟨gba, hgba⟩ : ∃ z, z = g1 := ⟨_, rfl⟩
 rw [← hgba] at hS ⊢
 refine m_alloc ti72 hS (fun w2 g2 hS => ?_)
 try simp only [opv, n1, n2, n3, n4, Value.cells, Array.toArray_toList] at hS ⊢
 replace hS : St NoB w0 w2 (.obj g2 (.cells (SetC (List.replicate 16 0) (.slice none 0 0)) 72 (0, 0)) :: _) := hS
 obtain ⟨gbr, hgbr⟩ : ∃ z, z = g2 := ⟨_, rfl⟩
 rw [← hgbr] at hS ⊢
 refine x_nil ?_
 refine hK1 _ _ ?_
 refine x_seq fun K2 hK2 => ?_
 refine x_region ?_
 first | refine s_go (m_fieldAddr Try.underlying72 (hi := ti70)) ?_ | refine s_go (m_fieldAddr_rd Try.underlying72 (hi := ti70) (hS := hS)) ?_ | refine s_go (m_fieldAddr_vec Try.underlying72 (hi := ti70) (hS := hS)) ?_
 try simp only [opv, n1, n2, n3, n4, Value.cells, Nat.zero_add, Nat.add_zero, List.getElem_toArray, List.getElem_cons_zero, List.getElem_cons_succ]
 refine s_go (m_loada_obj Try.underlying70 (hi := ti70) (hS := hS) (hfit := by rw [setC_size (by assumption)]; decide)) ?_
 try simp only [opv, n1, n2, n3, n4, Value.cells, List.getElem_toArray, List.getElem_cons_zero, List.getElem_cons_succ]
 rw [set_flo (by assumption)]
 refine s_go (s_build_struct (cells := (SetC x (.slice none 0 0))) Try.underlying72 ti72 bp72 (hc := by simp only [List.map_toArray, List.map_cons, List.map_nil, opv, n1, n2, n3, n4, Value.cells, List.toList_toArray]; exact fill_set (by rfl) hxl)) ?_
 try simp only [opv, n1, n2, n3, n4, Value.cells]
 refine m_alloc ti72 hS (fun w3 g3 hS => ?_)
 try simp only [opv, n1, n2, n3, n4, Value.cells, Array.toArray_toList] at hS ⊢
 replace hS : St NoB w0 w3 (.obj g3 (.cells (SetC (List.replicate 16 0) (.slice none 0 0)) 72 (0, 0)) :: _) := hS
 obtain ⟨gbo, hgbo⟩ : ∃ z, z = g3 := ⟨_, rfl⟩
 rw [← hgbo] at hS ⊢
 refine m_store_obj ti72 (hS := hS) (hv := setC_size (by assumption) _) (h1 := set_one _ _ _ _) (hfit := by rw [setC_size (by assumption)]; omega) (hc := set_whole (by assumption) (by assumption) _ _) (h := fun w4 hS => ?_)
 try simp only [opv, n1, n2, n3, n4, Value.cells, Array.toArray_toList] at hS ⊢
 refine x_nil ?_
 refine hK2 _ _ ?_
 refine x_seq fun K3 hK3 => ?_
 refine x_region ?_
 refine m_buildRow (cells := #[]) Try.underlying116 ti48 (hc := by simp only [List.map_toArray, List.map_cons, List.map_nil, opv, n1, n2, n3, n4, Value.cells, List.toList_toArray]; (repeat (refine fill_cons rfl rfl (Nat.le_of_ble_eq_true rfl) ?_)); rfl) (hS := hS) (h := fun w5 g5 hS => ?_)
 try simp only [opv, n1, n2, n3, n4, Value.cells, Array.toArray_toList] at hS ⊢
 replace hS := hS.obj_vec (sz := 1) (n := 0) rfl (by decide) .head
 refine m_box hS (fun w6 g6 hS => ?_)
 try simp only [opv, n1, n2, n3, n4, Value.cells, Array.toArray_toList] at hS ⊢
 obtain ⟨gw, hgw⟩ : ∃ z, z = g6 := ⟨_, rfl⟩
 rw [← hgw] at hS ⊢
 refine s_go (s_assign) ?_
 try simp only [opv, n1, n2, n3, n4, Value.cells]
 refine x_nil ?_
 refine hK3 _ _ ?_
 refine x_seq fun K4 hK4 => ?_
 refine x_seq fun K5 hK5 => ?_
 refine x_region ?_
 first | refine s_go (m_fieldAddr Try.underlying72 (hi := ti65)) ?_ | refine s_go (m_fieldAddr_rd Try.underlying72 (hi := ti65) (hS := hS)) ?_ | refine s_go (m_fieldAddr_vec Try.underlying72 (hi := ti65) (hS := hS)) ?_
 try simp only [opv, n1, n2, n3, n4, Value.cells, Nat.zero_add, Nat.add_zero, List.getElem_toArray, List.getElem_cons_zero, List.getElem_cons_succ]
 refine s_go (m_load_obj Try.underlying65 (hS := hS) (hv := set_sl (by assumption) _)) ?_
 try simp only [opv, n1, n2, n3, n4, Value.cells, List.getElem_toArray, List.getElem_cons_zero, List.getElem_cons_succ]
 refine s_go (s_move) ?_
 try simp only [opv, n1, n2, n3, n4, Value.cells]
 refine m_buildRow (cells := #[_, _]) Try.underlying139 ti65 (hc := by simp only [List.map_toArray, List.map_cons, List.map_nil, opv, n1, n2, n3, n4, Value.cells, List.toList_toArray]; (repeat (refine fill_cons rfl rfl (Nat.le_of_ble_eq_true rfl) ?_)); rfl) (hS := hS) (h := fun w7 g7 hS => ?_)
 try simp only [opv, n1, n2, n3, n4, Value.cells, Array.toArray_toList] at hS ⊢
 replace hS := hS.obj_rd (sz := 1) (n := 2) rfl .head
 refine s_call en78 ?_
 try simp only [opv, n1, n2, n3, n4, Value.cells, List.map_toArray, List.map_cons, List.map_nil, List.append_toArray, List.cons_append, List.nil_append, Array.append_empty]
 refine CallR.mono (c_slConcat _ _ _ A c cl (hS.hasRd (by repeat (first | exact Has.head | apply Has.tail))) hu B d l (hS.hasRd (by repeat (first | exact Has.head | apply Has.tail))) hu2 (hS.hasRd (by repeat (first | exact Has.head | apply Has.tail))) hn) ?_
 rintro _ w8 ⟨D, e, rfl, hC8⟩
 replace hS := hS.call hC8
 simp only [List.cons_append, List.nil_append] at hS
 replace hS := hS.vec_rd (by exact Upd.head)
 try simp only [opv, n1, n2, n3, n4, Value.cells]
 refine s_go (s_len_sl Try.underlying65) ?_
 try simp only [opv, n1, n2, n3, n4, Value.cells]
 refine s_go (s_move) ?_
 try simp only [opv, n1, n2, n3, n4, Value.cells]
 refine x_nil ?_
 refine hK5 _ _ ?_
 refine x_block ?_
 refine x_loop [8, 24, 25, 26, 27, 28, 29, 30, 31, 32, 33, 34, 35] (fun m f w => ∃ (k : Nat) (W : Option Addr) (wc n : Nat) (hl : List Int), k ≤ (cl ++ l).length ∧ m = (cl ++ l).length - k ∧ f 24 = .int .i64 (k : Int) ∧ hl.Perm (mayF ((cl ++ l).take k)) ∧ hl.length = n ∧ HeapN hl n ∧ n ≤ k ∧ St NoB w0 w [.obj gw (.cells #[.slice W n wc] 116 (0, 0)), .vec W wc 48 1 n (List.map (Value.int .u64) hl), .obj gbo (.cells (SetC x (.slice none 0 0)) 72 (0, 0)), .rd D 1 (cl ++ l).length (List.map (Value.int .u64) (cl ++ l)), .obj gbr (.cells (SetC (List.replicate 16 0) (.slice none 0 0)) 72 (0, 0))]) ((cl ++ l).length) ?init1 (fun m1 f1 wl1 hI => ?_)
 case init1 =>
  try simp only [opv, n1, n2, n3, n4, Value.cells]
  exact ⟨0, _, _, 0, [], by omega, rfl, rfl, .refl _, rfl, (fun k a b => by omega), Nat.le_refl _, hS.sel (by repeat (first | exact Sel.nil | (refine Sel.cons (by repeat (first | exact Del.head | apply Del.tail)) ?_)))⟩
 obtain ⟨k, W, wc, n, hl, hk, hm, h24, hpm, hln, hH, hnk, hS⟩ := hI
 simp only [clob, List.foldl, n3, n4, h24]
 refine x_seq fun K6 hK6 => ?_
 refine x_region ?_
 refine s_go (s_lss) ?_
 try simp only [opv, n1, n2, n3, n4, Value.cells]
 refine x_nil ?_
 refine hK6 _ _ ?_
 refine x_seq fun K7 hK7 => ?_
 refine x_cond (ht := fun hc1 => ?_) (hf := fun hc1 => ?_)
 ·
  try simp only [decide_eq_true_eq, decide_eq_false_iff_not, Bool.not_eq_true', Bool.not_eq_false', Int.not_lt, Int.not_le, ne_eq, Decidable.not_not, bne_iff_ne, beq_iff_eq, not_true_eq_false, not_false_eq_true] at hc1
  have hmk := mayF_take (l := cl ++ l) (k := k) (by omega)
  have hxr := huc.get (k := k) (by omega)
  obtain ⟨q, hq⟩ : ∃ q : Nat, (cl ++ l).getD k 0 = (q : Int) := ⟨((cl ++ l).getD k 0).toNat, by omega⟩
  rw [hq] at hmk hxr
  refine x_skip ?_
  refine hK7 _ _ ?_
  refine x_seq fun K8 hK8 => ?_
  refine x_block ?_
  refine x_seq fun K9 hK9 => ?_
  refine x_region ?_
  first | refine s_go (m_indexAddr_rd Try.underlying65 ti48 (hS := hS)) ?_ | refine s_go (m_indexAddr_vec Try.underlying65 ti48 (hS := hS)) ?_
  try simp only [opv, n1, n2, n3, n4, Value.cells, Nat.mul_one, Nat.zero_add, Int.toNat_natCast, Int.reduceToNat]
  first | refine s_go (m_load_obj Try.underlying48 (hS := hS)) ?_ | refine s_go (m_load_bx Try.underlying48 (hS := hS)) ?_ | refine s_go (m_load_rd Try.underlying48 (hS := hS)) ?_ | refine s_go (m_load_vec Try.underlying48 (hS := hS)) ?_
  try simp only [opv, n1, n2, n3, n4, Value.cells, List.getElem_toArray, List.getElem_cons_zero, List.getElem_cons_succ]
  rw [hq]
  refine s_go (s_assign) ?_
  try simp only [opv, n1, n2, n3, n4, Value.cells]
  refine x_nil ?_
  refine hK9 _ _ ?_
  refine x_seq fun K10 hK10 => ?_
  refine x_region ?_
  refine s_go (s_move) ?_
  try simp only [opv, n1, n2, n3, n4, Value.cells]
  refine s_call en79 ?_
  try simp only [opv, n1, n2, n3, n4, Value.cells, List.map_toArray, List.map_cons, List.map_nil, List.append_toArray, List.cons_append, List.nil_append, Array.append_empty]
  refine CallR.mono (c_dotsMay q (by omega) _) ?_
  rintro _ w9 ⟨rfl, hE9⟩
  replace hS := hS.ext hE9
  try simp only [opv, n1, n2, n3, n4, Value.cells]
  refine x_nil ?_
  refine hK10 _ _ ?_
  refine x_cond (ht := fun hc2 => ?_) (hf := fun hc2 => ?_)
  ·
   try simp only [decide_eq_true_eq, decide_eq_false_iff_not, Bool.not_eq_true', Bool.not_eq_false', Int.not_lt, Int.not_le, ne_eq, Decidable.not_not, bne_iff_ne, beq_iff_eq, not_true_eq_false, not_false_eq_true] at hc2
   have hM : MayD (q : Int) := by simpa using hc2
   refine x_region ?_
   refine s_go (s_move) ?_
   try simp only [opv, n1, n2, n3, n4, Value.cells]
   refine s_go (s_iface Try.underlying115) ?_
   try simp only [opv, n1, n2, n3, n4, Value.cells]
   refine s_go (s_move) ?_
   try simp only [opv, n1, n2, n3, n4, Value.cells]
   refine s_go (s_iface Try.underlying48) ?_
   try simp only [opv, n1, n2, n3, n4, Value.cells]
   refine s_call en80 ?_
   try simp only [opv, n1, n2, n3, n4, Value.cells, List.map_toArray, List.map_cons, List.map_nil, List.append_toArray, List.cons_append, List.nil_append, Array.append_empty]
   refine CallR.mono (c_heapPush _ gw W wc n hl hln (by omega) hH (q : Int) (hS.owns (by repeat (first | exact Spl.nil | (apply Spl.cons (by repeat (first | exact Del.head | apply Del.tail))))))) ?_
   rintro _ w10 ⟨A2, c2, l2, rfl, hp, hl2, hH2, hC10⟩
   replace hS := hS.frame (by repeat (first | exact Spl.nil | (apply Spl.cons (by repeat (first | exact Del.head | apply Del.tail))))) hC10 (by intro r hr g hg; simp only [List.mem_cons, List.not_mem_nil, or_false] at hr; rcases hr with rfl | rfl <;> simp [Res.reads] at hg)
   simp only [List.cons_append, List.nil_append] at hS
   try simp only [opv, n1, n2, n3, n4, Value.cells]
   refine x_nil ?_
   refine hK8 _ _ ?_
   refine x_region ?_
   refine s_go (s_add (hc := by first | exact wr_i64 (by omega) (by omega) | rfl)) ?_
   try simp only [opv, n1, n2, n3, n4, Value.cells]
   refine s_go (s_move) ?_
   try simp only [opv, n1, n2, n3, n4, Value.cells]
   refine x_nil ?_
   refine loop_back (m' := (cl ++ l).length - (k + 1)) (by simp only [clob, List.foldl, n1, n2, n3, n4]) ?_ ?_
   · try simp only [opv, n1, n2, n3, n4, Value.cells]
     first
     | exact ⟨k + 1, _, _, n + 1, l2, by omega, by omega, by rfl, hmk.1 hM ▸ perm_snoc hp hpm, hl2, hH2, by omega, hS.sel (by repeat (first | exact Sel.nil | (refine Sel.cons (by repeat (first | exact Del.head | apply Del.tail)) ?_)))⟩
     | exact ⟨k + 1, _, _, n, hl, by omega, by omega, by rfl, hmk.2 hM ▸ hpm, hln, hH, by omega, hS.sel (by repeat (first | exact Sel.nil | (refine Sel.cons (by repeat (first | exact Del.head | apply Del.tail)) ?_)))⟩
   · omega
  ·
   try simp only [decide_eq_true_eq, decide_eq_false_iff_not, Bool.not_eq_true', Bool.not_eq_false', Int.not_lt, Int.not_le, ne_eq, Decidable.not_not, bne_iff_ne, beq_iff_eq, not_true_eq_false, not_false_eq_true] at hc2
   have hM : ¬ MayD (q : Int) := by simpa using hc2
   refine x_skip ?_
   refine hK8 _ _ ?_
   refine x_region ?_
   refine s_go (s_add (hc := by first | exact wr_i64 (by omega) (by omega) | rfl)) ?_
   try simp only [opv, n1, n2, n3, n4, Value.cells]
   refine s_go (s_move) ?_
   try simp only [opv, n1, n2, n3, n4, Value.cells]
   refine x_nil ?_
   refine loop_back (m' := (cl ++ l).length - (k + 1)) (by simp only [clob, List.foldl, n1, n2, n3, n4]) ?_ ?_
   · try simp only [opv, n1, n2, n3, n4, Value.cells]
     first
     | exact ⟨k + 1, _, _, n + 1, l2, by omega, by omega, by rfl, hmk.1 hM ▸ perm_snoc hp hpm, hl2, hH2, by omega, hS.sel (by repeat (first | exact Sel.nil | (refine Sel.cons (by repeat (first | exact Del.head | apply Del.tail)) ?_)))⟩
     | exact ⟨k + 1, _, _, n, hl, by omega, by omega, by rfl, hmk.2 hM ▸ hpm, hln, hH, by omega, hS.sel (by repeat (first | exact Sel.nil | (refine Sel.cons (by repeat (first | exact Del.head | apply Del.tail)) ?_)))⟩
   · omega
 ·
  try simp only [decide_eq_true_eq, decide_eq_false_iff_not, Bool.not_eq_true', Bool.not_eq_false', Int.not_lt, Int.not_le, ne_eq, Decidable.not_not, bne_iff_ne, beq_iff_eq, not_true_eq_false, not_false_eq_true] at hc1
  obtain rfl : k = (cl ++ l).length := by omega
  rw [List.take_of_length_le (Nat.le_refl _)] at hpm
  refine x_exit (look_here ?_)
  refine hK4 _ _ ?_
  refine x_seq fun K11 hK11 => ?_
  refine x_region ?_
  refine m_makeMap kv48 hS (fun w11 g11 hS => ?_)
  try simp only [opv, n1, n2, n3, n4, Value.cells, Array.toArray_toList] at hS ⊢
  obtain ⟨gm, hgm⟩ : ∃ z, z = g11 := ⟨_, rfl⟩
  rw [← hgm] at hS ⊢
  refine s_go (s_assign) ?_
  try simp only [opv, n1, n2, n3, n4, Value.cells]
  refine x_nil ?_
  refine hK11 _ _ ?_
  refine x_seq fun K12 hK12 => ?_
  refine x_block ?_
  refine x_loop [10, 11, 12, 37, 38, 39, 40, 41, 42, 43, 44, 45, 46, 47, 48, 49, 50, 51, 52, 53, 54, 55, 56, 57, 58, 59, 60, 61, 62, 63, 64, 65, 66, 67, 68, 69, 70, 71, 72, 73, 74, 75, 76, 77, 78, 79, 80, 81, 82, 83] (fun m f w => ∃ (W : Option Addr) (wc n : Nat) (hl ds : List Int) (E : Option Addr) (ec : Nat), m = n ∧ (hl ++ ds).Perm (mayF (cl ++ l)) ∧ hl.length = n ∧ HeapN hl n ∧ ds.Pairwise (· ≤ ·) ∧ (∀ a ∈ ds, ∀ b ∈ hl, a ≤ b) ∧ St NoB w0 w [.obj gm (mObj kv48 (cntI ds.reverse)), .obj gw (.cells #[.slice W n wc] 116 (0, 0)), .vec W wc 48 1 n (List.map (Value.int .u64) hl), .obj gbo (.cells (SetC (ds.foldl stepD (x, [])).1 (.slice E (ds.foldl stepD (x, [])).2.length ec)) 72 (0, 0)), .vec E ec 48 1 (ds.foldl stepD (x, [])).2.length (List.map (Value.int .u64) (ds.foldl stepD (x, [])).2), .rd D 1 (cl ++ l).length (List.map (Value.int .u64) (cl ++ l)), .obj gbr (.cells (SetC (List.replicate 16 0) (.slice none 0 0)) 72 (0, 0))]) (n) ?init2 (fun m2 f2 wl2 hI => ?_)
  case init2 =>
   try simp only [opv, n1, n2, n3, n4, Value.cells]
   replace hS := hS.nil_vec 48 1
   exact ⟨_, _, n, hl, [], none, 0, rfl, by simpa using hpm, hln, hH, .nil, (fun a h => by cases h), hS.sel (by repeat (first | exact Sel.nil | (refine Sel.cons (by repeat (first | exact Del.head | apply Del.tail)) ?_)))⟩
  obtain ⟨W, wc, n, hl, ds, E, ec, hm, hpm2, hln, hH, hsd, hdl, hS⟩ := hI
  simp only [clob, List.foldl, n3, n4]
  have hmds : ∀ a ∈ ds, MayD a := fun a ha => (mem_mayF.1 (hpm2.mem_iff.1 (List.mem_append_right _ ha))).2
  have hmhl : ∀ a ∈ hl, MayD a := fun a ha => (mem_mayF.1 (hpm2.mem_iff.1 (List.mem_append_left _ ha))).2
  have hdsl : hl.length + ds.length ≤ 4000000000 := by have h1 := hpm2.length_eq; have h2 := mayF_len (cl ++ l); rw [List.length_append] at h1; omega
  have hflen := fold_len ds (x, [])
  have hfok : VOk (ds.foldl stepD (x, [])).1 := fold_vok hx hmds
  have hfl16 := hfok.len
  simp only [List.length_nil] at hflen
  refine x_seq fun K13 hK13 => ?_
  refine x_seq fun K14 hK14 => ?_
  refine x_region ?_
  refine s_go (s_move) ?_
  try simp only [opv, n1, n2, n3, n4, Value.cells]
  refine s_go (s_nilCheck) ?_
  try simp only [opv, n1, n2, n3, n4, Value.cells]
  first | refine s_go (m_load_obj Try.underlying116 (hS := hS)) ?_ | refine s_go (m_load_bx Try.underlying116 (hS := hS)) ?_ | refine s_go (m_load_rd Try.underlying116 (hS := hS)) ?_ | refine s_go (m_load_vec Try.underlying116 (hS := hS)) ?_
  try simp only [opv, n1, n2, n3, n4, Value.cells, List.getElem_toArray, List.getElem_cons_zero, List.getElem_cons_succ]
  refine s_call en81 ?_
  try simp only [opv, n1, n2, n3, n4, Value.cells, List.map_toArray, List.map_cons, List.map_nil, List.append_toArray, List.cons_append, List.nil_append, Array.append_empty]
  refine CallR.mono (c_wLen _ _ _ _) ?_
  rintro _ w12 ⟨rfl, hE12⟩
  replace hS := hS.ext hE12
  try simp only [opv, n1, n2, n3, n4, Value.cells]
  refine s_go (s_gtr) ?_
  try simp only [opv, n1, n2, n3, n4, Value.cells]
  refine x_nil ?_
  refine hK14 _ _ ?_
  refine x_cond (ht := fun hc3 => ?_) (hf := fun hc3 => ?_)
  ·
   try simp only [decide_eq_true_eq, decide_eq_false_iff_not, Bool.not_eq_true', Bool.not_eq_false', Int.not_lt, Int.not_le, ne_eq, Decidable.not_not, bne_iff_ne, beq_iff_eq, not_true_eq_false, not_false_eq_true] at hc3
   obtain ⟨k2, rfl⟩ : ∃ k2, n = k2 + 1 := ⟨n - 1, by omega⟩
   have hln0 : hl.length = k2 + 1 := hln
   refine x_skip ?_
   refine hK13 _ _ ?_
   refine x_block ?_
   refine x_seq fun K15 hK15 => ?_
   refine x_region ?_
   refine s_go (s_move) ?_
   try simp only [opv, n1, n2, n3, n4, Value.cells]
   refine s_go (s_iface Try.underlying115) ?_
   try simp only [opv, n1, n2, n3, n4, Value.cells]
   refine s_call en82 ?_
   try simp only [opv, n1, n2, n3, n4, Value.cells, List.map_toArray, List.map_cons, List.map_nil, List.append_toArray, List.cons_append, List.nil_append, Array.append_empty]
   refine CallR.mono (c_heapPop _ gw W wc k2 hl hln (by omega) hH (hS.owns (by repeat (first | exact Spl.nil | (apply Spl.cons (by repeat (first | exact Del.head | apply Del.tail))))))) ?_
   rintro _ w13 ⟨l2, rfl, hpo, hl2, hH2, hmin2, hC13⟩
   replace hS := hS.frame (by repeat (first | exact Spl.nil | (apply Spl.cons (by repeat (first | exact Del.head | apply Del.tail))))) hC13 (by intro r hr g hg; simp only [List.mem_cons, List.not_mem_nil, or_false] at hr; rcases hr with rfl | rfl <;> simp [Res.reads] at hg)
   simp only [List.cons_append, List.nil_append] at hS
   have hdm : MayD (hl.getD 0 0) := hmhl _ (getD_mem' (by omega))
   have hdd : ∀ a ∈ ds, a ≤ hl.getD 0 0 := fun a ha => hdl a ha _ (getD_mem' (by omega))
   have hpp := pop_perm hpo hpm2
   have hdu := may_u64 hdm
   obtain ⟨q, hq⟩ : ∃ q : Nat, hl.getD 0 0 = (q : Int) := ⟨(hl.getD 0 0).toNat, by omega⟩
   rw [hq] at hdm hdd hpp hdu hmin2 ⊢
   have hsd2 : (ds ++ [(q : Int)]).Pairwise (· ≤ ·) := List.pairwise_append.2 ⟨hsd, by simp, fun a ha b hb => by rw [List.mem_singleton] at hb; rw [hb]; exact hdd a ha⟩
   have hdl2 : ∀ a ∈ ds ++ [(q : Int)], ∀ b ∈ l2, a ≤ b := fun a ha b hb => by (have h2 := hmin2 b hb); rcases List.mem_append.1 ha with ha | ha; (have := hdd a ha; omega); (rw [List.mem_singleton] at ha; omega)
   have hlo := add_loop (d := (q : Int)) hx hmds hsd
   have hcs := cntI_snoc ds (q : Int)
   obtain ⟨r, hr0⟩ : ∃ r, r = q / 4294967296 := ⟨_, rfl⟩
   obtain ⟨s, hs0⟩ : ∃ s, s = q % 4294967296 := ⟨_, rfl⟩
   have hdn := may_nat.1 hdm
   rw [← hr0, ← hs0] at hdn
   have hqs : (q : Int) % 4294967296 = (s : Int) := by omega
   have hfq : flo (ds.foldl stepD (x, [])).1 (q : Int) = (ds.foldl stepD (x, [])).1.getD r 0 := by rw [flo, dR_nat, hr0]
   have hdr : dR (q : Int) = r := by rw [dR_nat, hr0]
   rw [hqs, hfq, hdr] at hlo
   have hct : ds.count (q : Int) ≤ ds.length := List.count_le_length
   have hfn := hfok.nat r
   try simp only [opv, n1, n2, n3, n4, Value.cells]
   refine s_go (s_assert Try.underlying48) ?_
   try simp only [opv, n1, n2, n3, n4, Value.cells]
   refine s_go (s_assign) ?_
   try simp only [opv, n1, n2, n3, n4, Value.cells]
   refine x_nil ?_
   refine hK15 _ _ ?_
   refine x_seq fun K16 hK16 => ?_
   refine x_region ?_
   refine s_go (s_move) ?_
   try simp only [opv, n1, n2, n3, n4, Value.cells]
   refine s_call en83 ?_
   try simp only [opv, n1, n2, n3, n4, Value.cells, List.map_toArray, List.map_cons, List.map_nil, List.append_toArray, List.cons_append, List.nil_append, Array.append_empty]
   refine CallR.mono (c_keyUndot q (by omega) _) ?_
   rintro _ w14 ⟨rfl, hE14⟩
   replace hS := hS.ext hE14
   try simp only [opv, n1, n2, n3, n4, Value.cells]
   rw [show q / 4294967296 % 256 = r by omega, ← hs0]
   refine s_go (s_move) ?_
   try simp only [opv, n1, n2, n3, n4, Value.cells]
   refine s_go (s_extract (hv := rfl)) ?_
   try simp only [List.getElem_toArray, List.getElem_cons_zero, List.getElem_cons_succ]
   try simp only [opv, n1, n2, n3, n4, Value.cells]
   refine s_go (s_extract (hv := rfl)) ?_
   try simp only [List.getElem_toArray, List.getElem_cons_zero, List.getElem_cons_succ]
   try simp only [opv, n1, n2, n3, n4, Value.cells]
   refine s_go (s_assign) ?_
   try simp only [opv, n1, n2, n3, n4, Value.cells]
   refine s_go (s_assign) ?_
   try simp only [opv, n1, n2, n3, n4, Value.cells]
   refine x_nil ?_
   refine hK16 _ _ ?_
   refine x_seq fun K17 hK17 => ?_
   refine x_seq fun K18 hK18 => ?_
   refine x_region ?_
   refine s_go (s_move) ?_
   try simp only [opv, n1, n2, n3, n4, Value.cells]
   refine s_go (s_move) ?_
   try simp only [opv, n1, n2, n3, n4, Value.cells]
   refine s_go (m_lookup ky48 Try.underlying119 ti3 (hy := rfl) (ha := by first | trivial | assumption | omega) (hD := by first | assumption | exact mok_all | exact mok_nil | exact mput_ok (by first | assumption | omega) (by first | assumption | exact mok_nil)) (hS := hS)) ?_
   try simp only [opv, n1, n2, n3, n4, Value.cells]
   try simp only [kv48]
   rw [cntI_getD, List.count_reverse]
   refine s_go (s_add (hc := by first | exact wr_i64 (by omega) (by omega) | rfl)) ?_
   try simp only [opv, n1, n2, n3, n4, Value.cells]
   refine m_mapUpdate ky48 Try.underlying119 (hy := rfl) (ha := by first | trivial | assumption | omega) (hD := by first | assumption | exact mok_all | exact mok_nil | exact mput_ok (by first | assumption | omega) (by first | assumption | exact mok_nil)) (hS := hS) (h := fun w15 hS => ?_)
   try simp only [opv, n1, n2, n3, n4, Value.cells, Array.toArray_toList] at hS ⊢
   rw [← hcs] at hS
   refine x_nil ?_
   refine hK18 _ _ ?_
   refine x_seq fun K19 hK19 => ?_
   refine x_region ?_
   refine s_go (s_move) ?_
   try simp only [opv, n1, n2, n3, n4, Value.cells]
   refine s_go (s_move) ?_
   try simp only [opv, n1, n2, n3, n4, Value.cells]
   refine s_go (m_lookup ky48 Try.underlying119 ti3 (hy := rfl) (ha := by first | trivial | assumption | omega) (hD := by first | assumption | exact mok_all | exact mok_nil | exact mput_ok (by first | assumption | omega) (by first | assumption | exact mok_nil)) (hS := hS)) ?_
   try simp only [opv, n1, n2, n3, n4, Value.cells]
   try simp only [kv48]
   rw [hcs, mget_put, if_pos rfl]
   simp only [Option.getD_some]
   refine s_go (s_gtr) ?_
   try simp only [opv, n1, n2, n3, n4, Value.cells]
   refine s_go (s_move) ?_
   try simp only [opv, n1, n2, n3, n4, Value.cells]
   refine s_part 59 rfl (fun hp1 => ?_) (fun hp1 => ?_)
   ·
    try simp only [n3, n4]
    try simp only [decide_eq_true_eq, decide_eq_false_iff_not, Bool.not_eq_true', Bool.not_eq_false', Int.not_lt, Int.not_le, ne_eq, Decidable.not_not] at hp1
    have hmem : (q : Int) ∈ ds := List.count_pos_iff.1 (by omega)
    have hst := hlo.1 (.inl hmem) hdm
    refine g_off (yi (t := 59) rfl rfl) ?_
    try simp only [opv, n1, n2, n3, n4, Value.cells]
    refine g_off (yi (t := 59) rfl rfl) ?_
    try simp only [opv, n1, n2, n3, n4, Value.cells]
    refine g_off (yi (t := 59) rfl rfl) ?_
    try simp only [opv, n1, n2, n3, n4, Value.cells]
    refine g_off (yi (t := 59) rfl rfl) ?_
    try simp only [opv, n1, n2, n3, n4, Value.cells]
    refine g_off (yi (t := 59) rfl rfl) ?_
    try simp only [opv, n1, n2, n3, n4, Value.cells]
    refine g_off (yi (t := 59) rfl rfl) ?_
    try simp only [opv, n1, n2, n3, n4, Value.cells]
    first | refine s_go (s_pick_t) ?_ | refine s_go (s_pick_f) ?_
    try simp only [opv, n1, n2, n3, n4, Value.cells]
    refine x_nil ?_
    refine hK19 _ _ ?_
    refine x_cond_t (h := ?_)
    try have hst := hlo.1 (.inr (by omega)) hdm
    refine x_exit (look_here ?_)
    refine loop_back (m' := k2) (by simp only [clob, List.foldl, n1, n2, n3, n4]) ?_ ?_
    · try simp only [opv, n1, n2, n3, n4, Value.cells]
      first
      | (rw [← hst] at hS; exact ⟨_, _, k2, l2, ds ++ [(q : Int)], _, _, by omega, hpp, hl2, hH2, hsd2, hdl2, hS.sel (by repeat (first | exact Sel.nil | (refine Sel.cons (by repeat (first | exact Del.head | apply Del.tail)) ?_)))⟩)
      | (rw [← hst1, ← hst2, ← hst3] at hS; exact ⟨_, _, k2, l2, ds ++ [(q : Int)], _, _, by omega, hpp, hl2, hH2, hsd2, hdl2, hS.sel (by repeat (first | exact Sel.nil | (refine Sel.cons (by repeat (first | exact Del.head | apply Del.tail)) ?_)))⟩)
    · omega
   ·
    try simp only [n3, n4]
    try simp only [decide_eq_true_eq, decide_eq_false_iff_not, Bool.not_eq_true', Bool.not_eq_false', Int.not_lt, Int.not_le, ne_eq, Decidable.not_not] at hp1
    have hnm : ¬ (q : Int) ∈ ds := fun h => by (have := List.count_pos_iff.2 h); omega
    refine g_on (yi (t := 59) rfl rfl) ?_
    refine s_go (s_move) ?_
    try simp only [opv, n1, n2, n3, n4, Value.cells]
    refine g_on (yi (t := 59) rfl rfl) ?_
    refine s_go (s_move) ?_
    try simp only [opv, n1, n2, n3, n4, Value.cells]
    refine g_on (yi (t := 59) rfl rfl) ?_
    first | refine s_go (m_fieldAddr Try.underlying72 (hi := ti70)) ?_ | refine s_go (m_fieldAddr_rd Try.underlying72 (hi := ti70) (hS := hS)) ?_ | refine s_go (m_fieldAddr_vec Try.underlying72 (hi := ti70) (hS := hS)) ?_
    try simp only [opv, n1, n2, n3, n4, Value.cells, Nat.zero_add, Nat.add_zero, List.getElem_toArray, List.getElem_cons_zero, List.getElem_cons_succ]
    refine g_on (yi (t := 59) rfl rfl) ?_
    refine s_go (m_indexAddr_arr Try.underlying70 ti29) ?_
    try simp only [opv, n1, n2, n3, n4, Value.cells, Nat.mul_one, Nat.zero_add, Int.toNat_natCast, Int.reduceToNat]
    refine g_on (yi (t := 59) rfl rfl) ?_
    refine s_go (m_load_obj Try.underlying29 (hS := hS) (hv := set_at hfl16 _ (by omega))) ?_
    try simp only [opv, n1, n2, n3, n4, Value.cells, List.getElem_toArray, List.getElem_cons_zero, List.getElem_cons_succ]
    refine g_on (yi (t := 59) rfl rfl) ?_
    refine s_go (s_leq) ?_
    try simp only [opv, n1, n2, n3, n4, Value.cells]
    first | refine s_go (s_pick_t) ?_ | refine s_go (s_pick_f) ?_
    try simp only [opv, n1, n2, n3, n4, Value.cells]
    refine x_nil ?_
    refine hK19 _ _ ?_
    refine x_cond (ht := fun hc5 => ?_) (hf := fun hc5 => ?_)
    ·
     try simp only [decide_eq_true_eq, decide_eq_false_iff_not, Bool.not_eq_true', Bool.not_eq_false', Int.not_lt, Int.not_le, ne_eq, Decidable.not_not, bne_iff_ne, beq_iff_eq, not_true_eq_false, not_false_eq_true] at hc5
     try have hst := hlo.1 (.inr (by omega)) hdm
     refine x_exit (look_here ?_)
     refine loop_back (m' := k2) (by simp only [clob, List.foldl, n1, n2, n3, n4]) ?_ ?_
     · try simp only [opv, n1, n2, n3, n4, Value.cells]
       first
       | (rw [← hst] at hS; exact ⟨_, _, k2, l2, ds ++ [(q : Int)], _, _, by omega, hpp, hl2, hH2, hsd2, hdl2, hS.sel (by repeat (first | exact Sel.nil | (refine Sel.cons (by repeat (first | exact Del.head | apply Del.tail)) ?_)))⟩)
       | (rw [← hst1, ← hst2, ← hst3] at hS; exact ⟨_, _, k2, l2, ds ++ [(q : Int)], _, _, by omega, hpp, hl2, hH2, hsd2, hdl2, hS.sel (by repeat (first | exact Sel.nil | (refine Sel.cons (by repeat (first | exact Del.head | apply Del.tail)) ?_)))⟩)
     · omega
    ·
     try simp only [decide_eq_true_eq, decide_eq_false_iff_not, Bool.not_eq_true', Bool.not_eq_false', Int.not_lt, Int.not_le, ne_eq, Decidable.not_not, bne_iff_ne, beq_iff_eq, not_true_eq_false, not_false_eq_true] at hc5
     have hgt : ¬ (s : Int) ≤ (ds.foldl stepD (x, [])).1.getD r 0 := by simpa using hc5
     refine x_skip ?_
     refine hK17 _ _ ?_
     refine x_seq fun K20 hK20 => ?_
     refine x_seq fun K21 hK21 => ?_
     refine x_region ?_
     refine s_go (s_move) ?_
     try simp only [opv, n1, n2, n3, n4, Value.cells]
     refine s_go (s_sub (hc := by first | exact wr_u32 (by omega) (by omega) | exact cv_u32 rfl | rfl)) ?_
     try simp only [opv, n1, n2, n3, n4, Value.cells]
     refine s_go (s_move) ?_
     try simp only [opv, n1, n2, n3, n4, Value.cells]
     first | refine s_go (m_fieldAddr Try.underlying72 (hi := ti70)) ?_ | refine s_go (m_fieldAddr_rd Try.underlying72 (hi := ti70) (hS := hS)) ?_ | refine s_go (m_fieldAddr_vec Try.underlying72 (hi := ti70) (hS := hS)) ?_
     try simp only [opv, n1, n2, n3, n4, Value.cells, Nat.zero_add, Nat.add_zero, List.getElem_toArray, List.getElem_cons_zero, List.getElem_cons_succ]
     refine s_go (m_indexAddr_arr Try.underlying70 ti29) ?_
     try simp only [opv, n1, n2, n3, n4, Value.cells, Nat.mul_one, Nat.zero_add, Int.toNat_natCast, Int.reduceToNat]
     refine s_go (m_load_obj Try.underlying29 (hS := hS) (hv := set_at hfl16 _ (by omega))) ?_
     try simp only [opv, n1, n2, n3, n4, Value.cells, List.getElem_toArray, List.getElem_cons_zero, List.getElem_cons_succ]
     refine s_go (s_eql) ?_
     try simp only [opv, n1, n2, n3, n4, Value.cells]
     refine x_nil ?_
     refine hK21 _ _ ?_
     refine x_cond (ht := fun hc6 => ?_) (hf := fun hc6 => ?_)
     ·
      try simp only [decide_eq_true_eq, decide_eq_false_iff_not, Bool.not_eq_true', Bool.not_eq_false', Int.not_lt, Int.not_le, ne_eq, Decidable.not_not, bne_iff_ne, beq_iff_eq, not_true_eq_false, not_false_eq_true] at hc6
      have hst0 := hlo.2.1 hnm hgt (by omega)
      have hst1 := congrArg Prod.fst hst0
      have hst2 := congrArg (fun z : List Int × List Int => z.2.length) hst0
      have hst3 := congrArg Prod.snd hst0
      simp only at hst1 hst2 hst3
      refine x_seq fun K22 hK22 => ?_
      refine x_region ?_
      refine s_go (s_move) ?_
      try simp only [opv, n1, n2, n3, n4, Value.cells]
      refine s_go (s_move) ?_
      try simp only [opv, n1, n2, n3, n4, Value.cells]
      first | refine s_go (m_fieldAddr Try.underlying72 (hi := ti70)) ?_ | refine s_go (m_fieldAddr_rd Try.underlying72 (hi := ti70) (hS := hS)) ?_ | refine s_go (m_fieldAddr_vec Try.underlying72 (hi := ti70) (hS := hS)) ?_
      try simp only [opv, n1, n2, n3, n4, Value.cells, Nat.zero_add, Nat.add_zero, List.getElem_toArray, List.getElem_cons_zero, List.getElem_cons_succ]
      refine s_go (m_indexAddr_arr Try.underlying70 ti29) ?_
      try simp only [opv, n1, n2, n3, n4, Value.cells, Nat.mul_one, Nat.zero_add, Int.toNat_natCast, Int.reduceToNat]
      refine m_store_obj ti29 (hS := hS) (hfit := by rw [setC_size (by assumption)]; omega) (hc := set_put hfl16 _ (by omega) _) (h := fun w16 hS => ?_)
      try simp only [opv, n1, n2, n3, n4, Value.cells, Array.toArray_toList] at hS ⊢
      refine x_nil ?_
      refine hK22 _ _ ?_
      refine x_exit (look_here ?_)
      refine loop_back (m' := k2) (by simp only [clob, List.foldl, n1, n2, n3, n4]) ?_ ?_
      · try simp only [opv, n1, n2, n3, n4, Value.cells]
        first
        | (rw [← hst] at hS; exact ⟨_, _, k2, l2, ds ++ [(q : Int)], _, _, by omega, hpp, hl2, hH2, hsd2, hdl2, hS.sel (by repeat (first | exact Sel.nil | (refine Sel.cons (by repeat (first | exact Del.head | apply Del.tail)) ?_)))⟩)
        | (rw [← hst1, ← hst2, ← hst3] at hS; exact ⟨_, _, k2, l2, ds ++ [(q : Int)], _, _, by omega, hpp, hl2, hH2, hsd2, hdl2, hS.sel (by repeat (first | exact Sel.nil | (refine Sel.cons (by repeat (first | exact Del.head | apply Del.tail)) ?_)))⟩)
      · omega
     ·
      try simp only [decide_eq_true_eq, decide_eq_false_iff_not, Bool.not_eq_true', Bool.not_eq_false', Int.not_lt, Int.not_le, ne_eq, Decidable.not_not, bne_iff_ne, beq_iff_eq, not_true_eq_false, not_false_eq_true] at hc6
      have hst0 := hlo.2.2 hnm hgt (by omega)
      have hst1 := congrArg Prod.fst hst0
      have hst2 := congrArg (fun z : List Int × List Int => z.2.length) hst0
      have hst3 := congrArg Prod.snd hst0
      simp only [List.length_append, List.length_cons, List.length_nil, Nat.zero_add] at hst1 hst2 hst3
      refine x_skip ?_
      refine hK20 _ _ ?_
      refine x_region ?_
      first | refine s_go (m_fieldAddr Try.underlying72 (hi := ti65)) ?_ | refine s_go (m_fieldAddr_rd Try.underlying72 (hi := ti65) (hS := hS)) ?_ | refine s_go (m_fieldAddr_vec Try.underlying72 (hi := ti65) (hS := hS)) ?_
      try simp only [opv, n1, n2, n3, n4, Value.cells, Nat.zero_add, Nat.add_zero, List.getElem_toArray, List.getElem_cons_zero, List.getElem_cons_succ]
      refine s_go (m_load_obj Try.underlying65 (hS := hS) (hv := set_sl (by assumption) _)) ?_
      try simp only [opv, n1, n2, n3, n4, Value.cells, List.getElem_toArray, List.getElem_cons_zero, List.getElem_cons_succ]
      refine s_go (s_move) ?_
      try simp only [opv, n1, n2, n3, n4, Value.cells]
      refine m_buildRow (cells := #[_]) Try.underlying65 ti48 (hc := by simp only [List.map_toArray, List.map_cons, List.map_nil, opv, n1, n2, n3, n4, Value.cells, List.toList_toArray]; (repeat (refine fill_cons rfl rfl (Nat.le_of_ble_eq_true rfl) ?_)); rfl) (hS := hS) (h := fun w17 g17 hS => ?_)
      try simp only [opv, n1, n2, n3, n4, Value.cells, Array.toArray_toList] at hS ⊢
      replace hS := hS.obj_rd (sz := 1) (n := 1) rfl .head
      refine m_append Try.underlying65 ti48 (hS := hS) (news := [(q : Int)].map (Value.int .u64)) (h := fun w18 A18 C18 hS => ?_)
      try simp only [← List.map_append, ← List.map_drop, ← List.map_take, Nat.mul_one, Nat.zero_mul, Nat.sub_zero, List.drop_zero, List.nil_append, Nat.zero_add] at hS ⊢
      try simp only [opv, n1, n2, n3, n4, Value.cells, Array.toArray_toList] at hS ⊢
      first | refine s_go (m_fieldAddr Try.underlying72 (hi := ti65)) ?_ | refine s_go (m_fieldAddr_rd Try.underlying72 (hi := ti65) (hS := hS)) ?_ | refine s_go (m_fieldAddr_vec Try.underlying72 (hi := ti65) (hS := hS)) ?_
      try simp only [opv, n1, n2, n3, n4, Value.cells, Nat.zero_add, Nat.add_zero, List.getElem_toArray, List.getElem_cons_zero, List.getElem_cons_succ]
      refine m_store_obj ti65 (hS := hS) (hfit := by rw [setC_size (by assumption)]; omega) (hc := set_put16 (by assumption) _ _) (h := fun w19 hS => ?_)
      try simp only [opv, n1, n2, n3, n4, Value.cells, Array.toArray_toList] at hS ⊢
      refine x_nil ?_
      refine loop_back (m' := k2) (by simp only [clob, List.foldl, n1, n2, n3, n4]) ?_ ?_
      · try simp only [opv, n1, n2, n3, n4, Value.cells]
        first
        | (rw [← hst] at hS; exact ⟨_, _, k2, l2, ds ++ [(q : Int)], _, _, by omega, hpp, hl2, hH2, hsd2, hdl2, hS.sel (by repeat (first | exact Sel.nil | (refine Sel.cons (by repeat (first | exact Del.head | apply Del.tail)) ?_)))⟩)
        | (rw [← hst1, ← hst2, ← hst3] at hS; exact ⟨_, _, k2, l2, ds ++ [(q : Int)], _, _, by omega, hpp, hl2, hH2, hsd2, hdl2, hS.sel (by repeat (first | exact Sel.nil | (refine Sel.cons (by repeat (first | exact Del.head | apply Del.tail)) ?_)))⟩)
      · omega
  ·
   try simp only [decide_eq_true_eq, decide_eq_false_iff_not, Bool.not_eq_true', Bool.not_eq_false', Int.not_lt, Int.not_le, ne_eq, Decidable.not_not, bne_iff_ne, beq_iff_eq, not_true_eq_false, not_false_eq_true] at hc3
   obtain rfl : n = 0 := by omega
   obtain rfl : hl = [] := List.eq_nil_of_length_eq_zero hln
   rw [List.nil_append] at hpm2
   have hfin := fold_add (l := cl ++ l) hx hpm2 hsd
   rw [hfin] at hS hfl16
   refine x_exit (look_here ?_)
   refine hK12 _ _ ?_
   refine x_seq fun K23 hK23 => ?_
   refine x_region ?_
   refine s_go (m_load_row Try.underlying72 (hi := ti72) (hS := hS) (hfit := by rw [setC_size (by assumption)])) ?_
   try simp only [opv, n1, n2, n3, n4, Value.cells, List.getElem_toArray, List.getElem_cons_zero, List.getElem_cons_succ]
   refine m_store_obj ti72 (hS := hS) (hv := setC_size (by assumption) _) (h1 := set_one _ _ _ _) (hfit := by rw [setC_size (by assumption)]; omega) (hc := set_whole (by assumption) (by assumption) _ _) (h := fun w20 hS => ?_)
   try simp only [opv, n1, n2, n3, n4, Value.cells, Array.toArray_toList] at hS ⊢
   refine x_nil ?_
   refine hK23 _ _ ?_
   refine x_ret ?_
   refine r_cell_agg rfl Try.underlying72 ti72 (hS := hS) (hfit := by rw [setC_size (by assumption)]) (hR := ?_)
   exact ⟨_, _, rfl, hS.sel (by repeat (first | exact Sel.nil | (refine Sel.cons (by repeat (first | exact Del.head | apply Del.tail)) ?_)))⟩
end Go.Proofs.Ytffmanidnlbjjaa
set_option linter.unusedSimpArgs false
set_option linter.unusedVariables false
set_option maxHeartbeats 800000
set_option maxRecDepth 100000
namespace Go.Proofs.Ytffmanidnlbjjaa
open Go.RowKit
/-- a row that is turned, number by number, up to place k -/
def mixv (op : Int → Int → Int) (a b : List Int) (k : Nat) : List Int := List.zipWith op (a.take k) (b.take k) ++ a.drop k
section
variable {op : Int → Int → Int} {a b : List Int} {k : Nat}
theorem mixv_len (h : b.length = a.length) : (mixv op a b k).length = a.length := by simp [mixv, h]; omega
theorem mixv_zero : mixv op a b 0 = a := by simp [mixv]
theorem mixv_all (h : b.length = a.length) : mixv op a b a.length = List.zipWith op a b := by
  have e : b.take a.length = b := by rw [← h, List.take_length]
  simp [mixv, e]
theorem mixv_get (h : b.length = a.length) (hk : k < a.length) : (mixv op a b k).getD k 0 = a.getD k 0 := by
  have hl : (List.zipWith op (a.take k) (b.take k)).length = k := by simp [h]; omega
  simp only [mixv, List.getD_eq_getElem?_getD]
  rw [List.getElem?_append_right (by omega), hl, Nat.sub_self, List.getElem?_drop]; simp
theorem mixv_set (h : b.length = a.length) (hk : k < a.length) : (mixv op a b k).set k (op (a.getD k 0) (b.getD k 0)) = mixv op a b (k + 1) := by
  have hl : (List.zipWith op (a.take k) (b.take k)).length = k := by simp [h]; omega
  simp only [mixv]
  rw [List.set_append_right _ _ (by omega), hl, Nat.sub_self, List.drop_eq_getElem_cons hk, List.set_cons_zero]
  have hk' : k < b.length := by omega
  rw [List.take_succ_eq_append_getElem hk, List.take_succ_eq_append_getElem hk', List.zipWith_append (by simp [h])]
  simp [List.getD_eq_getElem?_getD, List.getElem?_eq_getElem hk, List.getElem?_eq_getElem hk']
end

theorem c_vecJoin1 (x y : Int) (w0 : World) :
    CallR Try.prog 109 #[.int .u32 x, .int .u32 y] w0 fun v w' => v = .int .u32 (max x y) ∧ w0 = w' := by
 have hS : St NoB w0 w0 [] := St.start w0
 refine c_enter (l := [.int .u32 x, .int .u32 y, undef, undef, undef, undef, undef, undef]) Try.func109 rfl (by simp only [Try.ntmps109, List.size_toArray, List.length_cons, List.length_nil, Nat.reduceAdd, Nat.reduceSub, Array.replicate_succ, Array.replicate_zero, List.push_toArray, List.append_toArray, List.nil_append, List.cons_append]) ?_
 refine x_seq fun K1 hK1 => ?_
 refine x_region ?_
 refine s_go (s_assign) ?_
 try simp only [opv, n1, n2, n3, n4, Value.cells]
 refine x_nil ?_
 refine hK1 _ _ ?_
 refine x_seq fun K2 hK2 => ?_
 refine x_region ?_
 refine s_go (s_move) ?_
 try simp only [opv, n1, n2, n3, n4, Value.cells]
 refine s_go (s_move) ?_
 try simp only [opv, n1, n2, n3, n4, Value.cells]
 refine s_go (s_max) ?_
 try simp only [opv, n1, n2, n3, n4, Value.cells]
 refine s_go (s_assign) ?_
 try simp only [opv, n1, n2, n3, n4, Value.cells]
 refine x_nil ?_
 refine hK2 _ _ ?_
 refine x_ret ?_
 refine r_tmp rfl ?_
 exact ⟨rfl, rfl⟩
theorem c_vecBothJoin (a b : List Int) (ha : a.length = 16) (hb : b.length = 16) (w0 : World) :
    CallR Try.prog 108 #[.agg (ic .u32 a), .agg (ic .u32 b), .func (.func 109) #[] #[]] w0 fun v w' => v = .agg (ic .u32 (List.zipWith max a b)) ∧ Ext w0 w' := by
 have hS : St NoB w0 w0 [] := St.start w0
 refine c_enter (l := [.agg (ic .u32 a), .agg (ic .u32 b), .func (.func 109) #[] #[], undef, undef, undef, undef, undef, undef, undef, undef, undef, undef, undef, undef, undef, undef, undef, undef, undef, undef, undef, undef, undef]) Try.func108 rfl (by simp only [Try.ntmps108, List.size_toArray, List.length_cons, List.length_nil, Nat.reduceAdd, Nat.reduceSub, Array.replicate_succ, Array.replicate_zero, List.push_toArray, List.append_toArray, List.nil_append, List.cons_append]) ?_
 refine x_seq fun K1 hK1 => ?_
 refine x_region ?_
 refine m_box hS (fun w1 g1 hS => ?_)
 try simp only [opv, n1, n2, n3, n4, Value.cells, Array.toArray_toList] at hS ⊢
 refine m_box hS (fun w2 g2 hS => ?_)
 try simp only [opv, n1, n2, n3, n4, Value.cells, Array.toArray_toList] at hS ⊢
 refine m_alloc ti70 hS (fun w3 g3 hS => ?_)
 try simp only [opv, n1, n2, n3, n4, Value.cells, Array.toArray_toList] at hS ⊢
 refine x_nil ?_
 refine hK1 _ _ ?_
 refine x_seq fun K2 hK2 => ?_
 refine x_seq fun K3 hK3 => ?_
 refine x_region ?_
 refine s_go (m_load_row Try.underlying70 (hi := ti70) (hS := hS)) ?_
 try simp only [opv, n1, n2, n3, n4, Value.cells, List.getElem_toArray, List.getElem_cons_zero, List.getElem_cons_succ]
 refine s_go (s_move) ?_
 try simp only [opv, n1, n2, n3, n4, Value.cells]
 refine x_nil ?_
 refine hK3 _ _ ?_
 refine x_block ?_
 refine x_loop [7, 8, 10, 11, 12, 13, 14, 15, 16, 17, 18, 19, 20, 21, 22] (fun m f w => ∃ k : Nat, k ≤ 16 ∧ m = 16 - k ∧ f 10 = .int .i64 (k : Int) ∧ St NoB w0 w [.obj g3 (.cells (ic .u32 (List.replicate 16 0)) 70 (0, 0)), .obj g2 (.cells (ic .u32 b) 70 (0, 0)), .obj g1 (.cells (ic .u32 (mixv max a b k)) 70 (0, 0))]) (16) ?init1 (fun m1 f1 wl1 hI => ?_)
 case init1 =>
  try simp only [opv, n1, n2, n3, n4, Value.cells]
  exact ⟨0, by omega, rfl, rfl, by rw [mixv_zero]; exact hS⟩
 obtain ⟨k, hk, hm, h10, hS⟩ := hI
 simp only [clob, List.foldl, n3, n4, h10]
 have hml : (mixv max a b k).length = 16 := by rw [mixv_len (by omega), ha]
 refine x_seq fun K4 hK4 => ?_
 refine x_region ?_
 refine s_go (s_lss) ?_
 try simp only [opv, n1, n2, n3, n4, Value.cells]
 refine x_nil ?_
 refine hK4 _ _ ?_
 refine x_seq fun K5 hK5 => ?_
 refine x_cond (ht := fun hc1 => ?_) (hf := fun hc1 => ?_)
 ·
  try simp only [decide_eq_true_eq, decide_eq_false_iff_not, Bool.not_eq_true', Bool.not_eq_false', Int.not_lt, Int.not_le, ne_eq, Decidable.not_not, bne_iff_ne, beq_iff_eq, not_true_eq_false, not_false_eq_true] at hc1
  refine x_skip ?_
  refine hK5 _ _ ?_
  refine x_seq fun K6 hK6 => ?_
  refine x_block ?_
  refine x_seq fun K7 hK7 => ?_
  refine x_region ?_
  refine s_go (s_move) ?_
  try simp only [opv, n1, n2, n3, n4, Value.cells]
  refine s_go (s_index_one Try.underlying70 ti29 Try.underlying29) ?_
  try simp only [opv, n1, n2, n3, n4, Value.cells, Nat.mul_one, Nat.zero_add, Int.toNat_natCast, Int.reduceToNat]
  refine s_go (s_assign) ?_
  try simp only [opv, n1, n2, n3, n4, Value.cells]
  refine s_go (s_assign) ?_
  try simp only [opv, n1, n2, n3, n4, Value.cells]
  refine x_nil ?_
  refine hK7 _ _ ?_
  refine x_region ?_
  refine s_go (s_move) ?_
  try simp only [opv, n1, n2, n3, n4, Value.cells]
  refine s_go (s_move) ?_
  try simp only [opv, n1, n2, n3, n4, Value.cells]
  refine s_go (s_move) ?_
  try simp only [opv, n1, n2, n3, n4, Value.cells]
  refine s_go (m_indexAddr_arr Try.underlying70 ti29) ?_
  try simp only [opv, n1, n2, n3, n4, Value.cells, Nat.mul_one, Nat.zero_add, Int.toNat_natCast, Int.reduceToNat]
  refine s_go (m_load_obj Try.underlying29 (hS := hS)) ?_
  try simp only [opv, n1, n2, n3, n4, Value.cells, List.getElem_toArray, List.getElem_cons_zero, List.getElem_cons_succ]
  refine s_go (s_move) ?_
  try simp only [opv, n1, n2, n3, n4, Value.cells]
  refine s_callv (hv := rfl) en109 ?_
  try simp only [opv, n1, n2, n3, n4, Value.cells, List.map_toArray, List.map_cons, List.map_nil, List.append_toArray, List.cons_append, List.nil_append, Array.append_empty]
  refine CallR.mono (c_vecJoin1 _ _ _) ?_
  rintro _ _ ⟨rfl, rfl⟩
  try simp only [opv, n1, n2, n3, n4, Value.cells]
  refine s_go (m_indexAddr_arr Try.underlying70 ti29) ?_
  try simp only [opv, n1, n2, n3, n4, Value.cells, Nat.mul_one, Nat.zero_add, Int.toNat_natCast, Int.reduceToNat]
  refine m_store_obj ti29 (hS := hS) (h := fun w5 hS => ?_)
  try simp only [opv, n1, n2, n3, n4, Value.cells, Array.toArray_toList] at hS ⊢
  refine x_nil ?_
  refine hK6 _ _ ?_
  refine x_region ?_
  refine s_go (s_add (hc := by exact wr_i64 (by omega) (by omega))) ?_
  try simp only [opv, n1, n2, n3, n4, Value.cells]
  refine s_go (s_move) ?_
  try simp only [opv, n1, n2, n3, n4, Value.cells]
  refine x_nil ?_
  refine loop_back (m' := 16 - (k + 1)) (by simp only [clob, List.foldl, n1, n2, n3, n4]) ?_ ?_
  · try simp only [opv, n1, n2, n3, n4, Value.cells]
    exact ⟨k + 1, by omega, by omega, by rfl, by rw [← mixv_set (by omega) (by omega), ← mixv_get (op := max) (b := b) (k := k) (by omega) (by omega)]; exact hS⟩
  · omega
 ·
  try simp only [decide_eq_true_eq, decide_eq_false_iff_not, Bool.not_eq_true', Bool.not_eq_false', Int.not_lt, Int.not_le, ne_eq, Decidable.not_not, bne_iff_ne, beq_iff_eq, not_true_eq_false, not_false_eq_true] at hc1
  obtain rfl : k = 16 := by omega
  refine x_exit (look_here ?_)
  refine hK2 _ _ ?_
  refine x_seq fun K8 hK8 => ?_
  refine x_region ?_
  refine s_go (m_load_row Try.underlying70 (hi := ti70) (hS := hS)) ?_
  try simp only [opv, n1, n2, n3, n4, Value.cells, List.getElem_toArray, List.getElem_cons_zero, List.getElem_cons_succ]
  refine m_store_obj ti70 (hS := hS) (h := fun w6 hS => ?_)
  try simp only [opv, n1, n2, n3, n4, Value.cells, Array.toArray_toList] at hS ⊢
  refine x_nil ?_
  refine hK8 _ _ ?_
  refine x_ret ?_
  refine r_cell_agg rfl Try.underlying70 ti70 (hS := hS) (hR := ?_)
  exact ⟨by rw [← mixv_all (by omega), ha], hS.ext_of⟩

def vjoin (a b : List Int) : List Int := List.zipWith max a b
def vmeet (a b : List Int) : List Int := List.zipWith min a b
@[simp] theorem vjoin_len (a b : List Int) : (vjoin a b).length = min a.length b.length := by simp [vjoin]
@[simp] theorem vmeet_len (a b : List Int) : (vmeet a b).length = min a.length b.length := by simp [vmeet]
theorem c_vecJoin (a b : List Int) (ha : a.length = 16) (hb : b.length = 16) (w0 : World) :
    CallR Try.prog 86 #[.agg (ic .u32 a), .agg (ic .u32 b)] w0 fun v w' => v = .agg (ic .u32 (vjoin a b)) ∧ Ext w0 w' := by
 have hS : St NoB w0 w0 [] := St.start w0
 refine c_enter (l := [.agg (ic .u32 a), .agg (ic .u32 b), undef, undef, undef, undef, undef, undef]) Try.func86 rfl (by simp only [Try.ntmps86, List.size_toArray, List.length_cons, List.length_nil, Nat.reduceAdd, Nat.reduceSub, Array.replicate_succ, Array.replicate_zero, List.push_toArray, List.append_toArray, List.nil_append, List.cons_append]) ?_
 refine x_seq fun K1 hK1 => ?_
 refine x_region ?_
 refine m_box hS (fun w1 g1 hS => ?_)
 try simp only [opv, n1, n2, n3, n4, Value.cells, Array.toArray_toList] at hS ⊢
 refine m_box hS (fun w2 g2 hS => ?_)
 try simp only [opv, n1, n2, n3, n4, Value.cells, Array.toArray_toList] at hS ⊢
 refine m_alloc ti70 hS (fun w3 g3 hS => ?_)
 try simp only [opv, n1, n2, n3, n4, Value.cells, Array.toArray_toList] at hS ⊢
 refine x_nil ?_
 refine hK1 _ _ ?_
 refine x_seq fun K2 hK2 => ?_
 refine x_region ?_
 refine s_go (m_load_row Try.underlying70 (hi := ti70) (hS := hS)) ?_
 try simp only [opv, n1, n2, n3, n4, Value.cells, List.getElem_toArray, List.getElem_cons_zero, List.getElem_cons_succ]
 refine s_go (m_load_row Try.underlying70 (hi := ti70) (hS := hS)) ?_
 try simp only [opv, n1, n2, n3, n4, Value.cells, List.getElem_toArray, List.getElem_cons_zero, List.getElem_cons_succ]
 refine s_call en108 ?_
 try simp only [opv, n1, n2, n3, n4, Value.cells, List.map_toArray, List.map_cons, List.map_nil, List.append_toArray, List.cons_append, List.nil_append, Array.append_empty]
 refine CallR.mono (c_vecBothJoin a b ha hb _) ?_
 rintro _ w4 ⟨rfl, hE4⟩
 replace hS := hS.ext hE4
 try simp only [opv, n1, n2, n3, n4, Value.cells]
 refine m_store_obj ti70 (hS := hS) (h := fun w5 hS => ?_)
 try simp only [opv, n1, n2, n3, n4, Value.cells, Array.toArray_toList] at hS ⊢
 refine x_nil ?_
 refine hK2 _ _ ?_
 refine x_ret ?_
 refine r_cell_agg rfl Try.underlying70 ti70 (hS := hS) (hR := ?_)
 exact ⟨rfl, hS.ext_of⟩
end Go.Proofs.Ytffmanidnlbjjaa
set_option linter.unusedSimpArgs false
set_option linter.unusedVariables false
set_option maxHeartbeats 3000000
set_option maxRecDepth 100000
namespace Go.Proofs.Ytffmanidnlbjjaa
open Go.RowKit

theorem vok_join {a b : List Int} (ha : VOk a) (hb : VOk b) : VOk (vjoin a b) := ⟨by rw [vjoin_len, ha.len, hb.len]; rfl, fun i => by
  by_cases h : i < 16
  · have h1 := ha.len; have h2 := hb.len
    have e : (vjoin a b).getD i 0 = max (a.getD i 0) (b.getD i 0) := by
      rw [List.getD_eq_getElem?_getD, vjoin, List.getElem?_zipWith, List.getElem?_eq_getElem (by omega), List.getElem?_eq_getElem (by omega), List.getD_eq_getElem?_getD, List.getD_eq_getElem?_getD, List.getElem?_eq_getElem (by omega), List.getElem?_eq_getElem (by omega)]; rfl
    have h3 := ha.nat i; have h4 := hb.nat i
    rw [e]; omega
  · rw [List.getD_eq_getElem?_getD, List.getElem?_eq_none (by rw [vjoin_len, ha.len, hb.len]; omega)]; simp⟩
theorem flo_join {a b : List Int} (ha : VOk a) (hb : VOk b) {d : Int} (hd : MayD d) : flo (vjoin a b) d = max (flo a d) (flo b d) := by
  have h1 := ha.len; have h2 := hb.len
  have h : dR d < 16 := by obtain ⟨x, y, z⟩ := hd; unfold dR; omega
  unfold flo
  rw [List.getD_eq_getElem?_getD, vjoin, List.getElem?_zipWith, List.getElem?_eq_getElem (by omega), List.getElem?_eq_getElem (by omega), List.getD_eq_getElem?_getD, List.getD_eq_getElem?_getD, List.getElem?_eq_getElem (by omega), List.getElem?_eq_getElem (by omega)]; rfl
theorem has_app {v a b : List Int} {x : Int} : HasD v (a ++ b) x ↔ HasD v a x ∨ (MayD x ∧ x ∈ b) := by
  unfold HasD
  rw [List.mem_append]
  constructor
  · rintro ⟨h, h2 | h2 | h2⟩
    · exact .inl ⟨h, .inl h2⟩
    · exact .inl ⟨h, .inr h2⟩
    · exact .inr ⟨h, h2⟩
  · rintro (⟨h, h2⟩ | ⟨h, h2⟩)
    · exact ⟨h, h2.imp id .inl⟩
    · exact ⟨h, .inr (.inr h2)⟩
theorem add_add {v : List Int} (hv : VOk v) (l m : List Int) : addS (addS v l).1 ((addS v l).2 ++ m) = addS v (l ++ m) := by
  have h := add_nrm hv l
  refine (add_nrm h.ns.vok _).uniq (add_nrm hv _) fun x => ?_
  rw [has_app, has_app, h.has]
theorem ns_add {p : List Int × List Int} (h : NS p.1 p.2) : addS p.1 p.2 = p := (add_nrm h.vok p.2).uniq (show Nrm (HasD p.1 p.2) p from ⟨h, fun d => Iff.rfl⟩) fun _ => Iff.rfl
theorem flo_zero (d : Int) : flo (List.replicate 16 0) d = 0 := by
  unfold flo
  rw [List.getD_eq_getElem?_getD, List.getElem?_replicate]; split <;> rfl
theorem has_zero {l : List Int} {x : Int} : HasD (List.replicate 16 0) l x ↔ MayD x ∧ x ∈ l := by
  unfold HasD
  rw [flo_zero]
  constructor
  · rintro ⟨h, h2 | h2⟩
    · obtain ⟨a, b, c⟩ := h; omega
    · exact ⟨h, h2⟩
  · rintro ⟨h, h2⟩; exact ⟨h, .inr h2⟩
theorem has_join {a b : List Int × List Int} (ha : NS a.1 a.2) (hb : NS b.1 b.2) {x : Int} : HasD (vjoin a.1 b.1) (a.2 ++ b.2) x ↔ HasD a.1 a.2 x ∨ HasD b.1 b.2 x := by
  unfold HasD
  rw [List.mem_append]
  constructor
  · rintro ⟨h, h2⟩
    rw [flo_join ha.vok hb.vok h] at h2
    rcases h2 with h2 | h2 | h2
    · by_cases q : x % 4294967296 ≤ flo a.1 x
      · exact .inl ⟨h, .inl q⟩
      · exact .inr ⟨h, .inl (by omega)⟩
    · exact .inl ⟨h, .inr h2⟩
    · exact .inr ⟨h, .inr h2⟩
  · rintro (⟨h, h2⟩ | ⟨h, h2⟩) <;> rw [flo_join ha.vok hb.vok h]
    · exact ⟨h, h2.elim (fun q => .inl (by omega)) (fun q => .inr (.inl q))⟩
    · exact ⟨h, h2.elim (fun q => .inl (by omega)) (fun q => .inr (.inr q))⟩
def joinS (a b : List Int × List Int) : List Int × List Int := addS (vjoin a.1 b.1) (a.2 ++ b.2)
theorem sum_join : ∀ {a b : List Int}, (∀ i : Nat, 0 ≤ a.getD i 0) → (∀ i : Nat, 0 ≤ b.getD i 0) → (vjoin a b).sum ≤ a.sum + b.sum
  | [], b, _, hb => by have := vsum_pos hb; simp [vjoin]; omega
  | x :: a, [], ha, _ => by have := vsum_pos ha; simp only [vjoin, List.zipWith_nil_right, List.sum_nil] at this ⊢; omega
  | x :: a, y :: b, ha, hb => by
    have h1 := ha 0; have h2 := hb 0
    simp only [List.getD_cons_zero] at h1 h2
    have ih := sum_join (a := a) (b := b) (fun i => by have := ha (i + 1); simpa using this) (fun i => by have := hb (i + 1); simpa using this)
    have e : (vjoin (x :: a) (y :: b)).sum = max x y + (vjoin a b).sum := by simp [vjoin]
    rw [e, List.sum_cons, List.sum_cons]; omega
theorem cnt_join {l m : List Int} : cntS (joinS (addS (List.replicate 16 0) l) (addS (List.replicate 16 0) m)) ≤ (l.length : Int) + m.length := by
  have ha := (add_nrm VOk.zero l).ns
  have hb := (add_nrm VOk.zero m).ns
  have h1 := cnt_add (vok_join ha.vok hb.vok) ((addS (List.replicate 16 0) l).2 ++ (addS (List.replicate 16 0) m).2)
  have h2 := sum_join (fun i => (ha.vok.nat i).1) (fun i => (hb.vok.nat i).1)
  have h3 := cnt_add VOk.zero l
  have h4 := cnt_add VOk.zero m
  have h5 : (List.replicate 16 (0 : Int)).sum = 0 := by decide
  rw [h5] at h3 h4
  rw [List.length_append] at h1
  unfold joinS
  unfold cntS at h3 h4
  omega
theorem ns_join {a b : List Int × List Int} (ha : NS a.1 a.2) (hb : NS b.1 b.2) : NS (joinS a b).1 (joinS a b).2 := (add_nrm (vok_join ha.vok hb.vok) _).ns
theorem step_join {l m : List Int} : addS (List.replicate 16 0) (m.reverse ++ l) = joinS (addS (List.replicate 16 0) l) (addS (List.replicate 16 0) m) := by
  have ha := add_nrm VOk.zero l
  have hb := add_nrm VOk.zero m
  refine (add_nrm VOk.zero _).uniq (add_nrm (vok_join ha.ns.vok hb.ns.vok) _) fun x => ?_
  rw [has_join ha.ns hb.ns, ha.has, hb.has, has_zero, has_zero, has_zero, List.mem_append, List.mem_reverse]
  constructor
  · rintro ⟨h, h2 | h2⟩
    · exact .inr ⟨h, h2⟩
    · exact .inl ⟨h, h2⟩
  · rintro (⟨h, h2⟩ | ⟨h, h2⟩)
    · exact ⟨h, .inr h2⟩
    · exact ⟨h, .inl h2⟩
theorem drop_rev {m : List Int} {k : Nat} (hk : k < m.length) : (m.drop (k + 1)).reverse ++ [m.getD k 0] = (m.drop k).reverse := by
  rw [List.drop_eq_getElem_cons hk, List.reverse_cons, getD_ltz hk]
theorem sum_take {v : List Int} {k : Nat} (hk : k < v.length) : (v.take (k + 1)).sum = (v.take k).sum + v.getD k 0 := by
  rw [List.take_succ_eq_append_getElem hk, List.sum_append, ← getD_ltz hk]; simp
theorem sum_bd : ∀ {v : List Int} {k : Nat}, (∀ i : Nat, 0 ≤ v.getD i 0 ∧ v.getD i 0 ≤ 4294967295) → k ≤ v.length → 0 ≤ (v.take k).sum ∧ (v.take k).sum ≤ 4294967295 * k
  | v, 0, _, _ => by simp
  | v, k + 1, h, hk => by
    have ih := sum_bd (v := v) (k := k) h (by omega)
    have h2 := h k
    rw [sum_take (by omega)]
    omega
end Go.Proofs.Ytffmanidnlbjjaa
