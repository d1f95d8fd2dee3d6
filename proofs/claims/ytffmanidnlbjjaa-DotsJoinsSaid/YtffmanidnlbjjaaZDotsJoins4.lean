/- Rules, plain words and walks that the claim leans on: Ri, Lzopen5, Tb, Vj, Tc. -/
import Derived.Test.YtffmanidnlbjjaaZDotsJoins3
set_option linter.unusedSimpArgs false
set_option linter.unusedVariables false
set_option linter.unusedSimpArgs false
set_option linter.unusedVariables false
set_option maxHeartbeats 3000000
set_option maxRecDepth 100000
namespace Go.Proofs.Ytffmanidnlbjjaa
open Go.RowKit
theorem c_DotsJoins (w0 : World) (x y : List Int) (hx : VOk x) (hy : VOk y) (A : Option Addr) (c : Nat) (cl : List Int) (hr : Rd w0 A 1 cl.length (List.map (Value.int .u64) cl)) (hu : U64s cl) (B : Option Addr) (d : Nat) (cm : List Int) (hr2 : Rd w0 B 1 cm.length (List.map (Value.int .u64) cm)) (hu2 : U64s cm)  :
    CallR Try.prog 8 #[.agg (SetC x (.slice A cl.length c)), .agg (SetC y (.slice B cm.length d))] w0 fun v w' => v = .bool true ∧ Ext w0 w' := by
 have hS := St.rd2 (S := NoB) hr hr2
 have hxl := hx.len
 have hyl := hy.len
 have h0l : (List.replicate 16 (0 : Int)).length = 16 := rfl
 have hpx := addS_ok hx cl
 have hpy := addS_ok hy cm
 have hpxl := hpx.1.len
 have hpyl := hpy.1.len
 have hpxu := hpx.2.1
 have hpyu := hpy.2.1
 have hpxn := hpx.2.2
 have hpyn := hpy.2.2
 refine c_enter (l := [.agg (SetC x (.slice A cl.length c)), .agg (SetC y (.slice B cm.length d)), undef, undef, undef, undef, undef, undef, undef, undef, undef, undef, undef, undef, undef, undef, undef, undef, undef, undef, undef, undef, undef, undef, undef, undef, undef, undef, undef, undef, undef, undef, undef, undef, undef, undef, undef, undef, undef, undef, undef, undef, undef, undef, undef, undef, undef, undef, undef, undef, undef, undef, undef, undef, undef]) Try.func8 rfl (by simp only [Try.ntmps8, List.size_toArray, List.length_cons, List.length_nil, Nat.reduceAdd, Nat.reduceSub, Array.replicate_succ, Array.replicate_zero, List.push_toArray, List.append_toArray, List.nil_append, List.cons_append]) ?_
 refine x_seq fun K1 hK1 => ?_
 refine x_region ?_
 refine m_box hS (fun w1 g1 hS => ?_)
 try simp only [opv, n1, n2, n3, n4, Value.cells, Array.toArray_toList] at hS ⊢
 obtain ⟨gx, hgx⟩ : ∃ z, z = g1 := ⟨_, rfl⟩
 rw [← hgx] at hS ⊢
 refine m_box hS (fun w2 g2 hS => ?_)
 try simp only [opv, n1, n2, n3, n4, Value.cells, Array.toArray_toList] at hS ⊢
 obtain ⟨gy, hgy⟩ : ∃ z, z = g2 := ⟨_, rfl⟩
 rw [← hgy] at hS ⊢
 replace hS := hS.rd_none none 1
 refine s_go (s_assign) ?_
 try simp only [opv, n1, n2, n3, n4, Value.cells]
 refine x_nil ?_
 refine hK1 _ _ ?_
 refine x_seq fun K2 hK2 => ?_
 refine x_seq fun K3 hK3 => ?_
 refine x_region ?_
 first | refine s_go (m_fieldAddr Try.underlying67 (hi := ti65)) ?_ | refine s_go (m_fieldAddr_rd Try.underlying67 (hi := ti65) (hS := hS)) ?_ | refine s_go (m_fieldAddr_vec Try.underlying67 (hi := ti65) (hS := hS)) ?_
 try simp only [opv, n1, n2, n3, n4, Value.cells, Nat.zero_add, Nat.add_zero, List.getElem_toArray, List.getElem_cons_zero, List.getElem_cons_succ]
 refine s_go (m_load_obj Try.underlying65 (hS := hS) (hv := set_sl (by assumption) _)) ?_
 try simp only [opv, n1, n2, n3, n4, Value.cells, List.getElem_toArray, List.getElem_cons_zero, List.getElem_cons_succ]
 refine s_go (s_len_sl Try.underlying65) ?_
 try simp only [opv, n1, n2, n3, n4, Value.cells]
 refine s_go (s_gtr) ?_
 try simp only [opv, n1, n2, n3, n4, Value.cells]
 refine s_go (s_move) ?_
 try simp only [opv, n1, n2, n3, n4, Value.cells]
 refine s_part 10 rfl (fun hp1 => ?_) (fun hp1 => ?_)
 ·
  try simp only [n3, n4]
  try simp only [decide_eq_true_eq, decide_eq_false_iff_not, Bool.not_eq_true', Bool.not_eq_false', Int.not_lt, Int.not_le, ne_eq, Decidable.not_not] at hp1
  first
  | (exfalso; omega)
  | skip
    refine g_off (yi (t := 10) rfl rfl) ?_
    try simp only [opv, n1, n2, n3, n4, Value.cells]
    refine g_off (yi (t := 10) rfl rfl) ?_
    try simp only [opv, n1, n2, n3, n4, Value.cells]
    refine g_off (yi (t := 10) rfl rfl) ?_
    try simp only [opv, n1, n2, n3, n4, Value.cells]
    refine g_off (yi (t := 10) rfl rfl) ?_
    try simp only [opv, n1, n2, n3, n4, Value.cells]
    first | refine s_go (s_pick_t) ?_ | refine s_go (s_pick_f) ?_
    try simp only [opv, n1, n2, n3, n4, Value.cells]
    refine x_nil ?_
    refine hK3 _ _ ?_
    refine x_cond_t (h := ?_)
    refine x_seq fun K4 hK4 => ?_
    refine x_region ?_
    refine s_call en31 ?_
    try simp only [opv, n1, n2, n3, n4, Value.cells, List.map_toArray, List.map_cons, List.map_nil, List.append_toArray, List.cons_append, List.nil_append, Array.append_empty]
    refine CallR.mono (c_law13alive _) ?_
    rintro _ w3 ⟨rfl, hE3⟩
    replace hS := hS.ext hE3
    try simp only [opv, n1, n2, n3, n4, Value.cells]
    refine s_go (s_assign) ?_
    try simp only [opv, n1, n2, n3, n4, Value.cells]
    refine x_nil ?_
    refine hK4 _ _ ?_
    refine x_ret ?_
    refine r_tmp rfl ?_
    first | exact ⟨rfl, hEE⟩ | exact ⟨rfl, hS.ext_of⟩
 ·
  try simp only [n3, n4]
  try simp only [decide_eq_true_eq, decide_eq_false_iff_not, Bool.not_eq_true', Bool.not_eq_false', Int.not_lt, Int.not_le, ne_eq, Decidable.not_not] at hp1
  first
  | (exfalso; omega)
  | skip
    refine g_on (yi (t := 10) rfl rfl) ?_
    first | refine s_go (m_fieldAddr Try.underlying67 (hi := ti65)) ?_ | refine s_go (m_fieldAddr_rd Try.underlying67 (hi := ti65) (hS := hS)) ?_ | refine s_go (m_fieldAddr_vec Try.underlying67 (hi := ti65) (hS := hS)) ?_
    try simp only [opv, n1, n2, n3, n4, Value.cells, Nat.zero_add, Nat.add_zero, List.getElem_toArray, List.getElem_cons_zero, List.getElem_cons_succ]
    refine g_on (yi (t := 10) rfl rfl) ?_
    refine s_go (m_load_obj Try.underlying65 (hS := hS) (hv := set_sl (by assumption) _)) ?_
    try simp only [opv, n1, n2, n3, n4, Value.cells, List.getElem_toArray, List.getElem_cons_zero, List.getElem_cons_succ]
    refine g_on (yi (t := 10) rfl rfl) ?_
    refine s_go (s_len_sl Try.underlying65) ?_
    try simp only [opv, n1, n2, n3, n4, Value.cells]
    refine g_on (yi (t := 10) rfl rfl) ?_
    refine s_go (s_gtr) ?_
    try simp only [opv, n1, n2, n3, n4, Value.cells]
    first | refine s_go (s_pick_t) ?_ | refine s_go (s_pick_f) ?_
    try simp only [opv, n1, n2, n3, n4, Value.cells]
    refine x_nil ?_
    refine hK3 _ _ ?_
    refine x_cond (ht := fun hc2 => ?_) (hf := fun hc2 => ?_)
    ·
     try simp only [decide_eq_true_eq, decide_eq_false_iff_not, Bool.not_eq_true', Bool.not_eq_false', Int.not_lt, Int.not_le, ne_eq, Decidable.not_not, bne_iff_ne, beq_iff_eq, not_true_eq_false, not_false_eq_true] at hc2
     first
     | (exfalso; omega)
     | skip
       refine x_seq fun K5 hK5 => ?_
       refine x_region ?_
       refine s_call en31 ?_
       try simp only [opv, n1, n2, n3, n4, Value.cells, List.map_toArray, List.map_cons, List.map_nil, List.append_toArray, List.cons_append, List.nil_append, Array.append_empty]
       refine CallR.mono (c_law13alive _) ?_
       rintro _ w4 ⟨rfl, hE4⟩
       replace hS := hS.ext hE4
       try simp only [opv, n1, n2, n3, n4, Value.cells]
       refine s_go (s_assign) ?_
       try simp only [opv, n1, n2, n3, n4, Value.cells]
       refine x_nil ?_
       refine hK5 _ _ ?_
       refine x_ret ?_
       refine r_tmp rfl ?_
       first | exact ⟨rfl, hEE⟩ | exact ⟨rfl, hS.ext_of⟩
    ·
     try simp only [decide_eq_true_eq, decide_eq_false_iff_not, Bool.not_eq_true', Bool.not_eq_false', Int.not_lt, Int.not_le, ne_eq, Decidable.not_not, bne_iff_ne, beq_iff_eq, not_true_eq_false, not_false_eq_true] at hc2
     first
     | (exfalso; omega)
     | skip
       have hln : cl.length + cm.length ≤ 80 := by omega
       have hvj := vok_join hx hy
       obtain ⟨J, hJ⟩ : ∃ J, joinS (x, cl) (y, cm) = J := ⟨_, rfl⟩
       have hjo : VOk J.1 ∧ U64s J.2 ∧ J.2.length ≤ (cl ++ cm).length := by rw [← hJ]; exact addS_ok hvj (cl ++ cm)
       obtain ⟨hjv, hju, hjn⟩ := hjo
       have hjl := hjv.len
       rw [List.length_append] at hjn
       have hll := les_len (addS x cl).2 y cm
       have hlu := les_u64 (y := y) (cm := cm) hpxu
       refine x_skip ?_
       refine hK2 _ _ ?_
       refine x_seq fun K6 hK6 => ?_
       refine x_mixed_c (Lc := [.obj gx (.cells (SetC x (.slice A cl.length c)) 67 (0, 0)), .obj gy (.cells (SetC y (.slice B cm.length d)) 67 (0, 0)), .rd A 1 cl.length (List.map (Value.int .u64) cl), .rd B 1 cm.length (List.map (Value.int .u64) cm), .rd none 1 0 []]) [] 0 [5, 17, 18, 19, 20, 21] (fun f w => f 5 = .bool (decide (addS x cl = addS y cm)) ∧ St NoB w0 w [.obj gx (.cells (SetC x (.slice A cl.length c)) 67 (0, 0)), .obj gy (.cells (SetC y (.slice B cm.length d)) 67 (0, 0)), .rd A 1 cl.length (List.map (Value.int .u64) cl), .rd B 1 cm.length (List.map (Value.int .u64) cm), .rd none 1 0 []]) (by kernel_rfl) (by kernel_rfl) (by kernel_rfl) (by decide) hS (fun w5 hS => ?mixpre301) ?mixrest301
       case mixpre301 =>
        refine p_nil ?_
        simp only [List.length_cons, List.length_nil, Nat.reduceAdd, Nat.reduceSub]
        refine any_go (i := 0) (by rfl) (by decide +kernel) (by decide +kernel) noLate_nil (go_yields w_none (fun w hS => m_load_row Try.underlying67 (hi := ti67) (hS := hS) (hfit := by rw [setC_size (by assumption)]))) ?_
        try simp only [opv, n1, n2, n3, n4, Value.cells, List.getElem_toArray, List.getElem_cons_zero, List.getElem_cons_succ]
        refine any_go (i := 2) (by rfl) (by decide +kernel) (by decide +kernel) noLate_nil (go_yields w_none (fun w hS => m_load_row Try.underlying67 (hi := ti67) (hS := hS) (hfit := by rw [setC_size (by assumption)]))) ?_
        try simp only [opv, n1, n2, n3, n4, Value.cells, List.getElem_toArray, List.getElem_cons_zero, List.getElem_cons_succ]
        refine any_step [1] (by kernel_rfl) (by decide) (fun w6 hE => ⟨fun _ => (hS.ext hE).sel (by repeat (first | exact Sel.nil | (refine Sel.cons (by repeat (first | exact Del.head | apply Del.tail)) ?_))), ?_⟩)
        replace hS := hS.ext hE
        intro i hi
        simp only [List.mem_cons, List.not_mem_nil, or_false] at hi
        subst hi
        ·
         refine any_op (by rfl) ?_
         refine s_call en35 ?_
         try simp only [opv, n1, n2, n3, n4, Value.cells, List.map_toArray, List.map_cons, List.map_nil, List.append_toArray, List.cons_append, List.nil_append, Array.append_empty]
         refine CallR.mono (c_ref13Add _ x hx A c cl (hS.hasRd (by repeat (first | exact Has.head | apply Has.tail))) hu none 0 [] (hS.hasRd (by repeat (first | exact Has.head | apply Has.tail))) U64s.nil (by rw [List.length_nil]; omega)) ?_
         rintro _ w7 ⟨D, e, rfl, hC7⟩
         replace hS := hS.call hC7
         simp only [List.cons_append, List.nil_append, List.append_nil] at hS ⊢
         try simp only [opv, n1, n2, n3, n4, Value.cells]
         refine x_nil ?_
         refine any_step [3] (by kernel_rfl) (by decide) (fun w8 hE => ⟨fun _ => (hS.ext hE).sel (by repeat (first | exact Sel.nil | (refine Sel.cons (by repeat (first | exact Del.head | apply Del.tail)) ?_))), ?_⟩)
         replace hS := hS.ext hE
         intro i hi
         simp only [List.mem_cons, List.not_mem_nil, or_false] at hi
         subst hi
         ·
          refine any_op (by rfl) ?_
          refine s_call en35 ?_
          try simp only [opv, n1, n2, n3, n4, Value.cells, List.map_toArray, List.map_cons, List.map_nil, List.append_toArray, List.cons_append, List.nil_append, Array.append_empty]
          refine CallR.mono (c_ref13Add _ y hy B d cm (hS.hasRd (by repeat (first | exact Has.head | apply Has.tail))) hu2 none 0 [] (hS.hasRd (by repeat (first | exact Has.head | apply Has.tail))) U64s.nil (by rw [List.length_nil]; omega)) ?_
          rintro _ w9 ⟨D2, e2, rfl, hC9⟩
          replace hS := hS.call hC9
          simp only [List.cons_append, List.nil_append, List.append_nil] at hS ⊢
          try simp only [opv, n1, n2, n3, n4, Value.cells]
          refine x_nil ?_
          refine any_step [4] (by kernel_rfl) (by decide) (fun w10 hE => ⟨fun _ => (hS.ext hE).sel (by repeat (first | exact Sel.nil | (refine Sel.cons (by repeat (first | exact Del.head | apply Del.tail)) ?_))), ?_⟩)
          replace hS := hS.ext hE
          intro i hi
          simp only [List.mem_cons, List.not_mem_nil, or_false] at hi
          subst hi
          ·
           refine any_op (by rfl) ?_
           refine s_call en32 ?_
           try simp only [opv, n1, n2, n3, n4, Value.cells, List.map_toArray, List.map_cons, List.map_nil, List.append_toArray, List.cons_append, List.nil_append, Array.append_empty]
           refine CallR.mono (c_ref13Same _ _ _ hpxl hpyl D e _ (hS.vecRd (by repeat (first | exact Has.head | apply Has.tail))) hpxu D2 e2 _ (hS.vecRd (by repeat (first | exact Has.head | apply Has.tail))) hpyu (by omega)) ?_
           rintro _ w11 ⟨rfl, hE11⟩
           replace hS := hS.ext hE11
           try simp only [opv, n1, n2, n3, n4, Value.cells]
           refine x_nil ?_
           refine any_go (i := 5) (by rfl) (by decide +kernel) (by decide +kernel) noLate_nil (go_yields w_none (fun w hS => s_assign)) ?_
           try simp only [opv, n1, n2, n3, n4, Value.cells]
           refine any_nil (by kernel_rfl) (fun w12 hE => ?_)
           replace hS := hS.ext hE
           refine ⟨fun _ => hS.sel (by repeat (first | exact Sel.nil | (refine Sel.cons (by repeat (first | exact Del.head | apply Del.tail)) ?_))), ?_⟩
           refine mix_leaf (by simp only [clob, List.foldl, n1, n2, n3, n4]) ?_
           try simp only [n1, n2]
           exact ⟨by first | trivial | rfl, hS.sel (by repeat (first | exact Sel.nil | (refine Sel.cons (by repeat (first | exact Del.head | apply Del.tail)) ?_)))⟩
       intro fm1 w13 hM
       obtain ⟨h5, hS⟩ := hM
       simp only [clob, List.foldl, n3, n4, h5]
       refine hK6 _ _ ?_
       refine x_seq fun K7 hK7 => ?_
       refine x_mixed_c (Lc := [.obj gx (.cells (SetC x (.slice A cl.length c)) 67 (0, 0)), .obj gy (.cells (SetC y (.slice B cm.length d)) 67 (0, 0)), .rd A 1 cl.length (List.map (Value.int .u64) cl), .rd B 1 cm.length (List.map (Value.int .u64) cm), .rd none 1 0 []]) [] 0 [4, 22, 23, 24, 25, 26, 27, 28, 29, 30, 31, 32, 33, 34, 35, 36, 37, 38, 39, 40, 41, 42, 43, 44, 45, 46, 47, 48, 49, 50, 51, 52, 53, 54] (fun f w => f 4 = .bool true ∧ Ext w0 w) (by kernel_rfl) (by kernel_rfl) (by kernel_rfl) (by decide) hS (fun w14 hS => ?mixpre402) ?mixrest402
       case mixpre402 =>
        refine p_nil ?_
        simp only [List.length_cons, List.length_nil, Nat.reduceAdd, Nat.reduceSub]
        refine any_go (i := 0) (by rfl) (by decide +kernel) (by decide +kernel) noLate_nil (go_yields w_none (fun w hS => m_load_row Try.underlying67 (hi := ti67) (hS := hS) (hfit := by rw [setC_size (by assumption)]))) ?_
        try simp only [opv, n1, n2, n3, n4, Value.cells, List.getElem_toArray, List.getElem_cons_zero, List.getElem_cons_succ]
        apply any_go (i := 1) (by rfl) (by decide +kernel) (by decide +kernel) noLate_nil (call_yields w_none en37 ?H1) ?K1
        case H1 =>
          intro w hS
          try simp only [opv, n1, n2, n3, n4, List.map_toArray, List.map_cons, List.map_nil, List.append_toArray, List.cons_append, List.nil_append, Array.append_empty]
          refine CallR.mono (c_to13 _ (by assumption) _ _ _ _) ?_
          rintro _ w1 ⟨rfl, hE⟩; exact ⟨rfl, hE⟩
        try simp only [opv, n1, n2, n3, n4, Value.cells]
        refine any_go (i := 2) (by rfl) (by decide +kernel) (by decide +kernel) noLate_nil (go_yields w_none (fun w hS => m_load_row Try.underlying67 (hi := ti67) (hS := hS) (hfit := by rw [setC_size (by assumption)]))) ?_
        try simp only [opv, n1, n2, n3, n4, Value.cells, List.getElem_toArray, List.getElem_cons_zero, List.getElem_cons_succ]
        apply any_go (i := 3) (by rfl) (by decide +kernel) (by decide +kernel) noLate_nil (call_yields w_none en37 ?H2) ?K2
        case H2 =>
          intro w hS
          try simp only [opv, n1, n2, n3, n4, List.map_toArray, List.map_cons, List.map_nil, List.append_toArray, List.cons_append, List.nil_append, Array.append_empty]
          refine CallR.mono (c_to13 _ (by assumption) _ _ _ _) ?_
          rintro _ w1 ⟨rfl, hE⟩; exact ⟨rfl, hE⟩
        try simp only [opv, n1, n2, n3, n4, Value.cells]
        refine any_go (i := 6) (by rfl) (by decide +kernel) (by decide +kernel) noLate_nil (go_yields w_none (fun w hS => m_load_row Try.underlying67 (hi := ti67) (hS := hS) (hfit := by rw [setC_size (by assumption)]))) ?_
        try simp only [opv, n1, n2, n3, n4, Value.cells, List.getElem_toArray, List.getElem_cons_zero, List.getElem_cons_succ]
        refine any_go (i := 7) (by rfl) (by decide +kernel) (by decide +kernel) noLate_nil (go_yields w_none (fun w hS => m_load_row Try.underlying67 (hi := ti67) (hS := hS) (hfit := by rw [setC_size (by assumption)]))) ?_
        try simp only [opv, n1, n2, n3, n4, Value.cells, List.getElem_toArray, List.getElem_cons_zero, List.getElem_cons_succ]
        refine any_step [4] (by kernel_rfl) (by decide) (fun w15 hE => ⟨fun _ => (hS.ext hE).sel (by repeat (first | exact Sel.nil | (refine Sel.cons (by repeat (first | exact Del.head | apply Del.tail)) ?_))), ?_⟩)
        replace hS := hS.ext hE
        intro i hi
        simp only [List.mem_cons, List.not_mem_nil, or_false] at hi
        subst hi
        ·
         refine any_op (by rfl) ?_
         refine s_call en44 ?_
         try simp only [opv, n1, n2, n3, n4, Value.cells, List.map_toArray, List.map_cons, List.map_nil, List.append_toArray, List.cons_append, List.nil_append, Array.append_empty]
         refine CallR.mono (c_dotsJoin _ x y hx hy A c cl (hS.hasRd (by repeat (first | exact Has.head | apply Has.tail))) hu B d cm (hS.hasRd (by repeat (first | exact Has.head | apply Has.tail))) hu2 (by omega)) ?_
         rintro _ w16 ⟨D0, e0, rfl, hC16⟩
         replace hS := hS.call hC16
         simp only [List.cons_append, List.nil_append, List.append_nil] at hS ⊢
         rw [hJ] at hS ⊢
         try simp only [opv, n1, n2, n3, n4, Value.cells]
         refine x_nil ?_
         apply any_go (i := 5) (by rfl) (by decide +kernel) (by decide +kernel) noLate_nil (call_yields w_none en33 ?H3) ?K3
         case H3 =>
           intro w hS
           try simp only [opv, n1, n2, n3, n4, List.map_toArray, List.map_cons, List.map_nil, List.append_toArray, List.cons_append, List.nil_append, Array.append_empty]
           refine CallR.mono (c_from13 _ (by assumption) _ _ _ _) ?_
           rintro _ w1 ⟨rfl, hE⟩; exact ⟨rfl, hE⟩
         try simp only [opv, n1, n2, n3, n4, Value.cells]
         refine any_step [8] (by kernel_rfl) (by decide) (fun w17 hE => ⟨fun _ => (hS.ext hE).sel (by repeat (first | exact Sel.nil | (refine Sel.cons (by repeat (first | exact Del.head | apply Del.tail)) ?_))), ?_⟩)
         replace hS := hS.ext hE
         intro i hi
         simp only [List.mem_cons, List.not_mem_nil, or_false] at hi
         subst hi
         ·
          refine any_op (by rfl) ?_
          refine s_call en47 ?_
          try simp only [opv, n1, n2, n3, n4, Value.cells, List.map_toArray, List.map_cons, List.map_nil, List.append_toArray, List.cons_append, List.nil_append, Array.append_empty]
          refine CallR.mono (c_ref13Join _ x y hx hy A c cl (hS.hasRd (by repeat (first | exact Has.head | apply Has.tail))) hu B d cm (hS.hasRd (by repeat (first | exact Has.head | apply Has.tail))) hu2 (by omega)) ?_
          rintro _ w18 ⟨D1, e1, rfl, hC18⟩
          replace hS := hS.call hC18
          simp only [List.cons_append, List.nil_append, List.append_nil] at hS ⊢
          rw [hJ] at hS ⊢
          try simp only [opv, n1, n2, n3, n4, Value.cells]
          refine x_nil ?_
          refine any_step [9] (by kernel_rfl) (by decide) (fun w19 hE => ⟨fun _ => (hS.ext hE).sel (by repeat (first | exact Sel.nil | (refine Sel.cons (by repeat (first | exact Del.head | apply Del.tail)) ?_))), ?_⟩)
          replace hS := hS.ext hE
          intro i hi
          simp only [List.mem_cons, List.not_mem_nil, or_false] at hi
          subst hi
          ·
           refine any_op (by rfl) ?_
           refine s_call en32 ?_
           try simp only [opv, n1, n2, n3, n4, Value.cells, List.map_toArray, List.map_cons, List.map_nil, List.append_toArray, List.cons_append, List.nil_append, Array.append_empty]
           refine CallR.mono (c_ref13Same _ _ _ hjl hjl D0 e0 _ (hS.vecRd (by repeat (first | exact Has.head | apply Has.tail))) hju D1 e1 _ (hS.vecRd (by repeat (first | exact Has.head | apply Has.tail))) hju (by omega)) ?_
           rintro _ w20 ⟨rfl, hE20⟩
           replace hS := hS.ext hE20
           try simp only [opv, n1, n2, n3, n4, Value.cells]
           try simp only [eq_self, decide_true, beq_self_eq_true, Bool.and_self]
           refine x_nil ?_
           refine any_go (i := 10) (by rfl) (by decide +kernel) (by decide +kernel) noLate_nil (go_yields w_none (fun w hS => s_move)) ?_
           try simp only [opv, n1, n2, n3, n4, Value.cells]
           refine any_go (i := 11) (by rfl) (by decide +kernel) (by decide +kernel) noLate_nil (go_yields (w_on (yi (t := 32) rfl rfl)) (fun w hS => m_load_row Try.underlying67 (hi := ti67) (hS := hS) (hfit := by rw [setC_size (by assumption)]))) ?_
           try simp only [opv, n1, n2, n3, n4, Value.cells, List.getElem_toArray, List.getElem_cons_zero, List.getElem_cons_succ]
           apply any_go (i := 12) (by rfl) (by decide +kernel) (by decide +kernel) noLate_nil (call_yields (w_on (yi (t := 32) rfl rfl)) en37 ?H4) ?K4
           case H4 =>
             intro w hS
             try simp only [opv, n1, n2, n3, n4, List.map_toArray, List.map_cons, List.map_nil, List.append_toArray, List.cons_append, List.nil_append, Array.append_empty]
             refine CallR.mono (c_to13 _ (by assumption) _ _ _ _) ?_
             rintro _ w1 ⟨rfl, hE⟩; exact ⟨rfl, hE⟩
           try simp only [opv, n1, n2, n3, n4, Value.cells]
           refine any_go (i := 13) (by rfl) (by decide +kernel) (by decide +kernel) noLate_nil (go_yields (w_on (yi (t := 32) rfl rfl)) (fun w hS => m_load_row Try.underlying67 (hi := ti67) (hS := hS) (hfit := by rw [setC_size (by assumption)]))) ?_
           try simp only [opv, n1, n2, n3, n4, Value.cells, List.getElem_toArray, List.getElem_cons_zero, List.getElem_cons_succ]
           apply any_go (i := 14) (by rfl) (by decide +kernel) (by decide +kernel) noLate_nil (call_yields (w_on (yi (t := 32) rfl rfl)) en37 ?H5) ?K5
           case H5 =>
             intro w hS
             try simp only [opv, n1, n2, n3, n4, List.map_toArray, List.map_cons, List.map_nil, List.append_toArray, List.cons_append, List.nil_append, Array.append_empty]
             refine CallR.mono (c_to13 _ (by assumption) _ _ _ _) ?_
             rintro _ w1 ⟨rfl, hE⟩; exact ⟨rfl, hE⟩
           try simp only [opv, n1, n2, n3, n4, Value.cells]
           refine any_go (i := 16) (by rfl) (by decide +kernel) (by decide +kernel) noLate_nil (go_yields (w_on (yi (t := 32) rfl rfl)) (fun w hS => m_load_row Try.underlying67 (hi := ti67) (hS := hS) (hfit := by rw [setC_size (by assumption)]))) ?_
           try simp only [opv, n1, n2, n3, n4, Value.cells, List.getElem_toArray, List.getElem_cons_zero, List.getElem_cons_succ]
           refine any_go (i := 17) (by rfl) (by decide +kernel) (by decide +kernel) noLate_nil (go_yields (w_on (yi (t := 32) rfl rfl)) (fun w hS => m_load_row Try.underlying67 (hi := ti67) (hS := hS) (hfit := by rw [setC_size (by assumption)]))) ?_
           try simp only [opv, n1, n2, n3, n4, Value.cells, List.getElem_toArray, List.getElem_cons_zero, List.getElem_cons_succ]
           refine any_step [15] (by kernel_rfl) (by decide) (fun w21 hE => ⟨fun _ => (hS.ext hE).sel (by repeat (first | exact Sel.nil | (refine Sel.cons (by repeat (first | exact Del.head | apply Del.tail)) ?_))), ?_⟩)
           replace hS := hS.ext hE
           intro i hi
           simp only [List.mem_cons, List.not_mem_nil, or_false] at hi
           subst hi
           ·
            refine any_op (by rfl) ?_
            refine g_on (yi (t := 32) rfl rfl) ?_
            refine s_call en49 ?_
            try simp only [opv, n1, n2, n3, n4, Value.cells, List.map_toArray, List.map_cons, List.map_nil, List.append_toArray, List.cons_append, List.nil_append, Array.append_empty]
            refine CallR.mono (c_dotsLess _ x y hx hy A c cl (hS.hasRd (by repeat (first | exact Has.head | apply Has.tail))) hu B d cm (hS.hasRd (by repeat (first | exact Has.head | apply Has.tail))) hu2 (by omega)) ?_
            rintro _ w22 ⟨D2, e2, rfl, hC22⟩
            replace hS := hS.call hC22
            simp only [List.cons_append, List.nil_append, List.append_nil] at hS ⊢
            try simp only [opv, n1, n2, n3, n4, Value.cells]
            refine x_nil ?_
            refine any_step [18] (by kernel_rfl) (by decide) (fun w23 hE => ⟨fun _ => (hS.ext hE).sel (by repeat (first | exact Sel.nil | (refine Sel.cons (by repeat (first | exact Del.head | apply Del.tail)) ?_))), ?_⟩)
            replace hS := hS.ext hE
            intro i hi
            simp only [List.mem_cons, List.not_mem_nil, or_false] at hi
            subst hi
            ·
             refine any_op (by rfl) ?_
             refine g_on (yi (t := 32) rfl rfl) ?_
             refine s_call en50 ?_
             try simp only [opv, n1, n2, n3, n4, Value.cells, List.map_toArray, List.map_cons, List.map_nil, List.append_toArray, List.cons_append, List.nil_append, Array.append_empty]
             refine CallR.mono (c_ref13Less _ x y hx hy A c cl (hS.hasRd (by repeat (first | exact Has.head | apply Has.tail))) hu B d cm (hS.hasRd (by repeat (first | exact Has.head | apply Has.tail))) hu2 (by omega)) ?_
             rintro _ w24 ⟨D3, e3, rfl, hC24⟩
             replace hS := hS.call hC24
             simp only [List.cons_append, List.nil_append, List.append_nil] at hS ⊢
             try simp only [opv, n1, n2, n3, n4, Value.cells]
             refine x_nil ?_
             refine any_step [19] (by kernel_rfl) (by decide) (fun w25 hE => ⟨fun _ => (hS.ext hE).sel (by repeat (first | exact Sel.nil | (refine Sel.cons (by repeat (first | exact Del.head | apply Del.tail)) ?_))), ?_⟩)
             replace hS := hS.ext hE
             intro i hi
             simp only [List.mem_cons, List.not_mem_nil, or_false] at hi
             subst hi
             ·
              refine any_op (by rfl) ?_
              refine g_on (yi (t := 32) rfl rfl) ?_
              refine s_call en48 ?_
              try simp only [opv, n1, n2, n3, n4, Value.cells, List.map_toArray, List.map_cons, List.map_nil, List.append_toArray, List.cons_append, List.nil_append, Array.append_empty]
              refine CallR.mono (c_ref13Words _ D2 e2 _ (hS.vecRd (by repeat (first | exact Has.head | apply Has.tail))) hlu D3 e3 _ (hS.vecRd (by repeat (first | exact Has.head | apply Has.tail))) hlu (by omega)) ?_
              rintro _ w26 ⟨rfl, hE26⟩
              replace hS := hS.ext hE26
              try simp only [opv, n1, n2, n3, n4, Value.cells]
              try simp only [eq_self, decide_true, beq_self_eq_true, Bool.and_self]
              refine x_nil ?_
              first | refine any_go (i := 20) (by rfl) (by decide +kernel) (by decide +kernel) noLate_nil (go_yields w_none (fun w hS => s_pick_t)) ?_ | refine any_go (i := 20) (by rfl) (by decide +kernel) (by decide +kernel) noLate_nil (go_yields w_none (fun w hS => s_pick_f)) ?_
              try simp only [opv, n1, n2, n3, n4, Value.cells]
              refine any_go (i := 21) (by rfl) (by decide +kernel) (by decide +kernel) noLate_nil (go_yields w_none (fun w hS => s_move)) ?_
              try simp only [opv, n1, n2, n3, n4, Value.cells]
              refine any_go (i := 22) (by rfl) (by decide +kernel) (by decide +kernel) noLate_nil (go_yields (w_on (yi (t := 43) rfl rfl)) (fun w hS => m_load_row Try.underlying67 (hi := ti67) (hS := hS) (hfit := by rw [setC_size (by assumption)]))) ?_
              try simp only [opv, n1, n2, n3, n4, Value.cells, List.getElem_toArray, List.getElem_cons_zero, List.getElem_cons_succ]
              apply any_go (i := 23) (by rfl) (by decide +kernel) (by decide +kernel) noLate_nil (call_yields (w_on (yi (t := 43) rfl rfl)) en37 ?H6) ?K6
              case H6 =>
                intro w hS
                try simp only [opv, n1, n2, n3, n4, List.map_toArray, List.map_cons, List.map_nil, List.append_toArray, List.cons_append, List.nil_append, Array.append_empty]
                refine CallR.mono (c_to13 _ (by assumption) _ _ _ _) ?_
                rintro _ w1 ⟨rfl, hE⟩; exact ⟨rfl, hE⟩
              try simp only [opv, n1, n2, n3, n4, Value.cells]
              refine any_go (i := 24) (by rfl) (by decide +kernel) (by decide +kernel) noLate_nil (go_yields (w_on (yi (t := 43) rfl rfl)) (fun w hS => m_load_row Try.underlying67 (hi := ti67) (hS := hS) (hfit := by rw [setC_size (by assumption)]))) ?_
              try simp only [opv, n1, n2, n3, n4, Value.cells, List.getElem_toArray, List.getElem_cons_zero, List.getElem_cons_succ]
              apply any_go (i := 25) (by rfl) (by decide +kernel) (by decide +kernel) noLate_nil (call_yields (w_on (yi (t := 43) rfl rfl)) en37 ?H7) ?K7
              case H7 =>
                intro w hS
                try simp only [opv, n1, n2, n3, n4, List.map_toArray, List.map_cons, List.map_nil, List.append_toArray, List.cons_append, List.nil_append, Array.append_empty]
                refine CallR.mono (c_to13 _ (by assumption) _ _ _ _) ?_
                rintro _ w1 ⟨rfl, hE⟩; exact ⟨rfl, hE⟩
              try simp only [opv, n1, n2, n3, n4, Value.cells]
              apply any_go (i := 26) (by rfl) (by decide +kernel) (by decide +kernel) noLate_nil (call_yields (w_on (yi (t := 43) rfl rfl)) en46 ?H8) ?K8
              case H8 =>
                intro w hS
                try simp only [opv, n1, n2, n3, n4, List.map_toArray, List.map_cons, List.map_nil, List.append_toArray, List.cons_append, List.nil_append, Array.append_empty]
                refine CallR.mono (c_dotsSame _ x y hx hy A c cl (hS.hasRd (by repeat (first | exact Has.head | apply Has.tail))) hu B d cm (hS.hasRd (by repeat (first | exact Has.head | apply Has.tail))) hu2 (by omega)) ?_
                rintro _ w1 ⟨rfl, hE⟩; exact ⟨rfl, hE⟩
              try simp only [opv, n1, n2, n3, n4, Value.cells]
              refine any_go (i := 27) (by rfl) (by decide +kernel) (by decide +kernel) noLate_nil (go_yields (w_on (yi (t := 43) rfl rfl)) (fun w hS => s_move)) ?_
              try simp only [opv, n1, n2, n3, n4, Value.cells]
              refine any_go (i := 28) (by rfl) (by decide +kernel) (by decide +kernel) noLate_nil (go_yields (w_on (yi (t := 43) rfl rfl)) (fun w hS => s_eql_bool Try.underlying4)) ?_
              try simp only [opv, n1, n2, n3, n4, Value.cells]
              try simp only [eq_self, decide_true, beq_self_eq_true, Bool.and_self]
              first | refine any_go (i := 29) (by rfl) (by decide +kernel) (by decide +kernel) noLate_nil (go_yields w_none (fun w hS => s_pick_t)) ?_ | refine any_go (i := 29) (by rfl) (by decide +kernel) (by decide +kernel) noLate_nil (go_yields w_none (fun w hS => s_pick_f)) ?_
              try simp only [opv, n1, n2, n3, n4, Value.cells]
              refine any_go (i := 30) (by rfl) (by decide +kernel) (by decide +kernel) noLate_nil (go_yields w_none (fun w hS => s_move)) ?_
              try simp only [opv, n1, n2, n3, n4, Value.cells]
              apply any_go (i := 31) (by rfl) (by decide +kernel) (by decide +kernel) noLate_nil (call_yields (w_on (yi (t := 52) rfl rfl)) en31 ?H9) ?K9
              case H9 =>
                intro w hS
                try simp only [opv, n1, n2, n3, n4, List.map_toArray, List.map_cons, List.map_nil, List.append_toArray, List.cons_append, List.nil_append, Array.append_empty]
                refine CallR.mono (c_law13alive _) ?_
                rintro _ w1 ⟨rfl, hE⟩; exact ⟨rfl, hE⟩
              try simp only [opv, n1, n2, n3, n4, Value.cells]
              first | refine any_go (i := 32) (by rfl) (by decide +kernel) (by decide +kernel) noLate_nil (go_yields w_none (fun w hS => s_pick_t)) ?_ | refine any_go (i := 32) (by rfl) (by decide +kernel) (by decide +kernel) noLate_nil (go_yields w_none (fun w hS => s_pick_f)) ?_
              try simp only [opv, n1, n2, n3, n4, Value.cells]
              refine any_go (i := 33) (by rfl) (by decide +kernel) (by decide +kernel) noLate_nil (go_yields w_none (fun w hS => s_assign)) ?_
              try simp only [opv, n1, n2, n3, n4, Value.cells]
              refine any_nil (by kernel_rfl) (fun w27 hE => ?_)
              replace hS := hS.ext hE
              refine ⟨fun _ => hS.sel (by repeat (first | exact Sel.nil | (refine Sel.cons (by repeat (first | exact Del.head | apply Del.tail)) ?_))), ?_⟩
              refine mix_leaf (by simp only [clob, List.foldl, n1, n2, n3, n4]) ?_
              try simp only [n1, n2]
              exact ⟨by first | trivial | rfl, hS.ext_of⟩
       intro fm2 w28 hM
       obtain ⟨h4, hEE⟩ := hM
       simp only [clob, List.foldl, n3, n4, h4]
       refine hK7 _ _ ?_
       refine x_ret ?_
       refine r_tmp rfl ?_
       first | exact ⟨rfl, hEE⟩ | exact ⟨rfl, hS.ext_of⟩
end Go.Proofs.Ytffmanidnlbjjaa
set_option linter.unusedSimpArgs false
set_option linter.unusedVariables false
set_option maxHeartbeats 800000
set_option maxRecDepth 100000
namespace Go.Proofs.Ytffmanidnlbjjaa
open Go.ChangeShapes Go.WideShapes Go.ChangeAt Go.RowKit

theorem allOk_split {w : World} : ∀ {ks js : List LK} {cs : List Value}, AllOk w (ks ++ js) cs → ∃ a b, cs = a ++ b ∧ AllOk w ks a ∧ AllOk w js b
  | [], js, cs, h => ⟨[], cs, rfl, trivial, h⟩
  | k :: ks, js, v :: cs, h => by
    obtain ⟨a, b, e, h1, h2⟩ := allOk_split (ks := ks) h.2
    exact ⟨v :: a, b, by rw [e]; rfl, ⟨h.1, h1⟩, h2⟩
theorem u64s_of {l : List Int} (h : ∀ x ∈ l, (Lit.int .u64 x).wf = true) : U64s l := fun x hx => by have := bounds_u64 (h x hx); omega
theorem set_open {w : World} {cs : List Value} (h : AllOk w ((List.replicate 16 [LK.int .u32]).flatten ++ ([LK.sl 1 [LK.int .u64]] ++ [])) cs) :
    ∃ (x : List Int) (A : Option Addr) (c : Nat) (cl : List Int), cs = setL x (.slice A cl.length c) ∧ VOk x ∧ Rd w A 1 cl.length (List.map (Value.int .u64) cl) ∧ U64s cl := by
  obtain ⟨a, b, rfl, h1, h2⟩ := allOk_split h
  obtain ⟨x, rfl, hl, hw⟩ := allOk_ints h1
  obtain ⟨v, vs, rfl, hv, hn⟩ := AllOk.inv h2
  obtain rfl := AllOk.nil_inv hn
  obtain ⟨A, n, c, xs, rfl, h3, h4, h5, h6⟩ := hv
  have hlen : xs.length = n := by simpa using h5.1
  obtain ⟨cl, rfl, hcl, hwc⟩ := allOk_int1 (w := w) (k := .u64) (vs := xs) (fun i hi => h6 i (by omega))
  have hn2 : cl.length = n := by rw [hcl, hlen]
  subst hn2
  refine ⟨x, A, c, cl, rfl, ⟨hl, fun i => ?_⟩, h5, u64s_of hwc⟩
  by_cases hi : i < x.length
  · have := bounds_u32 (hw _ (getD_mem' (d := 0) hi)); omega
  · rw [List.getD_eq_getElem?_getD, List.getElem?_eq_none (by omega)]; simp
end Go.Proofs.Ytffmanidnlbjjaa
namespace Go.Proofs.Ytffmanidnlbjjaa
open Go.ChangeShapes Go.WideShapes Go.ChangeAt Go.RowKit
theorem own0 : ownKnob Try.prog.godebug = none := by kernel_rfl
theorem laidOut0 : laidOutB Try.prog = true := by kernel_rfl
theorem fl29 : Flat Try.prog 29 [LK.int .u32] := flat_int Try.underlying29
theorem fl48 : Flat Try.prog 48 [LK.int .u64] := flat_int Try.underlying48
theorem fl64 : Flat Try.prog 64 (List.replicate 16 [LK.int .u32]).flatten := flat_arr Try.underlying64 fl29 rfl (by kernel_rfl) (by kernel_rfl)
theorem fl65 : Flat Try.prog 65 [LK.sl 1 [LK.int .u64]] := flat_slice Try.underlying65 fl48 rfl (by kernel_rfl) (by decide)
theorem fl67 : Flat Try.prog 67 ((List.replicate 16 [LK.int .u32]).flatten ++ ([LK.sl 1 [LK.int .u64]] ++ ([]))) := flat_struct Try.underlying67 (.cons rfl fl64 rfl (by kernel_rfl) (.cons rfl fl65 rfl (by kernel_rfl) (.nil))) (by kernel_rfl)
end Go.Proofs.Ytffmanidnlbjjaa
namespace Go.Proofs.Ytffmanidnlbjjaa
theorem ws_cons {c : Char} (h : c ≠ Char.ofNat 32) (x : List Char) : wordsSigns (c :: x) = (match wordsSigns x with | w :: ws => (c :: w) :: ws | [] => [[c]]) := by
  conv => lhs; unfold wordsSigns
  split
  · simp_all
  · next h1 => exact absurd (by simpa using (List.cons.inj h1).1) h
  · next h1 => obtain ⟨rfl, rfl⟩ := List.cons.inj h1; rfl
theorem ws_app (b : List Char) : ∀ (a : List Char), (∀ c ∈ a, c ≠ Char.ofNat 32) → wordsSigns (a ++ Char.ofNat 32 :: b) = a :: wordsSigns b
  | [], _ => rfl
  | c :: r, h => by
    rw [List.cons_append, ws_cons (h c (by simp)), ws_app b r (fun x hx => h x (by simp [hx]))]
/-- the head's words: harness, a sum, cut -/
theorem head_words {P : Program} {s b : List Char} (he : P.initOrder = String.ofList ("harness".toList ++ Char.ofNat 32 :: (s ++ Char.ofNat 32 :: ("cut".toList ++ Char.ofNat 32 :: b)))) (hs : isSumSigns s = true) (hb : ∀ c ∈ s, c ≠ Char.ofNat 32) :
    ∃ R, behindMainWord (wordsSigns P.initOrder.toList) = "cut".toList :: R := by
  refine ⟨wordsSigns b, ?_⟩
  rw [he, String.toList_ofList, ws_app _ _ (by decide), ws_app _ _ hb, ws_app _ _ (by decide)]
  simp only [behindMainWord, hs, beq_self_eq_true, Bool.true_or, Bool.and_self, if_true]
theorem e_gc : ("cut".toList == "gc".toList) = false := by decide
theorem e_spec : ("cut".toList == "spec".toList) = false := by decide
theorem e_car : ("cut".toList == "carried".toList) = false := by decide
theorem e_sl (R : List (List Char)) : stripLifts liftWords ("cut".toList :: R) = ([], "cut".toList :: R) := by
  have h : ∀ (l : List String), (∀ o ∈ l, ("cut".toList == o.toList) = false) → stripLifts l ("cut".toList :: R) = ([], "cut".toList :: R) := by
    intro l
    induction l with
    | nil => intro _; rfl
    | cons o os ih => intro hl; rw [stripLifts, hl o (by simp)]; simp only [Bool.false_eq_true, if_false]; exact ih fun x hx => hl x (by simp [hx])
  exact h liftWords (by decide)
section
variable {P : Program} (h : ∃ R, behindMainWord (wordsSigns P.initOrder.toList) = "cut".toList :: R)
include h
theorem make_of : P.make = some .cut := by
  obtain ⟨R, h⟩ := h
  unfold Program.make
  rw [h]
  simp only [e_gc, e_spec, beq_self_eq_true, Bool.or_self, Bool.true_or, Bool.false_eq_true, if_false, if_true]
theorem lifts_of : P.liftsFinal = false := by
  obtain ⟨R, h⟩ := h
  unfold Program.liftsFinal Program.headLifts
  rw [h, e_sl]
  show (_ || _) = false
  rfl
theorem enter_of (hl : P.laysLater = false) (hr : P.bearsReflect = false) (hd : P.doorFits [] = true) : P.mayEnter = true := by
  obtain ⟨R, h⟩ := h
  unfold Program.mayEnter
  rw [h]
  dsimp only
  rw [e_sl, hl, hr]
  simp only [hd, e_gc, e_spec, e_car, beq_self_eq_true, Bool.or_self, Bool.false_and, Bool.not_false, Bool.or_true, Bool.and_true, List.head?_cons, List.contains_nil]
end
theorem closed_of {P : Program} {f : FuncId} {fn : Func} {s : ChangeSpec} {c : OpenClaim} (hm : P.make = some .cut) (hl : P.liftsFinal = false) (he : P.mayEnter = true) (h2 : laidOutB P = true) (h3 : mapsRowed P = true) (hst : (P.stops == []) = true) (hk : (P.stopKnobs == []) = true)
    (hp : P.plainKeys = c.plainKeys) (hh : P.stopsHeard = true) (i1 : P.inPlace f = c.inPlace) (i2 : P.unfollowed f = c.unfollowed) (i3 : P.recurses f = c.recurses) (i4 : P.varsNamed f = c.named)
    (rest : (c.wf (OpenSpec.ofChange s) && fn.params.all (P.readableRec ·) && namedTie P c.named s.vars && (c.stops == []) && (c.knobs == []) &&
      (c.maps == (fn.params.toList ++ s.plain.varTypes P).any (P.mapsRec ·)) && (c.ifaces == (fn.params.toList ++ s.plain.varTypes P).any (P.ifacesRec ·)) && (c.mapsOut == P.mapsAmong fn.resultTypes.toList) &&
      (c.loops == (fn.params.toList ++ s.plain.varTypes P).any (P.loopsFrom ·)) && (c.wideKeys == (fn.params.toList ++ s.plain.varTypes P ++ fn.resultTypes.toList).any (P.wideKeysFrom ·)) &&
      s.vars.all (P.varReadable ·) && fn.resultTypes.all (fun t => P.readableRec t && decide (t < P.types.size)) && (c.ifacesOut == fn.resultTypes.toList.any (P.ifacesRec ·)) && (c.loopsOut == fn.resultTypes.toList.any (P.loopsFrom ·)) && c.shortTexts.isNone && (c.lifted == false) && (some Make.cut == some c.make) &&
      (c.kinds == (if c.domain.isEmpty then [] else fn.params.toList.map fun t => match P.underlying t with | some (.int k) => some k | _ => none)) && (c.pinned == c.pinnedBy) &&
      (c.veiled == (fn.params.toList ++ s.plain.varTypes P ++ fn.resultTypes.toList).any (P.veiledRec ·)) && c.veiledFits P fn.params.toList (fn.params.toList ++ s.plain.varTypes P ++ fn.resultTypes.toList)) = true) : joinedFacts P f fn s c = true := by
  simp only [Bool.and_eq_true] at rest
  unfold joinedFacts
  rw [hm, hl, he, h2, h3, hst, hk, hp, hh, i1, i2, i3, i4]
  simp only [beq_self_eq_true, Bool.and_eq_true, Bool.and_true]
  have hkd := rest.1.1.1.2
  simp only [rest, and_self]
  exact ⟨⟨⟨⟨trivial, hkd⟩, trivial⟩, trivial⟩, trivial⟩
end Go.Proofs.Ytffmanidnlbjjaa
namespace Go.Proofs.Ytffmanidnlbjjaa
def ioS : List Nat := [55, 54, 99, 48, 99, 99, 57, 102, 100, 49, 97, 101, 97, 50, 102, 51, 48, 57, 100, 51, 52, 54, 49, 98, 100, 54, 53, 102, 53, 50, 100, 102, 100, 100, 102, 97, 52, 53, 48, 97, 50, 97, 99, 48, 98, 101, 98, 53, 51, 53, 49, 102, 53, 48, 57, 99, 101, 49, 57, 56, 57, 50, 48, 49]
def ioB : List Nat := [97, 116, 32, 104, 97, 110, 100, 99, 97, 114, 116, 47, 104, 97, 110, 100, 99, 97, 114, 116, 108, 97, 119, 49, 52, 46, 84, 97, 103, 115, 65, 100, 100, 115, 32, 104, 97, 110, 100, 99, 97, 114, 116, 47, 104, 97, 110, 100, 99, 97, 114, 116, 108, 97, 119, 49, 52, 46, 84, 97, 103, 115, 87, 105, 110, 32, 104, 97, 110, 100, 99, 97, 114, 116, 47, 104, 97, 110, 100, 99, 97, 114, 116, 108, 97, 119, 50, 49, 46, 67, 104, 117, 110, 107, 70, 101, 119, 101, 115, 116, 32, 104, 97, 110, 100, 99, 97, 114, 116, 47, 104, 97, 110, 100, 99, 97, 114, 116, 108, 97, 119, 49, 51, 46, 68, 111, 116, 115, 65, 100, 100, 115, 32, 104, 97, 110, 100, 99, 97, 114, 116, 47, 104, 97, 110, 100, 99, 97, 114, 116, 108, 97, 119, 49, 51, 46, 68, 111, 116, 115, 65, 108, 111, 110, 101, 32, 104, 97, 110, 100, 99, 97, 114, 116, 47, 104, 97, 110, 100, 99, 97, 114, 116, 108, 97, 119, 49, 51, 46, 68, 111, 116, 115, 74, 111, 105, 110, 115]
theorem io_eq : Try.prog.initOrder = String.ofList ("harness".toList ++ Char.ofNat 32 :: (ioS.map Char.ofNat ++ Char.ofNat 32 :: ("cut".toList ++ Char.ofNat 32 :: ioB.map Char.ofNat))) := by kernel_rfl
theorem io_sum : isSumSigns (ioS.map Char.ofNat) = true := by kernel_rfl
theorem io_hd : ∃ R, behindMainWord (wordsSigns Try.prog.initOrder.toList) = "cut".toList :: R := head_words io_eq io_sum (by decide)
theorem p_make : Try.prog.make = some .cut := make_of io_hd
theorem p_lifts : Try.prog.liftsFinal = false := lifts_of io_hd
theorem p_ll : Try.prog.laysLater = false := by kernel_rfl
theorem p_br : Try.prog.bearsReflect = false := by kernel_rfl
theorem p_df : Try.prog.doorFits [] = true := by kernel_rfl
theorem p_enter : Try.prog.mayEnter = true := enter_of io_hd p_ll p_br p_df
theorem p_rowed : mapsRowed Try.prog = true := by kernel_rfl
theorem p_stops : (Try.prog.stops == []) = true := by kernel_rfl
theorem p_knobs : (Try.prog.stopKnobs == []) = true := by kernel_rfl
theorem p_keys : Try.prog.plainKeys = false := by kernel_rfl
theorem p_heard : Try.prog.stopsHeard = true := by kernel_rfl
end Go.Proofs.Ytffmanidnlbjjaa
